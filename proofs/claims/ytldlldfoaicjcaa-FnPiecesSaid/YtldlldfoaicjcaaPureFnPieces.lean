/- An updated piece keeps a list of pieces right, is as far off as a list of right pieces is, and is what the data pieces encode to: the walk of the law. No conditions beyond the row's own. -/
import Derived.Test.YtldlldfoaicjcaaMFnPiecesx11
import Derived.Test.YtldlldfoaicjcaaMFnPiecesx0
import Derived.Test.YtldlldfoaicjcaaMFnPiecesx1
import Derived.Test.YtldlldfoaicjcaaMFnPiecesx2
import Derived.Test.YtldlldfoaicjcaaMFnPiecesx3
import Derived.Test.YtldlldfoaicjcaaMFnPiecesx4
import Derived.Test.YtldlldfoaicjcaaMFnPiecesx5
import Derived.Test.YtldlldfoaicjcaaMFnPiecesx6
import Derived.Test.YtldlldfoaicjcaaMFnPiecesx7
import Derived.Test.YtldlldfoaicjcaaMFnPiecesx8
import Derived.Test.YtldlldfoaicjcaaMFnPiecesx9
import Derived.Test.YtldlldfoaicjcaaMFnPiecesx10
import Derived.Test.YtldlldfoaicjcaaBit
import Derived.Test.YtldlldfoaicjcaaPoly
import Derived.Test.YtldlldfoaicjcaaMat
import Derived.Test.YtldlldfoaicjcaaLin
import Derived.Test.YtldlldfoaicjcaaElim
import Derived.Test.YtldlldfoaicjcaaMx
import Derived.Test.YtldlldfoaicjcaaEnv
import Derived.StillTailTactics
set_option linter.unusedVariables false
set_option linter.unusedSimpArgs false
namespace Go.Proofs.Ytldlldfoaicjcaa.Pure
open Go.RowKit Go.Proofs.Ytldlldfoaicjcaa Go.Proofs.Ytldlldfoaicjcaa.MFnPieces Go.Proofs.YtldlldfoaicjcaaW.PrintWords Go.Proofs.YtldlldfoaicjcaaW.PrintLast Go.Proofs.Ytldlldfoaicjcaa.Bit

theorem impl_within_eq (a b c : Int) : impl_within.f a b c = some (decide (b ≤ a ∧ a ≤ c)) := by
  unfold impl_within.f
  by_cases h : a ≥ b
  · rw [if_pos h]; congr 1; simp [show b ≤ a from h]
  · rw [if_neg h]; congr 1; simp; omega

/-- Is a number an element? -/
def isB (a : Int) : Bool := decide (0 ≤ a ∧ a ≤ 255)
theorem isB_nat {a : Int} (h : isB a = true) : ∃ n : Nat, a = (n : Int) ∧ n < 256 := by
  simp only [isB, decide_eq_true_eq] at h
  exact ⟨a.toNat, by omega, by omega⟩
theorem isB_cast {n : Nat} (h : n < 256) : isB (n : Int) = true := by simp only [isB, decide_eq_true_eq]; omega

theorem impl_isGf_eq (a : Int) : impl_isGf.f a = some (isB a) := by
  unfold impl_isGf.f; rw [impl_within_eq]; rfl

theorem rd_nat (l : List Int) (i : Nat) (h : i < l.length) : rd l (i : Int) = l[i] := by
  unfold rd
  simp [List.getD_eq_getElem?_getD, List.getElem?_eq_getElem h]
theorem wrap_succ (i : Nat) (h : i < 9223372036854775807) : wrap64 ((i : Int) + 1) = ((i + 1 : Nat) : Int) := by rw [wrap_id (by omega) (by omega)]; omega

theorem laws_sameInts_same (l : List Int) (hl : l.length ≤ 1000000) : Ev (fun k => laws_sameInts.f k l l) true := by
  have h : ∀ d i : Nat, i + d = l.length → Ev (fun k => laws_sameInts.l0 k l l (l.length : Int) (i : Int)) true := by
    intro d
    induction d with
    | zero =>
      intro i hi
      exact Ev.step (f := fun _ => some true) (fun k => by rw [laws_sameInts.l0.eq_2, if_neg (by omega)]) (Ev.now _)
    | succ d ih =>
      intro i hi
      refine Ev.step (f := fun k => laws_sameInts.l0 k l l (l.length : Int) ((i + 1 : Nat) : Int)) (fun k => ?_) (ih (i + 1) (by omega))
      rw [laws_sameInts.l0.eq_2, if_pos (by omega), if_pos (by omega), if_pos (by omega), if_pos (by omega), if_pos rfl, wrap_succ i (by omega)]
  unfold laws_sameInts.f
  simp only [if_pos]
  exact h l.length 0 (by omega)

theorem rdL_nat (l : List (List Int)) (i : Nat) (h : i < l.length) : rd_L1 l (i : Int) = l[i] := by
  unfold rd_L1
  simp [List.getD_eq_getElem?_getD, List.getElem?_eq_getElem h]

theorem laws_sameLists_same (m : List (List Int)) (hl : m.length ≤ 1000000) (hr : ∀ r ∈ m, r.length ≤ 1000000) : Ev (fun k => laws_sameLists.f k m m) true := by
  have h : ∀ d i : Nat, i + d = m.length → Ev (fun k => laws_sameLists.l0 k m m (m.length : Int) (i : Int)) true := by
    intro d
    induction d with
    | zero =>
      intro i hi
      exact Ev.step (f := fun _ => some true) (fun k => by rw [laws_sameLists.l0.eq_2, if_neg (by omega)]) (Ev.now _)
    | succ d ih =>
      intro i hi
      have hlt : i < m.length := by omega
      refine Ev.step (f := fun k => (laws_sameInts.f k m[i] m[i]).bind fun t => if t = true then laws_sameLists.l0 k m m (m.length : Int) ((i + 1 : Nat) : Int) else some false) (fun k => ?_) (Ev.bind (f := fun k t => if t = true then laws_sameLists.l0 k m m (m.length : Int) ((i + 1 : Nat) : Int) else some false) (laws_sameInts_same m[i] (hr _ (List.getElem_mem hlt))) ?_)
      · rw [laws_sameLists.l0.eq_2, if_pos (by omega), if_pos (by omega), if_pos (by omega), if_pos (by omega), rdL_nat m i hlt, wrap_succ i (by omega)]
      · simp only [if_true]
        exact ih (i + 1) (by omega)
  unfold laws_sameLists.f
  simp only [if_pos]
  exact h m.length 0 (by omega)
theorem sameL_c (m : List (List Int)) (hl : m.length ≤ 1000000) (hr : ∀ r ∈ m, r.length ≤ 1000000) {A B : Option Addr} {n k : Nat} (hn : m.length ≤ n) (hk : m.length ≤ k) (w : World) (h1 : Kd.C (Kd.slice 3 (Kd.int .i64)) w A m.length m) (h2 : Kd.C (Kd.slice 3 (Kd.int .i64)) w B m.length m) :
    Calls Try.prog 26 #[.slice A m.length n, .slice B m.length k] w fun e w' => e = .returned (.bool true) ∧ Below w.heap.size w w' := by
  obtain ⟨K, hK⟩ := (laws_sameLists_same m hl hr).rounds
  exact (laws_sameLists.calls K A n m B k m true w h1 hn h2 hk hK).mono fun e w' ⟨he, hd⟩ => ⟨he, hd.below⟩

theorem and_255 (x : Int) : 0 ≤ Go.bits .and .u64 x 255 ∧ Go.bits .and .u64 x 255 ≤ 255 := by
  have h : Go.bits .and .u64 x 255 = IntKind.u64.wrap ((BitVec.ofInt 64 x &&& BitVec.ofInt 64 255).toNat : Int) := rfl
  rw [h, BitVec.toNat_and]
  have h2 : (BitVec.ofInt 64 255).toNat = 255 := by decide
  rw [h2]
  have h3 : (BitVec.ofInt 64 x).toNat &&& 255 ≤ 255 := Nat.and_le_right
  rw [IntKind.wrap_u64]
  omega
theorem wrap_in {n : Int} (h0 : -1000000000000000 ≤ n) (h1 : n ≤ 1000000000000000) : wrap64 n = n := wrap_id (by omega) (by omega)
theorem tmod_in (x n : Int) (hx : 0 ≤ x) (hn : 0 < n) : 0 ≤ Int.tmod x n ∧ Int.tmod x n < n ∧ Int.tmod x n ≤ x := by
  obtain ⟨a, rfl⟩ := nat_of hx
  obtain ⟨b, rfl⟩ := nat_of (a := n) (by omega)
  have e : Int.tmod (a : Int) (b : Int) = ((a % b : Nat) : Int) := rfl
  rw [e]
  have := Nat.mod_lt a (show b > 0 by omega)
  have := Nat.mod_le a b
  omega
/-- The bytes that are drawn from. -/
def BY (s : List Int) : Prop := ∀ x ∈ s, 0 ≤ x ∧ x ≤ 255
theorem wf_BY {s : List Int} (h : ∀ x ∈ s, (Lit.int .u8 x).wf = true) : BY s := fun x hx => by
  have := h x hx
  simp only [Lit.wf, IntKind.min, IntKind.max, IntKind.signed, IntKind.bits, Bool.and_eq_true, decide_eq_true_eq] at this
  simp at this
  omega
theorem BY.rd {s : List Int} (h : BY s) (i : Int) : 0 ≤ rd s i ∧ rd s i ≤ 255 := by
  unfold Go.Proofs.YtldlldfoaicjcaaW.PrintWords.rd
  rw [List.getD_eq_getElem?_getD]
  cases e : s[i.toNat]? with
  | none => exact ⟨Int.le_refl _, (by decide : (0 : Int) ≤ 255)⟩
  | some v => exact h v (List.mem_of_getElem? e)

theorem spec_l1Cur_next_ex {s : List Int} (hs : BY s) {a : Int} (d : Int) (ha : 0 ≤ a) (hb : a ≤ 1000000000000) : ∃ v a' d', spec_l1Cur_next.f s a d = some (v, a', d') ∧ 0 ≤ v ∧ v ≤ 255 ∧ 0 ≤ a' ∧ a' ≤ a + 1 := by
  have ew : wrap64 (a + 1) = a + 1 := wrap_in (by omega) (by omega)
  unfold spec_l1Cur_next.f
  rw [ew]
  have hr := hs.rd a
  by_cases h1 : a < (s.length : Int)
  · rw [if_pos h1, if_pos ha]
    by_cases h2 : a + 1 ≤ (s.length : Int)
    · rw [if_pos h2]
      exact ⟨_, _, _, rfl, by rw [wrap_in (by omega) (by omega)]; omega, by rw [wrap_in (by omega) (by omega)]; omega, by omega, by omega⟩
    · omega
  · rw [if_neg h1]
    by_cases h2 : a + 1 ≤ (s.length : Int)
    · omega
    · rw [if_neg h2]
      generalize IntKind.u64.wrap ((IntKind.u64.wrap ((IntKind.u64.wrap (d * 6364136223846793005)))) + 1442695040888963407) = z
      have hz := and_255 (z / 1099511627776)
      exact ⟨_, _, _, rfl, by rw [wrap_in (by omega) (by omega)]; omega, by rw [wrap_in (by omega) (by omega)]; omega, by omega, by omega⟩

theorem spec_l1Cur_pick_ex {s : List Int} (hs : BY s) {a : Int} (d : Int) (n : Int) (ha : 0 ≤ a) (hb : a ≤ 900000000000) : ∃ v a' d', spec_l1Cur_pick.f s a d n = some (v, a', d') ∧ 0 ≤ v ∧ (v < n ∨ v = 0) ∧ v ≤ 65535 ∧ 0 ≤ a' ∧ a' ≤ a + 2 := by
  unfold spec_l1Cur_pick.f
  by_cases h1 : n ≤ 1
  · rw [if_pos h1]; exact ⟨_, _, _, rfl, by omega, by omega, by omega, by omega, by omega⟩
  · rw [if_neg h1]
    obtain ⟨v, a1, d1, e1, h2, h3, h4, h5⟩ := spec_l1Cur_next_ex hs d ha (by omega)
    rw [e1, Option.bind_some]
    by_cases h6 : n > 200
    · obtain ⟨v2, a2, d2, e2, h7, h8, h9, h10⟩ := spec_l1Cur_next_ex hs d1 h4 (by omega)
      have ew : wrap64 (wrap64 (v * 256) + v2) = v * 256 + v2 := by rw [wrap_in (n := v * 256) (by omega) (by omega), wrap_in (by omega) (by omega)]
      have ht := tmod_in (v * 256 + v2) n (by omega) (by omega)
      simp only [if_pos h6, e2, Option.bind_some, ew, if_neg (show ¬ n = 0 by omega)]
      exact ⟨_, _, _, rfl, by omega, by omega, by omega, by omega, by omega⟩
    · have ht := tmod_in v n (by omega) (by omega)
      simp only [if_neg h6, if_neg (show ¬ n = 0 by omega)]
      exact ⟨_, _, _, rfl, by omega, by omega, by omega, by omega, by omega⟩

theorem spec_l1Cur_one_ex {s : List Int} (hs : BY s) {a : Int} (d : Int) (n : Int) (ha : 0 ≤ a) (hb : a ≤ 900000000000) : ∃ v a' d', spec_l1Cur_one.f s a d n = some (v, a', d') ∧ 0 ≤ a' ∧ a' ≤ a + 2 := by
  obtain ⟨v, a1, d1, e1, h2, h3, h4, h5, h6⟩ := spec_l1Cur_pick_ex hs d n ha hb
  unfold spec_l1Cur_one.f
  rw [e1, Option.bind_some]
  exact ⟨_, _, _, rfl, h5, h6⟩

theorem spec_l1In_eq (a b c : Int) : spec_l1In.f a b c = some (decide (b ≤ a ∧ a ≤ c)) := by
  unfold spec_l1In.f
  by_cases h : a ≥ b
  · rw [if_pos h]; congr 1; simp [show b ≤ a from h]
  · rw [if_neg h]; congr 1; simp; omega

theorem spec_l1Gf_eq (a : Int) : spec_l1Gf.f a = some (isB a) := by
  unfold spec_l1Gf.f; rw [spec_l1In_eq]; rfl

theorem rd_get (l : List Int) (i : Nat) (h : i < l.length) : rd l (i : Int) = l[i] := by
  unfold rd
  simp [List.getD_eq_getElem?_getD, List.getElem?_eq_getElem h]
theorem wrap_up (i : Nat) (h : i < 9223372036854775807) : wrap64 ((i : Int) + 1) = ((i + 1 : Nat) : Int) := by rw [wrap_id (by omega) (by omega)]; omega
theorem wrap_down (a : Nat) (h : a ≤ 9223372036854775807) : wrap64 ((a : Int) - 1) = (a : Int) - 1 := wrap_id (by omega) (by omega)
theorem allB_up {l : List Int} (h : l.all isB = true) : ∃ m : List Nat, l = Poly.up m ∧ Poly.AllB m := by
  refine Poly.up_of fun x hx => ?_
  have := List.all_eq_true.1 h x hx
  simpa [isB] using this
theorem up_allB {m : List Nat} (h : Poly.AllB m) : (Poly.up m).all isB = true := by
  rw [List.all_eq_true]
  intro x hx
  have := Poly.up_bytes h x hx
  simp only [isB, decide_eq_true_eq]; omega

theorem spec_l1All_l0 (l : List Int) (hl : l.length ≤ 140737488351232) : ∀ d i : Nat, i + d = l.length → Ev (fun k => spec_l1All.l0 k l (l.length : Int) (i : Int)) ((l.drop i).all isB) := by
  intro d
  induction d with
  | zero =>
    intro i hi
    obtain rfl : i = l.length := by omega
    rw [List.drop_length]
    exact Ev.step (f := fun _ => some true) (fun k => by simp only [spec_l1All.l0]; rw [if_neg (by omega)]) (Ev.now _)
  | succ d ih =>
    intro i hi
    have hlt : i < l.length := by omega
    rw [List.drop_eq_getElem_cons hlt, List.all_cons]
    cases hb : isB l[i] with
    | true =>
      refine Ev.step (f := fun k => spec_l1All.l0 k l (l.length : Int) ((i + 1 : Nat) : Int)) (fun k => ?_) (ih (i + 1) (by omega))
      simp only [spec_l1All.l0, rd_get l i hlt, wrap_up i (by omega), spec_l1Gf_eq, hb, Option.bind_some, if_true]
      rw [if_pos (by omega), if_pos (by omega), if_pos (by omega)]
    | false =>
      refine Ev.step (f := fun _ => some false) (fun k => ?_) (Ev.now _)
      simp only [spec_l1All.l0, rd_get l i hlt, wrap_up i (by omega), spec_l1Gf_eq, hb, Option.bind_some]
      rw [if_pos (by omega), if_pos (by omega), if_pos (by omega)]; rfl
theorem spec_l1All_ev (l : List Int) (hl : l.length ≤ 140737488351232) : Ev (fun k => spec_l1All.f k l) (l.all isB) := spec_l1All_l0 l hl l.length 0 (by omega)

theorem xor_up {a b : Nat} (ha : a < 256) (hb : b < 256) : Go.bits .xor .i64 (a : Int) (b : Int) = ((a ^^^ b : Nat) : Int) := xor_nat (by omega) (by omega)
theorem wrap_nat (n : Nat) (h : n ≤ 9223372036854775807) : wrap64 (n : Int) = (n : Int) := wrap_id (by omega) (by omega)
theorem wrap_add (a b : Nat) (h : a + b ≤ 9223372036854775807) : wrap64 ((a : Int) + (b : Int)) = ((a + b : Nat) : Int) := by rw [wrap_id (by omega) (by omega)]; omega
theorem wrap_pred (a : Nat) (h : a ≤ 9223372036854775807) (h0 : 0 < a) : wrap64 ((a : Int) - 1) = ((a - 1 : Nat) : Int) := by rw [wrap_id (by omega) (by omega)]; omega

/-- Lists of rows of natural numbers as Go's. -/
def upM (m : List (List Nat)) : List (List Int) := m.map Poly.up
def dnM (m : List (List Int)) : List (List Nat) := m.map fun r => r.map Int.toNat
theorem upM_length (m : List (List Nat)) : (upM m).length = m.length := by simp [upM]
theorem upM_snoc (m : List (List Nat)) (r : List Nat) : upM m ++ [Poly.up r] = upM (m ++ [r]) := by simp [upM]
theorem upM_append (l m : List (List Nat)) : upM l ++ upM m = upM (l ++ m) := by simp [upM]
theorem upM_set (m : List (List Nat)) (i : Nat) (r : List Nat) : (upM m).set i (Poly.up r) = upM (m.set i r) := by simp [upM, List.map_set]
theorem upM_nil : ([] : List (List Int)) = upM [] := rfl
theorem upM_getD (m : List (List Nat)) (i : Nat) : (upM m).getD i [] = Poly.up (m.getD i []) := by
  unfold upM
  rw [List.getD_eq_getElem?_getD, List.getElem?_map, List.getD_eq_getElem?_getD]
  cases m[i]? <;> rfl
theorem rdL_up (m : List (List Nat)) (i : Nat) : rd_L1 (upM m) (i : Int) = Poly.up (m.getD i []) := by
  unfold rd_L1
  rw [Int.toNat_natCast]
  exact upM_getD m i
theorem rdL_up0 (m : List (List Nat)) : rd_L1 (upM m) 0 = Poly.up (m.getD 0 []) := rdL_up m 0
theorem dn_up (l : List Nat) : (Poly.up l).map Int.toNat = l := by
  unfold Poly.up
  rw [List.map_map]
  exact (List.map_congr_left (fun x _ => Int.toNat_natCast x)).trans (List.map_id' l)
theorem dnM_upM (m : List (List Nat)) : dnM (upM m) = m := by
  unfold dnM upM
  rw [List.map_map]
  exact (List.map_congr_left (fun x _ => dn_up x)).trans (List.map_id' m)
theorem upM_inj {l m : List (List Nat)} (h : upM l = upM m) : l = m := by rw [← dnM_upM l, h, dnM_upM]
/-- Rows of c elements. -/
def areR (c : Nat) (m : List (List Int)) : Bool := m.all fun r => decide (r.length = c) && r.all isB
theorem areR_up {c : Nat} : ∀ {m : List (List Int)}, areR c m = true → ∃ n, m = upM n ∧ Mat.MB' c n
  | [], _ => ⟨[], rfl, fun r hr => by cases hr⟩
  | r :: m, h => by
    simp only [areR, List.all_cons, Bool.and_eq_true, decide_eq_true_eq] at h
    obtain ⟨n, rfl, hn⟩ := areR_up (m := m) (by simpa [areR] using h.2)
    obtain ⟨q, rfl, hq⟩ := allB_up h.1.2
    refine ⟨q :: n, rfl, fun x hx => ?_⟩
    rcases List.mem_cons.1 hx with rfl | hx
    · exact ⟨by simpa [Poly.up_length] using h.1.1, hq⟩
    · exact hn x hx
theorem up_areR {c : Nat} {n : List (List Nat)} (h : Mat.MB' c n) : areR c (upM n) = true := by
  unfold areR upM
  rw [List.all_eq_true]
  intro x hx
  obtain ⟨r, hr, rfl⟩ := List.mem_map.1 hx
  rw [Bool.and_eq_true, decide_eq_true_eq, Poly.up_length]
  exact ⟨(h r hr).1, up_allB (h r hr).2⟩
def goodM (m : List (List Int)) : Bool := decide (1 ≤ m.length ∧ m.length ≤ 8) && (decide (1 ≤ (m.getD 0 []).length ∧ (m.getD 0 []).length ≤ 8) && areR (m.getD 0 []).length m)
theorem goodM_up {m : List (List Int)} (h : goodM m = true) : ∃ c n, m = upM n ∧ Mat.MB' c n ∧ (m.getD 0 []).length = c ∧ m.length = n.length ∧ 1 ≤ n.length ∧ n.length ≤ 8 ∧ 1 ≤ c ∧ c ≤ 8 := by
  simp only [goodM, Bool.and_eq_true, decide_eq_true_eq] at h
  obtain ⟨n, hn, hB⟩ := areR_up h.2.2
  exact ⟨_, n, hn, hB, rfl, by rw [hn, upM_length], by rw [← upM_length, ← hn]; exact h.1.1, by rw [← upM_length, ← hn]; exact h.1.2, h.2.1.1, h.2.1.2⟩
theorem up_goodM {c : Nat} {n : List (List Nat)} (h : Mat.MB' c n) (h1 : 1 ≤ n.length) (h2 : n.length ≤ 8) (h3 : 1 ≤ c) (h4 : c ≤ 8) : goodM (upM n) = true := by
  have e : ((upM n).getD 0 []).length = c := by rw [upM_getD, Poly.up_length]; exact (h.get (by omega)).1
  unfold goodM
  rw [e, up_areR h, upM_length, decide_eq_true (by omega), decide_eq_true (by omega)]; rfl
theorem goodM_rows {m : List (List Int)} (h : goodM m = true) : m.length ≤ 8 ∧ ∀ r ∈ m, r.length ≤ 8 := by
  obtain ⟨c, n, rfl, hB, _, _, _, h2, _, h4⟩ := goodM_up h
  refine ⟨by rw [upM_length]; exact h2, fun r hr => ?_⟩
  obtain ⟨q, hq, rfl⟩ := List.mem_map.1 hr
  rw [Poly.up_length, (hB q hq).1]; exact h4
theorem upM_small {c k : Nat} {n : List (List Nat)} (h : Mat.MB' c n) (hl : n.length ≤ k) (hc : c ≤ k) : (upM n).length ≤ k ∧ ∀ r ∈ upM n, r.length ≤ k := by
  refine ⟨by rw [upM_length]; exact hl, fun r hr => ?_⟩
  obtain ⟨q, hq, rfl⟩ := List.mem_map.1 hr
  rw [Poly.up_length, (h q hq).1]; exact hc

/-- Pieces, all as long. -/
def areP (m : List (List Int)) : Bool := decide ((m.getD 0 []).length ≤ 32) && areR (m.getD 0 []).length m
theorem areP_up {m : List (List Int)} (h : areP m = true) : ∃ c n, m = upM n ∧ Mat.MB' c n ∧ (m.getD 0 []).length = c ∧ c ≤ 32 := by
  simp only [areP, Bool.and_eq_true, decide_eq_true_eq] at h
  obtain ⟨n, hn, hB⟩ := areR_up h.2
  exact ⟨_, n, hn, hB, rfl, h.1⟩
theorem up_areP {c : Nat} {n : List (List Nat)} (h : Mat.MB' c n) (hc : c ≤ 32) (hn : 0 < n.length) : areP (upM n) = true := by
  have e : ((upM n).getD 0 []).length = c := by rw [upM_getD, Poly.up_length]; exact (h.get hn).1
  unfold areP
  rw [e, up_areR h, decide_eq_true hc]; rfl
theorem areP_split {c : Nat} : ∀ (m : List (List Int)), (m.all fun r => decide (r.length = c) && (decide (r.length ≤ 32) && r.all isB)) = ((m.isEmpty || decide (c ≤ 32)) && areR c m)
  | [] => by simp [areR]
  | r :: m => by
    have ih := areP_split (c := c) m
    simp only [areR, List.all_cons, List.isEmpty_cons, Bool.false_or] at ih ⊢
    rw [ih]
    by_cases h1 : r.length = c
    · rw [h1]
      cases decide (c ≤ 32) <;> cases m.isEmpty <;> simp
    · rw [decide_eq_false h1]; simp

theorem spec_l3Pieces_l0 (m : List (List Int)) (a : Int) (hl : m.length ≤ 140737488351232) (hr : ∀ r ∈ m, r.length ≤ 140737488351232) : ∀ d i : Nat, i + d = m.length →
    Ev (fun k => spec_l3Pieces.l0 k m a m (m.length : Int) (i : Int)) (((m.drop i).all fun r => decide (r.length = (m.getD 0 []).length) && (decide (r.length ≤ 32) && r.all isB)) && decide ((m.length : Int) = a)) := by
  intro d
  induction d with
  | zero =>
    intro i hi
    obtain rfl : i = m.length := by omega
    rw [List.drop_length, List.all_nil, Bool.true_and]
    refine Ev.step (f := fun _ => some (decide ((m.length : Int) = a))) (fun k => ?_) (Ev.now _)
    rw [spec_l3Pieces.l0.eq_2, if_neg (by omega)]
    by_cases h : (m.length : Int) = a
    · rw [decide_eq_true h, h]; simp
    · rw [decide_eq_false h, beq_eq_false_iff_ne.mpr h]
  | succ d ih =>
    intro i hi
    have hlt : i < m.length := by omega
    have hz : rd_L1 m 0 = m.getD 0 [] := rfl
    rw [List.drop_eq_getElem_cons hlt, List.all_cons]
    have E := spec_l1All_ev m[i] (hr _ (List.getElem_mem hlt))
    by_cases h1 : m[i].length = (m.getD 0 []).length
    · rw [decide_eq_true h1, Bool.true_and]
      by_cases h2 : m[i].length ≤ 32
      · rw [decide_eq_true h2, Bool.true_and]
        refine Ev.step (f := fun k => (spec_l1All.f k m[i]).bind fun t => if t = true then spec_l3Pieces.l0 k m a m (m.length : Int) ((i + 1 : Nat) : Int) else some false) (fun k => ?_) (Ev.bind (f := fun k t => if t = true then spec_l3Pieces.l0 k m a m (m.length : Int) ((i + 1 : Nat) : Int) else some false) E ?_)
        · rw [spec_l3Pieces.l0.eq_2, if_pos (by omega), if_pos (by omega), if_pos (by omega), if_pos (by omega), rdL_nat m i hlt, hz, if_pos (by omega), if_neg (by omega), wrap_succ i (by omega)]
        · cases m[i].all isB
          · rw [Bool.false_and, Bool.false_and]; exact Ev.now _
          · rw [Bool.true_and]
            simp only [if_true]
            exact ih (i + 1) (by omega)
      · rw [decide_eq_false h2, Bool.false_and, Bool.false_and, Bool.false_and]
        refine Ev.step (f := fun _ => some false) (fun k => ?_) (Ev.now _)
        rw [spec_l3Pieces.l0.eq_2, if_pos (by omega), if_pos (by omega), if_pos (by omega), if_pos (by omega), rdL_nat m i hlt, hz, if_pos (by omega), if_pos (by omega)]
    · rw [decide_eq_false h1, Bool.false_and, Bool.false_and, Bool.false_and]
      refine Ev.step (f := fun _ => some false) (fun k => ?_) (Ev.now _)
      rw [spec_l3Pieces.l0.eq_2, if_pos (by omega), if_pos (by omega), if_pos (by omega), if_pos (by omega), rdL_nat m i hlt, hz, if_neg (by omega)]
theorem spec_l3Pieces_ev (m : List (List Int)) (a : Int) (hl : m.length ≤ 140737488351232) (hr : ∀ r ∈ m, r.length ≤ 140737488351232) : Ev (fun k => spec_l3Pieces.f k m a) (areP m && decide ((m.length : Int) = a)) := by
  have := spec_l3Pieces_l0 m a hl hr m.length 0 (by omega)
  rw [List.drop_zero, areP_split] at this
  have e : ((m.isEmpty || decide ((m.getD 0 []).length ≤ 32)) && areR (m.getD 0 []).length m) = areP m := by
    unfold areP
    cases m with
    | nil => simp [areR]
    | cons r m => rfl
  rw [e] at this
  exact this

/-- Are numbers of data and parity pieces as said? -/
def isC (a b : Int) : Bool := decide (1 ≤ a ∧ a ≤ 6) && decide (1 ≤ b ∧ b ≤ 4)
theorem isC_bd {a b : Int} (h : isC a b = true) : (1 ≤ a ∧ a ≤ 6) ∧ (1 ≤ b ∧ b ≤ 4) := by simpa [isC] using h

theorem spec_l3Size_eq (a b : Int) : spec_l3Size.f a b = some (isC a b) := by
  unfold spec_l3Size.f isC
  simp only [spec_l1In_eq, Option.bind_some]
  cases decide (1 ≤ a ∧ a ≤ 6) <;> rfl

/-- The first i rows of the unit matrix of n columns. -/
def idR (n i : Nat) : List Int := (List.replicate n (0 : Int)).set i 1
def idL (n i : Nat) : List (List Int) := (List.range i).map (idR n)
theorem idL_length (n i : Nat) : (idL n i).length = i := by simp [idL]
theorem idL_succ (n i : Nat) : idL n (i + 1) = idL n i ++ [idR n i] := by simp [idL, List.range_succ]
theorem idR_length (n i : Nat) : (idR n i).length = n := by simp [idR]
theorem idL_rows {n i : Nat} : ∀ r ∈ idL n i, r.length = n := fun r h => by
  obtain ⟨j, _, rfl⟩ := List.mem_map.1 h
  exact idR_length n j
def identV (a : Int) : List (List Int) × Bool := if 1 ≤ a ∧ a ≤ 8 then (idL a.toNat a.toNat, true) else ([], false)

theorem spec_l2Identity_l0 (n : Nat) (hn : n ≤ 1000) : ∀ d i : Nat, i + d = n → Ev (fun k => spec_l2Identity.l0 k (n : Int) (idL n i) (i : Int)) (idL n n) := by
  intro d
  induction d with
  | zero =>
    intro i hi
    obtain rfl : i = n := by omega
    exact Ev.step (f := fun _ => some (idL i i)) (fun k => by rw [spec_l2Identity.l0.eq_2, if_neg (by omega)]) (Ev.now _)
  | succ d ih =>
    intro i hi
    refine Ev.step (f := fun k => spec_l2Identity.l0 k (n : Int) (idL n (i + 1)) ((i + 1 : Nat) : Int)) (fun k => ?_) (ih (i + 1) (by omega))
    rw [spec_l2Identity.l0.eq_2, if_pos (by omega), if_pos (by omega), if_pos (by omega)]
    simp only [Option.bind_some, Int.toNat_natCast]
    rw [if_pos (by omega), if_pos (by rw [List.length_replicate]; omega), if_pos (by rw [idL_length]; omega), wrap_succ i (by omega), idL_succ]
    rfl
theorem spec_l2Identity_ev (n : Nat) (hn : n ≤ 1000) : Ev (fun k => spec_l2Identity.f k (n : Int)) (idL n n) := spec_l2Identity_l0 n hn n 0 (by omega)

theorem spec_l1Mul_l0 : ∀ (n a b o : Nat), a < 256 → o < 256 → b < 2 ^ n → b < 2 ^ 63 → Ev (fun k => spec_l1Mul.l0 k (a : Int) (b : Int) (o : Int)) ((Gf.gmA n a b o : Nat) : Int) := by
  have stop : ∀ a o : Nat, Ev (fun k => spec_l1Mul.l0 k (a : Int) ((0 : Nat) : Int) (o : Int)) ((o : Nat) : Int) := fun a o =>
    Ev.step (f := fun _ => some ((o : Nat) : Int)) (fun k => by simp only [spec_l1Mul.l0]; rw [if_neg (by omega)]) (Ev.now _)
  intro n
  induction n with
  | zero =>
    intro a b o ha ho hb _
    obtain rfl : b = 0 := by simpa using hb
    exact stop a o
  | succ n ih =>
    intro a b o ha ho hb hb63
    by_cases h0 : b = 0
    · subst h0
      rw [Gf.gmA_zero]
      exact stop a o
    · have e1 : wrap64 ((a : Int) * 2) = ((a * 2 : Nat) : Int) := by rw [wrap_id (by omega) (by omega)]; omega
      have e2 : Go.bits .xor .i64 ((a * 2 : Nat) : Int) 285 = (((a * 2) ^^^ 285 : Nat) : Int) := xor_nat (a := a * 2) (b := 285) (by omega) (by decide)
      have e3 : Go.bits .xor .i64 (o : Int) (a : Int) = ((o ^^^ a : Nat) : Int) := xor_nat (by omega) (by omega)
      have e4 := and_one (a := b) hb63
      refine Ev.step (f := fun k => spec_l1Mul.l0 k ((Gf.xt a : Nat) : Int) ((b / 2 : Nat) : Int) (((if b % 2 = 1 then o ^^^ a else o) : Nat) : Int)) (fun k => ?_) (ih _ _ _ (Gf.xt_lt a ha) ?_ (by rw [Nat.pow_succ] at hb; omega) (by omega))
      · simp only [spec_l1Mul.l0, e1, e2, e3, e4, half_nat, Gf.xt]
        rw [if_pos (show (b : Int) > 0 by omega)]
        by_cases h1 : b % 2 = 1 <;> by_cases h2 : 255 < a * 2
        · rw [if_pos (show ((b % 2 : Nat) : Int) = 1 by omega), if_pos h1, if_pos (by omega), if_pos h2]
        · rw [if_pos (show ((b % 2 : Nat) : Int) = 1 by omega), if_pos h1, if_neg (by omega), if_neg h2]
        · rw [if_neg (show ¬ ((b % 2 : Nat) : Int) = 1 by omega), if_neg h1, if_pos (by omega), if_pos h2]
        · rw [if_neg (show ¬ ((b % 2 : Nat) : Int) = 1 by omega), if_neg h1, if_neg (by omega), if_neg h2]
      · split
        · exact Gf.xor_byte ho ha
        · exact ho
theorem spec_l1Mul_ev (a b : Nat) (ha : a < 256) (hb : b < 256) : Ev (fun k => spec_l1Mul.f k (a : Int) (b : Int)) ((Gf.gm a b : Nat) : Int) :=
  spec_l1Mul_l0 8 a b 0 ha (by decide) hb (by omega)

theorem spec_l1Pow_l0 : ∀ (f a n o : Nat), a < 256 → o < 256 → n < 2 ^ f → n < 2 ^ 63 → Ev (fun k => spec_l1Pow.l0 k (a : Int) (n : Int) (o : Int)) ((Gf.pwA f a n o : Nat) : Int) := by
  have stop : ∀ a o : Nat, Ev (fun k => spec_l1Pow.l0 k (a : Int) ((0 : Nat) : Int) (o : Int)) ((o : Nat) : Int) := fun a o =>
    Ev.step (f := fun _ => some ((o : Nat) : Int)) (fun k => by simp only [spec_l1Pow.l0]; rw [if_neg (by omega)]) (Ev.now _)
  have z : ∀ f a o, Gf.pwA f a 0 o = o := by
    intro f
    induction f with
    | zero => intro a o; rfl
    | succ f ih => intro a o; exact ih _ _
  intro f
  induction f with
  | zero =>
    intro a n o ha ho hn _
    obtain rfl : n = 0 := by simpa using hn
    exact stop a o
  | succ f ih =>
    intro a n o ha ho hn hn63
    by_cases h0 : n = 0
    · subst h0
      rw [z]
      exact stop a o
    · have e4 := and_one (a := n) hn63
      have hsq := Gf.gm_lt a ha
      by_cases h1 : n % 2 = 1
      · refine Ev.step (f := fun k => (spec_l1Mul.f k (o : Int) (a : Int)).bind fun t => (spec_l1Mul.f k (a : Int) (a : Int)).bind fun u => spec_l1Pow.l0 k u ((n / 2 : Nat) : Int) t) (fun k => ?_) ?_
        · simp only [spec_l1Pow.l0, e4, half_nat]
          rw [if_pos (show (n : Int) > 0 by omega), if_pos (show ((n % 2 : Nat) : Int) = 1 by omega)]
        · have := ih (Gf.gm a a) (n / 2) (Gf.gm o a) hsq (Gf.gm_lt a ho) (by rw [Nat.pow_succ] at hn; omega) (by omega)
          show Ev _ ((Gf.pwA f (Gf.gm a a) (n / 2) (if n % 2 = 1 then Gf.gm o a else o) : Nat) : Int)
          rw [if_pos h1]
          exact Ev.bind (f := fun k t => (spec_l1Mul.f k (a : Int) (a : Int)).bind fun u => spec_l1Pow.l0 k u ((n / 2 : Nat) : Int) t) (spec_l1Mul_ev o a ho ha) (Ev.bind (f := fun k u => spec_l1Pow.l0 k u ((n / 2 : Nat) : Int) ((Gf.gm o a : Nat) : Int)) (spec_l1Mul_ev a a ha ha) this)
      · refine Ev.step (f := fun k => (spec_l1Mul.f k (a : Int) (a : Int)).bind fun u => spec_l1Pow.l0 k u ((n / 2 : Nat) : Int) (o : Int)) (fun k => ?_) ?_
        · simp only [spec_l1Pow.l0, e4, half_nat]
          rw [if_pos (show (n : Int) > 0 by omega), if_neg (show ¬ ((n % 2 : Nat) : Int) = 1 by omega)]
        · have := ih (Gf.gm a a) (n / 2) o hsq ho (by rw [Nat.pow_succ] at hn; omega) (by omega)
          show Ev _ ((Gf.pwA f (Gf.gm a a) (n / 2) (if n % 2 = 1 then Gf.gm o a else o) : Nat) : Int)
          rw [if_neg h1]
          exact Ev.bind (f := fun k u => spec_l1Pow.l0 k u ((n / 2 : Nat) : Int) (o : Int)) (spec_l1Mul_ev a a ha ha) this
theorem spec_l1Pow_ev (a n : Nat) (ha : a < 256) (hn : n < 2 ^ 62) : Ev (fun k => spec_l1Pow.f k (a : Int) (n : Int)) ((Gf.pw a n : Nat) : Int) := by
  have := spec_l1Pow_l0 62 a n 1 ha (by decide) hn (by omega)
  rw [Gf.pwA_eq 62 a n 1 ha (by decide) hn, Gf.one_gm _ (Gf.pw_lt n)] at this
  exact this

theorem spec_l1Div_ev (a b : Nat) (ha : a < 256) (hb : b < 256) : Ev (fun k => spec_l1Div.f k (a : Int) (b : Int)) ((Gf.gm a (Gf.gi b) : Nat) : Int) := by
  unfold spec_l1Div.f
  refine Ev.bind (f := fun k t => (spec_l1Mul.f k (a : Int) t).bind fun u => some u) (spec_l1Pow_ev b 254 hb (by decide)) ?_
  exact Ev.bind (f := fun _ u => some u) (spec_l1Mul_ev a (Gf.gi b) ha (Gf.gi_lt b)) (Ev.now _)

/-- The inverses of the sums. -/
def cauchyR (a : Nat) (Y : List Nat) : List Nat := Y.map fun b => Gf.gi (a ^^^ b)
def cauchyM (X Y : List Nat) : List (List Nat) := X.map fun a => cauchyR a Y
theorem cauchyR_bytes (a : Nat) (Y : List Nat) : Poly.AllB (cauchyR a Y) := fun x hx => by
  obtain ⟨b, _, rfl⟩ := List.mem_map.1 hx
  exact Gf.gi_lt _
theorem cauchyM_MB (X Y : List Nat) : Mat.MB' Y.length (cauchyM X Y) := fun r hr => by
  obtain ⟨a, _, rfl⟩ := List.mem_map.1 hr
  exact ⟨by simp [cauchyR], cauchyR_bytes a Y⟩
theorem cauchyM_length (X Y : List Nat) : (cauchyM X Y).length = X.length := by simp [cauchyM]
theorem drop_getD (l : List Nat) (i : Nat) (h : i < l.length) : l.drop i = l.getD i 0 :: l.drop (i + 1) := by
  rw [List.drop_eq_getElem_cons h, List.getD_eq_getElem?_getD, List.getElem?_eq_getElem h]; rfl

theorem spec_l2Cauchy_l0 (X Y : List Nat) (hX : Poly.AllB X) (hY : Poly.AllB Y) (hXl : X.length ≤ 1000) (hYl : Y.length ≤ 1000) : ∀ (d i : Nat) (out : List (List Nat)), i + d = X.length → out.length = i →
    Ev (fun k => spec_l2Cauchy.l0 k (Poly.up Y) (upM out) (Poly.up X) (X.length : Int) (i : Int)) (upM (out ++ cauchyM (X.drop i) Y)) := by
  intro d
  induction d with
  | zero =>
    intro i out hi hol
    obtain rfl : i = X.length := by omega
    have e : out ++ cauchyM (X.drop X.length) Y = out := by rw [List.drop_length]; simp [cauchyM]
    rw [e]
    exact Ev.step (f := fun _ => some (upM out)) (fun k => by rw [spec_l2Cauchy.l0.eq_2, if_neg (by omega)]) (Ev.now _)
  | succ d ih =>
    intro i out hi hol
    have hlt : i < X.length := by omega
    have ha : X.getD i 0 < 256 := hX.get i
    rw [drop_getD X i hlt]
    generalize hA : X.getD i 0 = a at ha
    have row : ∀ (e j : Nat) (acc : List Nat), j + e = Y.length → acc.length = j →
        Ev (fun k => spec_l2Cauchy.l1 k (Poly.up Y) (upM out) (a : Int) (Poly.up acc) (Poly.up X) (X.length : Int) (i : Int) (Poly.up Y) (Y.length : Int) (j : Int)) (upM (out ++ (acc ++ cauchyR a (Y.drop j)) :: cauchyM (X.drop (i + 1)) Y)) := by
      intro e
      induction e with
      | zero =>
        intro j acc hj hl
        obtain rfl : j = Y.length := by omega
        have e : acc ++ cauchyR a (Y.drop Y.length) = acc := by rw [List.drop_length]; simp [cauchyR]
        rw [e]
        refine Ev.step (f := fun k => spec_l2Cauchy.l0 k (Poly.up Y) (upM (out ++ [acc])) (Poly.up X) (X.length : Int) ((i + 1 : Nat) : Int)) (fun k => ?_) ?_
        · rw [spec_l2Cauchy.l1.eq_2, if_neg (by omega), if_pos (by rw [upM_length]; omega), upM_snoc, wrap_succ i (by omega)]
        · have := ih (i + 1) (out ++ [acc]) (by omega) (by simp [hol])
          rwa [List.append_assoc] at this
      | succ e ihe =>
        intro j acc hj hl
        have hjY : j < Y.length := by omega
        have hb : Y.getD j 0 < 256 := hY.get j
        have hx := xor_up ha hb
        have hab := Gf.xor_byte ha hb
        have e1 : cauchyR a (Y.drop j) = Gf.gi (a ^^^ Y.getD j 0) :: cauchyR a (Y.drop (j + 1)) := by rw [drop_getD Y j hjY]; rfl
        have e2 : Gf.gm 1 (Gf.gi (a ^^^ Y.getD j 0)) = Gf.gi (a ^^^ Y.getD j 0) := Gf.one_gm _ (Gf.gi_lt _)
        rw [e1]
        refine Ev.step (f := fun k => (spec_l1Div.f k ((1 : Nat) : Int) ((a ^^^ Y.getD j 0 : Nat) : Int)).bind fun t => if (Poly.up acc).length < 17592186044416 then spec_l2Cauchy.l1 k (Poly.up Y) (upM out) (a : Int) (Poly.up acc ++ [t]) (Poly.up X) (X.length : Int) (i : Int) (Poly.up Y) (Y.length : Int) ((j + 1 : Nat) : Int) else none) (fun k => ?_) ?_
        · rw [spec_l2Cauchy.l1.eq_2, if_pos (by omega), if_pos (by omega), if_pos (by rw [Poly.up_length]; omega), Poly.rd_up, hx, wrap_succ j (by omega)]; rfl
        · refine Ev.bind (f := fun k t => if (Poly.up acc).length < 17592186044416 then spec_l2Cauchy.l1 k (Poly.up Y) (upM out) (a : Int) (Poly.up acc ++ [t]) (Poly.up X) (X.length : Int) (i : Int) (Poly.up Y) (Y.length : Int) ((j + 1 : Nat) : Int) else none) (spec_l1Div_ev 1 _ (by decide) hab) ?_
          simp only [if_pos (show (Poly.up acc).length < 17592186044416 by rw [Poly.up_length]; omega), e2, Poly.up_snoc]
          have := ihe (j + 1) (acc ++ [Gf.gi (a ^^^ Y.getD j 0)]) (by omega) (by simp [hl])
          rwa [List.append_assoc] at this
    have e0 : out ++ cauchyM (a :: X.drop (i + 1)) Y = out ++ ([] ++ cauchyR a (Y.drop 0)) :: cauchyM (X.drop (i + 1)) Y := by rfl
    rw [e0]
    refine Ev.step (f := fun k => spec_l2Cauchy.l1 k (Poly.up Y) (upM out) (a : Int) (Poly.up []) (Poly.up X) (X.length : Int) (i : Int) (Poly.up Y) (Y.length : Int) 0) (fun k => ?_) (row Y.length 0 [] (by omega) rfl)
    rw [spec_l2Cauchy.l0.eq_2, if_pos (by omega), if_pos (by omega), if_pos (by rw [Poly.up_length]; omega), Poly.rd_up, hA, Poly.up_length]; rfl
theorem spec_l2Cauchy_ev (X Y : List Nat) (hX : Poly.AllB X) (hY : Poly.AllB Y) (hXl : X.length ≤ 1000) (hYl : Y.length ≤ 1000) : Ev (fun k => spec_l2Cauchy.f k (Poly.up X) (Poly.up Y)) (upM (cauchyM X Y)) := by
  unfold spec_l2Cauchy.f
  rw [Poly.up_length]
  exact spec_l2Cauchy_l0 X Y hX hY hXl hYl X.length 0 [] (by omega) rfl

theorem idL_up (n : Nat) : idL n n = upM (Mat.idM n) := by
  unfold idL idR upM Mat.idM
  rw [List.map_map]
  refine List.map_congr_left fun i _ => ?_
  show _ = Poly.up ((List.replicate n 0).set i 1)
  rw [← Poly.up_set, ← Poly.up_zeros]; rfl

/-- The matrix of a code. -/
def rangeN (a n : Nat) : List Nat := (List.range n).map fun i => a + i
theorem rangeN_length (a n : Nat) : (rangeN a n).length = n := by simp [rangeN]
theorem rangeN_succ (a n : Nat) : rangeN a (n + 1) = rangeN a n ++ [a + n] := by simp [rangeN, List.range_succ]
theorem rangeN_bytes {a n : Nat} (h : a + n ≤ 256) : Poly.AllB (rangeN a n) := fun x hx => by
  obtain ⟨i, hi, rfl⟩ := List.mem_map.1 hx
  have := List.mem_range.1 hi
  omega
theorem rangeN_getD {a n i : Nat} (h : i < n) : (rangeN a n).getD i 0 = a + i := by
  unfold rangeN
  rw [List.getD_eq_getElem?_getD, List.getElem?_map, List.getElem?_range h]; rfl
def codeM (d p : Nat) : List (List Nat) := Mat.idM d ++ cauchyM (rangeN 0 p) (rangeN p d)
theorem codeM_MB (d p : Nat) : Mat.MB' d (codeM d p) := fun r hr => by
  rcases List.mem_append.1 hr with h | h
  · exact Mat.idM_MB d r h
  · have := cauchyM_MB (rangeN 0 p) (rangeN p d) r h
    rwa [rangeN_length] at this
theorem codeM_length (d p : Nat) : (codeM d p).length = d + p := by unfold codeM; rw [List.length_append, Mat.idM_length, cauchyM_length, rangeN_length]
def codeV (a b : Int) : List (List Int) × Bool := if isC a b then (upM (codeM a.toNat b.toNat), true) else ([], false)
theorem codeV_small (a b : Int) : (codeV a b).1.length ≤ 10 ∧ ∀ r ∈ (codeV a b).1, r.length ≤ 10 := by
  unfold codeV
  split
  · rename_i h
    have := isC_bd h
    exact upM_small (codeM_MB _ _) (by rw [codeM_length]; omega) (by omega)
  · exact ⟨by simp, fun r hr => by cases hr⟩

theorem spec_l3Matrix_l1 (d p : Nat) (hd : d ≤ 20) (hp : p ≤ 20) : ∀ (u j : Nat), j + u = d → Ev (fun k => spec_l3Matrix.l1 k (d : Int) (p : Int) (Poly.up (rangeN 0 p)) (Poly.up (rangeN p j)) (j : Int)) (upM (codeM d p)) := by
  intro u
  induction u with
  | zero =>
    intro j hj
    obtain rfl : j = d := by omega
    have E := spec_l2Identity_ev j (by omega)
    have E2 := spec_l2Cauchy_ev (rangeN 0 p) (rangeN p j) (rangeN_bytes (by omega)) (rangeN_bytes (by omega)) (by rw [rangeN_length]; omega) (by rw [rangeN_length]; omega)
    rw [idL_up] at E
    refine Ev.step (f := fun k => (spec_l2Identity.f k (j : Int)).bind fun s => (spec_l2Cauchy.f k (Poly.up (rangeN 0 p)) (Poly.up (rangeN p j))).bind fun t => if s.length + t.length < 5864062014805 then some (s ++ t) else none) (fun k => ?_) ?_
    · rw [spec_l3Matrix.l1.eq_2, if_neg (by omega)]
    · refine Ev.bind (f := fun k s => (spec_l2Cauchy.f k (Poly.up (rangeN 0 p)) (Poly.up (rangeN p j))).bind fun t => if s.length + t.length < 5864062014805 then some (s ++ t) else none) E (Ev.bind (f := fun _ t => if (upM (Mat.idM j)).length + t.length < 5864062014805 then some (upM (Mat.idM j) ++ t) else none) E2 ?_)
      simp only [upM_length, Mat.idM_length, cauchyM_length, rangeN_length, if_pos (show j + p < 5864062014805 by omega), upM_append]
      exact Ev.now _
  | succ u ih =>
    intro j hj
    refine Ev.step (f := fun k => spec_l3Matrix.l1 k (d : Int) (p : Int) (Poly.up (rangeN 0 p)) (Poly.up (rangeN p (j + 1))) ((j + 1 : Nat) : Int)) (fun k => ?_) (ih (j + 1) (by omega))
    rw [spec_l3Matrix.l1.eq_2, if_pos (by omega), if_pos (by rw [Poly.up_length, rangeN_length]; omega), wrap_add p j (by omega), Poly.up_snoc, ← rangeN_succ, wrap_succ j (by omega)]
theorem spec_l3Matrix_l0 (d p : Nat) (hd : d ≤ 20) (hp : p ≤ 20) : ∀ (u j : Nat), j + u = p → Ev (fun k => spec_l3Matrix.l0 k (d : Int) (p : Int) (Poly.up (rangeN 0 j)) (j : Int)) (upM (codeM d p)) := by
  intro u
  induction u with
  | zero =>
    intro j hj
    obtain rfl : j = p := by omega
    refine Ev.step (f := fun k => spec_l3Matrix.l1 k (d : Int) (j : Int) (Poly.up (rangeN 0 j)) (Poly.up (rangeN j 0)) ((0 : Nat) : Int)) (fun k => ?_) (spec_l3Matrix_l1 d j hd hp d 0 (by omega))
    rw [spec_l3Matrix.l0.eq_2, if_neg (by omega)]; rfl
  | succ u ih =>
    intro j hj
    refine Ev.step (f := fun k => spec_l3Matrix.l0 k (d : Int) (p : Int) (Poly.up (rangeN 0 (j + 1))) ((j + 1 : Nat) : Int)) (fun k => ?_) (ih (j + 1) (by omega))
    have e : Poly.up (rangeN 0 j) ++ [(j : Int)] = Poly.up (rangeN 0 (j + 1)) := by rw [rangeN_succ, Poly.up_snoc, Nat.zero_add]
    rw [spec_l3Matrix.l0.eq_2, if_pos (by omega), if_pos (by rw [Poly.up_length, rangeN_length]; omega), e, wrap_succ j (by omega)]
theorem spec_l3Matrix_ev (d p : Nat) (hd : d ≤ 20) (hp : p ≤ 20) : Ev (fun k => spec_l3Matrix.f k (d : Int) (p : Int)) (upM (codeM d p)) := spec_l3Matrix_l0 d p hd hp p 0 (by omega)

theorem spec_l2Add_l0 (r q : List Nat) (f : Nat) (hf : f < 256) (hr : Poly.AllB r) (hq : Poly.AllB q) (hl : r.length = q.length) (hb : r.length ≤ 1000) : ∀ (d i : Nat), i + d = q.length →
    Ev (fun k => spec_l2Add.l0 k (Poly.up (Mat.raddTo f r q i)) (f : Int) (Poly.up q) (q.length : Int) (i : Int)) (Poly.up (Mat.radd f r q)) := by
  intro d
  induction d with
  | zero =>
    intro i hi
    obtain rfl : i = q.length := by omega
    rw [← hl, Mat.raddTo_all hl]
    exact Ev.step (f := fun _ => some (Poly.up (Mat.radd f r q))) (fun k => by rw [spec_l2Add.l0.eq_2, if_neg (by omega)]) (Ev.now _)
  | succ d ih =>
    intro i hi
    have hir : i < r.length := by omega
    have hqi : q.getD i 0 < 256 := Poly.AllB.get hq i
    have hx := xor_up (Poly.AllB.get hr i) (Gf.gm_lt (q.getD i 0) hf)
    have hc : Gf.gm (q.getD i 0) f = Gf.gm f (q.getD i 0) := Gf.gm_comm hqi hf
    refine Ev.step (f := fun k => (spec_l1Mul.f k ((q.getD i 0 : Nat) : Int) (f : Int)).bind fun t => spec_l2Add.l0 k ((Poly.up (Mat.raddTo f r q i)).set i (Go.bits .xor .i64 ((r.getD i 0 : Nat) : Int) t)) (f : Int) (Poly.up q) (q.length : Int) ((i + 1 : Nat) : Int)) (fun k => ?_) ?_
    · rw [spec_l2Add.l0.eq_2, if_pos (by omega), if_pos (by omega), if_pos (by rw [Poly.up_length]; omega), if_pos (by rw [Poly.up_length, Mat.raddTo_length hl]; omega), Poly.rd_up, Poly.rd_up, Mat.raddTo_at hl hir, wrap_succ i (by omega), Int.toNat_natCast]
    · refine Ev.bind (f := fun k t => spec_l2Add.l0 k ((Poly.up (Mat.raddTo f r q i)).set i (Go.bits .xor .i64 ((r.getD i 0 : Nat) : Int) t)) (f : Int) (Poly.up q) (q.length : Int) ((i + 1 : Nat) : Int)) (spec_l1Mul_ev _ _ hqi hf) ?_
      simp only [hc, hx, Poly.up_set, Mat.raddTo_succ hl hir]
      exact ih (i + 1) (by omega)
theorem spec_l2Add_ev (r q : List Nat) (f : Nat) (hf : f < 256) (hr : Poly.AllB r) (hq : Poly.AllB q) (hl : r.length = q.length) (hb : r.length ≤ 1000) : Ev (fun k => spec_l2Add.f k (Poly.up r) (Poly.up q) (f : Int)) (Poly.up (Mat.radd f r q)) := by
  unfold spec_l2Add.f
  have := spec_l2Add_l0 r q f hf hr hq hl hb q.length 0 (by omega)
  rw [Mat.raddTo_zero] at this
  rw [Poly.up_length]
  exact this

theorem spec_l3Times_l0 (n c : Nat) (a b : List (List Nat)) (hn : n = b.length) (hn0 : 0 < n) (ha : Mat.MB' n a) (hb : Mat.MB' c b) (hal : a.length ≤ 1000) (hbl : b.length ≤ 1000) (hc : c ≤ 1000) : ∀ (d i : Nat) (out : List (List Nat)), i + d = a.length → out.length = i →
    Ev (fun k => spec_l3Times.l0 k (upM b) (upM out) (upM a) (a.length : Int) (i : Int)) (upM (out ++ Mat.mulM c (a.drop i) b)) := by
  have hb0 : (Poly.up (b.getD 0 [])).length = c := by rw [Poly.up_length]; exact (hb.get (by omega)).1
  intro d
  induction d with
  | zero =>
    intro i out hi hol
    obtain rfl : i = a.length := by omega
    have e : out ++ Mat.mulM c (a.drop a.length) b = out := by rw [List.drop_length]; simp [Mat.mulM]
    rw [e]
    exact Ev.step (f := fun _ => some (upM out)) (fun k => by rw [spec_l3Times.l0.eq_2, if_neg (by omega)]) (Ev.now _)
  | succ d ih =>
    intro i out hi hol
    have hlt : i < a.length := by omega
    obtain ⟨hrl, hrb⟩ := ha.get hlt
    have hdr : a.drop i = a.getD i [] :: a.drop (i + 1) := by
      rw [List.drop_eq_getElem_cons hlt, List.getD_eq_getElem?_getD, List.getElem?_eq_getElem hlt]; rfl
    have row : ∀ (e j : Nat) (acc : List Nat), j + e = n → acc.length = c → Poly.AllB acc →
        Ev (fun k => spec_l3Times.l1 k (upM b) (upM out) (Poly.up acc) (upM a) (a.length : Int) (i : Int) (Poly.up (a.getD i [])) (n : Int) (j : Int)) (upM (out ++ Mat.mulRow.go acc ((a.getD i []).drop j) (b.drop j) :: Mat.mulM c (a.drop (i + 1)) b)) := by
      intro e
      induction e with
      | zero =>
        intro j acc hj hl hB
        obtain rfl : j = n := by omega
        rw [← hrl, List.drop_length]
        unfold Mat.mulRow.go
        refine Ev.step (f := fun k => spec_l3Times.l0 k (upM b) (upM (out ++ [acc])) (upM a) (a.length : Int) ((i + 1 : Nat) : Int)) (fun k => ?_) ?_
        · rw [spec_l3Times.l1.eq_2, if_neg (by omega), if_pos (by rw [upM_length]; omega), upM_snoc, wrap_succ i (by omega)]
        · have := ih (i + 1) (out ++ [acc]) (by omega) (by simp [hol])
          rwa [List.append_assoc] at this
      | succ e ihe =>
        intro j acc hj hl hB
        have hjb : j < b.length := by omega
        obtain ⟨hql, hqb⟩ := hb.get hjb
        have hf : (a.getD i []).getD j 0 < 256 := Poly.AllB.get hrb j
        have hd1 : (a.getD i []).drop j = (a.getD i []).getD j 0 :: (a.getD i []).drop (j + 1) := by
          rw [List.drop_eq_getElem_cons (by omega), List.getD_eq_getElem?_getD (l := a.getD i []), List.getElem?_eq_getElem (by omega : j < (a.getD i []).length)]; rfl
        have hd2 : b.drop j = b.getD j [] :: b.drop (j + 1) := by
          rw [List.drop_eq_getElem_cons hjb, List.getD_eq_getElem?_getD, List.getElem?_eq_getElem hjb]; rfl
        have hac : acc.length = (b.getD j []).length := by omega
        have hgo : Mat.mulRow.go acc ((a.getD i []).drop j) (b.drop j) = Mat.mulRow.go (Mat.radd ((a.getD i []).getD j 0) acc (b.getD j [])) ((a.getD i []).drop (j + 1)) (b.drop (j + 1)) := by
          rw [hd1, hd2]; rfl
        rw [hgo]
        generalize hF : (a.getD i []).getD j 0 = f at hf
        generalize hQ : b.getD j [] = q at hql hqb hac
        refine Ev.step (f := fun k => (spec_l2Add.f k (Poly.up acc) (Poly.up q) (f : Int)).bind fun t => spec_l3Times.l1 k (upM b) (upM out) t (upM a) (a.length : Int) (i : Int) (Poly.up (a.getD i [])) (n : Int) ((j + 1 : Nat) : Int)) (fun k => ?_) ?_
        · rw [spec_l3Times.l1.eq_2, if_pos (by omega), if_pos (by omega), if_pos (by rw [Poly.up_length]; omega), if_pos (by rw [upM_length]; omega), rdL_up, Poly.rd_up, hF, hQ, wrap_succ j (by omega)]
        · exact Ev.bind (f := fun k t => spec_l3Times.l1 k (upM b) (upM out) t (upM a) (a.length : Int) (i : Int) (Poly.up (a.getD i [])) (n : Int) ((j + 1 : Nat) : Int)) (spec_l2Add_ev acc q f hf hB hqb hac (by omega)) (ihe (j + 1) _ (by omega) (by rw [Mat.radd_length _ hac]; exact hl) (Mat.radd_bytes hf hB))
    have h0 := row n 0 (List.replicate c 0) (by omega) (by simp) (Poly.AllB.zeros _)
    have e1 : out ++ Mat.mulM c (a.drop i) b = out ++ Mat.mulRow.go (List.replicate c 0) ((a.getD i []).drop 0) (b.drop 0) :: Mat.mulM c (a.drop (i + 1)) b := by rw [hdr]; rfl
    rw [e1]
    refine Ev.step (f := fun k => spec_l3Times.l1 k (upM b) (upM out) (Poly.up (List.replicate c 0)) (upM a) (a.length : Int) (i : Int) (Poly.up (a.getD i [])) (n : Int) 0) (fun k => ?_) h0
    rw [spec_l3Times.l0.eq_2, if_pos (by omega), if_pos (by omega), if_pos (by rw [upM_length]; omega), if_pos (by rw [upM_length]; omega), rdL_up0, hb0, if_pos (by omega), Int.toNat_natCast, if_pos (by omega), Poly.up_zeros, rdL_up, Poly.up_length, hrl]
theorem spec_l3Times_ev (n c : Nat) (a b : List (List Nat)) (hn : n = b.length) (hn0 : 0 < n) (ha : Mat.MB' n a) (hb : Mat.MB' c b) (hal : a.length ≤ 1000) (hbl : b.length ≤ 1000) (hc : c ≤ 1000) : Ev (fun k => spec_l3Times.f k (upM a) (upM b)) (upM (Mat.mulM c a b)) := by
  unfold spec_l3Times.f
  rw [upM_length]
  exact spec_l3Times_l0 n c a b hn hn0 ha hb hal hbl hc a.length 0 [] (by omega) rfl

/-- Data pieces with parity ones behind them. -/
def encM (c p : Nat) (m : List (List Nat)) : List (List Nat) := Mat.mulM c (codeM m.length p) m
theorem encM_length (c p : Nat) (m : List (List Nat)) : (encM c p m).length = m.length + p := by unfold encM; rw [Mat.mulM_length, codeM_length]
theorem encM_MB {c : Nat} (p : Nat) {m : List (List Nat)} (h : Mat.MB' c m) : Mat.MB' c (encM c p m) := Mat.mulM_MB (codeM_MB _ _) h
def encV (l : List (List Int)) (a : Int) : List (List Int) × Bool := if isC (l.length : Int) a && areP l then (upM (encM (l.getD 0 []).length a.toNat (dnM l)), true) else ([], false)
theorem encV_small (l : List (List Int)) (a : Int) : (encV l a).1.length ≤ 32 ∧ ∀ r ∈ (encV l a).1, r.length ≤ 32 := by
  unfold encV
  split
  · rename_i h
    rw [Bool.and_eq_true] at h
    have hc := isC_bd h.1
    obtain ⟨c, n, rfl, hn, e1, h1⟩ := areP_up h.2
    rw [upM_length] at hc
    rw [dnM_upM, e1]
    exact upM_small (encM_MB _ hn) (by rw [encM_length]; omega) h1
  · exact ⟨by simp, fun r hr => by cases hr⟩

theorem spec_l3Encode_ev (c p : Nat) (m : List (List Nat)) (hm : Mat.MB' c m) (hc : c ≤ 1000) (h0 : 0 < m.length) (h1 : m.length ≤ 20) (hp : p ≤ 20) : Ev (fun k => spec_l3Encode.f k (upM m) (p : Int)) (upM (encM c p m)) := by
  unfold spec_l3Encode.f
  rw [upM_length]
  refine Ev.bind (f := fun k t => (spec_l3Times.f k t (upM m)).bind fun u => some u) (spec_l3Matrix_ev m.length p h1 hp) ?_
  exact Ev.bind (f := fun _ u => some u) (spec_l3Times_ev m.length c _ m rfl h0 (codeM_MB _ _) hm (by rw [codeM_length]; omega) (by omega) hc) (Ev.now _)

theorem spec_EncodePieces_ev (l : List (List Int)) (a : Int) (hl : l.length ≤ 1048576) (hr : ∀ r ∈ l, r.length ≤ 1048576) : Ev (fun k => spec_EncodePieces.f k l a) (encV l a) := by
  unfold spec_EncodePieces.f encV
  simp only [spec_l3Size_eq, Option.bind_some]
  cases h : isC (l.length : Int) a
  · exact Ev.now _
  · simp only [if_true, Bool.true_and]
    have hb := isC_bd h
    have E := spec_l3Pieces_ev l (l.length : Int) (by omega) (fun r h => by have := hr r h; omega)
    rw [decide_eq_true rfl, Bool.and_true] at E
    refine Ev.bind E ?_
    cases g : areP l
    · exact Ev.now _
    · simp only [if_true]
      obtain ⟨c, n, rfl, hn, e1, h1⟩ := areP_up g
      rw [upM_length] at hb
      obtain ⟨p, rfl⟩ := nat_of (a := a) (by omega)
      rw [dnM_upM, e1]
      exact Ev.bind (f := fun _ t => some (t, true)) (spec_l3Encode_ev c p n hn (by omega) (by omega) (by omega) (by omega)) (Ev.now _)

theorem spec_l1Cur_among_ex {s : List Int} (hs : BY s) {a : Int} (d : Int) (l : List Int) (ha : 0 ≤ a) (hb : a ≤ 900000000000) (hl : 0 < l.length) : ∃ v a' d', spec_l1Cur_among.f s a d l = some (v, a', d') ∧ v ∈ l ∧ 0 ≤ a' ∧ a' ≤ a + 2 := by
  obtain ⟨v, a1, d1, e1, h2, h3, h4, h5, h6⟩ := spec_l1Cur_pick_ex hs d (l.length : Int) ha hb
  have hv : v < (l.length : Int) := by omega
  obtain ⟨i, rfl⟩ := nat_of h2
  have hi : i < l.length := by omega
  unfold spec_l1Cur_among.f
  rw [e1, Option.bind_some, if_pos h2, if_pos hv]
  exact ⟨_, _, _, rfl, by rw [rd_nat l i hi]; exact List.getElem_mem hi, h5, h6⟩

theorem pieces_l1 {s : List Int} (hs : BY s) (many : Int) (out : List (List Int)) (ho : out.length ≤ 1000) (n : Nat) (hn : n ≤ 40) (x7 : Int) : ∀ (d i : Nat) (p : List Int) (a dd : Int), i + d = n → p.length = i → 0 ≤ a → a + 2 * d ≤ 900000000 →
    ∃ p' a' d', p'.length = n ∧ 0 ≤ a' ∧ a' ≤ a + 2 * d ∧ ∀ v, Ev (fun k => spec_l1Cur_pieces.l0 k many (out ++ [p']) (n : Int) (wrap64 (x7 + 1)) s a' d') v → Ev (fun k => spec_l1Cur_pieces.l1 k many out (n : Int) x7 p (i : Int) s a dd) v := by
  intro d
  induction d with
  | zero =>
    intro i p a dd hi hp ha hb
    obtain rfl : i = n := by omega
    refine ⟨p, a, dd, hp, ha, by omega, fun v hv => Ev.step (fun k => ?_) hv⟩
    rw [spec_l1Cur_pieces.l1.eq_2, if_neg (by omega), if_pos (by omega)]
  | succ d ih =>
    intro i p a dd hi hp ha hb
    obtain ⟨x, a1, d1, e1, h1, h2, h3, h4, h5⟩ := spec_l1Cur_pick_ex hs dd 256 ha (by omega)
    obtain ⟨p', a', d', q1, q2, q3, q4⟩ := ih (i + 1) (p ++ [x]) a1 d1 (by omega) (by rw [List.length_append, List.length_singleton]; omega) h4 (by omega)
    refine ⟨p', a', d', q1, q2, by omega, fun v hv => Ev.step (fun k => ?_) (q4 v hv)⟩
    rw [spec_l1Cur_pieces.l1.eq_2, if_pos (by omega), e1, Option.bind_some, if_pos (by omega), wrap_succ i (by omega)]
theorem pieces_l0 {s : List Int} (hs : BY s) (many : Nat) (hm : many ≤ 40) (n : Nat) (hn : n ≤ 40) : ∀ (d i : Nat) (out : List (List Int)) (a dd : Int), i + d = many → out.length = i → (∀ r ∈ out, r.length = n) → 0 ≤ a → a + 100 * d ≤ 900000000 →
    ∃ m a' d', Ev (fun k => spec_l1Cur_pieces.l0 k (many : Int) out (n : Int) (i : Int) s a dd) (m, a', d') ∧ m.length = many ∧ (∀ r ∈ m, r.length = n) ∧ 0 ≤ a' ∧ a' ≤ a + 100 * d := by
  intro d
  induction d with
  | zero =>
    intro i out a dd hi ho hr ha hb
    refine ⟨out, a, dd, Ev.step (f := fun _ => some (out, a, dd)) (fun k => by rw [spec_l1Cur_pieces.l0.eq_2, if_neg (by omega)]) (Ev.now _), by omega, hr, ha, by omega⟩
  | succ d ih =>
    intro i out a dd hi ho hr ha hb
    obtain ⟨p, a1, d1, q1, q2, q3, q4⟩ := pieces_l1 hs (many : Int) out (by omega) n hn (i : Int) n 0 [] a dd (by omega) rfl ha (by omega)
    obtain ⟨m, a2, d2, E, r1, r2, r3, r4⟩ := ih (i + 1) (out ++ [p]) a1 d1 (by omega) (by rw [List.length_append, List.length_singleton]; omega) (fun r h => by
      rcases List.mem_append.1 h with h | h
      · exact hr r h
      · rw [List.mem_singleton] at h
        rw [h]; omega) q2 (by omega)
    refine ⟨m, a2, d2, Ev.step (f := fun k => spec_l1Cur_pieces.l1 k (many : Int) out (n : Int) (i : Int) [] ((0 : Nat) : Int) s a dd) (fun k => ?_) (q4 _ (by rw [wrap_succ i (by omega)]; exact E)), r1, r2, r3, by omega⟩
    rw [spec_l1Cur_pieces.l0.eq_2, if_pos (by omega)]; rfl
theorem spec_l1Cur_pieces_ex {s : List Int} (hs : BY s) {a : Int} (d : Int) (many : Nat) (hm : many ≤ 20) (ha : 0 ≤ a) (hb : a ≤ 200000000) : ∃ m a' d', Ev (fun k => spec_l1Cur_pieces.f k s a d (many : Int)) (m, a', d') ∧ m.length = many ∧ (∃ c, c ≤ 33 ∧ ∀ r ∈ m, r.length = c) ∧ 0 ≤ a' ∧ a' ≤ a + 3000 := by
  obtain ⟨v, a1, d1, e1, h1, h2, h3, h4, h5⟩ := spec_l1Cur_pick_ex hs d 4 ha (by omega)
  obtain ⟨b, a2, d2, e2, k1, k2⟩ := spec_l1Cur_one_ex hs d1 20 h4 (by omega)
  unfold spec_l1Cur_pieces.f
  simp only [e1, e2, Option.bind_some]
  cases b with
  | true =>
    obtain ⟨q, a3, d3, e3, q1, q2, q3⟩ := spec_l1Cur_among_ex hs d2 ([0, 32, 33] : List Int) k1 (by omega) (by decide)
    simp only [if_true, e3, Option.bind_some]
    have hq : ∃ n : Nat, q = (n : Int) ∧ n ≤ 33 := by
      simp only [List.mem_cons, List.not_mem_nil, or_false] at q1
      rcases q1 with rfl | rfl | rfl
      · exact ⟨0, rfl, by omega⟩
      · exact ⟨32, rfl, by omega⟩
      · exact ⟨33, rfl, by omega⟩
    obtain ⟨n, rfl, hn⟩ := hq
    obtain ⟨m, a', d', E, r1, r2, r3, r4⟩ := pieces_l0 hs many (by omega) n (by omega) many 0 [] a3 d3 (by omega) rfl (fun r h => by cases h) q2 (by omega)
    exact ⟨m, a', d', Ev.step (f := fun k => spec_l1Cur_pieces.l0 k (many : Int) [] (n : Int) ((0 : Nat) : Int) s a3 d3) (fun k => by rw [spec_l1Cur_pieces.j0.eq_2]; rfl) E, r1, ⟨n, hn, r2⟩, r3, by omega⟩
  | false =>
    simp only [Bool.false_eq_true, if_false]
    obtain ⟨n, rfl⟩ := nat_of h1
    have ew : wrap64 (1 + (n : Int)) = ((n + 1 : Nat) : Int) := by rw [wrap_id (by omega) (by omega)]; omega
    rw [ew]
    obtain ⟨m, a', d', E, r1, r2, r3, r4⟩ := pieces_l0 hs many (by omega) (n + 1) (by omega) many 0 [] a2 d2 (by omega) rfl (fun r h => by cases h) k1 (by omega)
    exact ⟨m, a', d', Ev.step (f := fun k => spec_l1Cur_pieces.l0 k (many : Int) [] ((n + 1 : Nat) : Int) ((0 : Nat) : Int) s a2 d2) (fun k => by rw [spec_l1Cur_pieces.j0.eq_2]; rfl) E, r1, ⟨n + 1, by omega, r2⟩, r3, by omega⟩

theorem spec_l1Put_l0 (l : List Int) (x : Int) (hl : l.length ≤ 1000) : ∀ (d i : Nat), i + d = l.length → ∃ r, Ev (fun k => spec_l1Put.l0 k l x (i : Int)) r ∧ r.length ≤ l.length + 1 ∧ ∀ z ∈ r, z ∈ l ∨ z = x := by
  intro d
  induction d with
  | zero =>
    intro i hi
    obtain rfl : i = l.length := by omega
    refine ⟨l ++ [x] ++ [], Ev.step (f := fun _ => some (l ++ [x] ++ [])) (fun k => ?_) (Ev.now _), by simp, fun z hz => by simpa using hz⟩
    rw [spec_l1Put.l0.eq_2, if_neg (by omega), if_pos (by omega), if_pos (by omega), Int.toNat_natCast, List.take_length, List.drop_length]
    simp only [Option.bind_some, List.nil_append, List.length_nil, List.length_append, List.length_singleton]
    rw [if_pos (by omega), if_pos (by omega), if_pos (by omega)]
  | succ d ih =>
    intro i hi
    have hlt : i < l.length := by omega
    by_cases h1 : l[i] < x
    · obtain ⟨r, E, hr⟩ := ih (i + 1) (by omega)
      refine ⟨r, Ev.step (fun k => ?_) E, hr⟩
      rw [spec_l1Put.l0.eq_2, if_pos (by omega), if_pos (by omega), rd_nat l i hlt, if_pos h1, wrap_succ i (by omega)]
    · by_cases h2 : l[i] = x
      · refine ⟨l, Ev.step (f := fun _ => some l) (fun k => ?_) (Ev.now _), by omega, fun z hz => .inl hz⟩
        rw [spec_l1Put.l0.eq_2, if_pos (by omega), if_pos (by omega), rd_nat l i hlt, if_neg h1, if_pos h2]
      · refine ⟨l.take i ++ [x] ++ l.drop i, Ev.step (f := fun _ => some (l.take i ++ [x] ++ l.drop i)) (fun k => ?_) (Ev.now _), by simp only [List.length_append, List.length_take, List.length_drop, List.length_singleton]; omega, fun z hz => by
          rcases List.mem_append.1 hz with hz | hz
          · rcases List.mem_append.1 hz with hz | hz
            · exact .inl (List.mem_of_mem_take hz)
            · exact .inr (List.mem_singleton.1 hz)
          · exact .inl (List.mem_of_mem_drop hz)⟩
        rw [spec_l1Put.l0.eq_2, if_pos (by omega), if_pos (by omega), rd_nat l i hlt, if_neg h1, if_neg h2, if_pos (by omega), Int.toNat_natCast]
        simp only [Option.bind_some, List.nil_append, List.length_nil, List.length_append, List.length_singleton, List.length_take, List.length_drop]
        rw [if_pos (by omega), if_pos (by omega), if_pos (by omega)]
theorem spec_l1Put_ex (l : List Int) (x : Int) (hl : l.length ≤ 1000) : ∃ r, Ev (fun k => spec_l1Put.f k l x) r ∧ r.length ≤ l.length + 1 ∧ ∀ z ∈ r, z ∈ l ∨ z = x := spec_l1Put_l0 l x hl l.length 0 (by omega)

theorem encV_same (l : List (List Int)) (a : Int) : ∃ c, c ≤ 33 ∧ ∀ r ∈ (encV l a).1, r.length = c := by
  have hsm := encV_small l a
  unfold encV at hsm ⊢
  split
  · rename_i h
    rw [if_pos h] at hsm
    simp only [Bool.and_eq_true] at h
    obtain ⟨c, m, rfl, hm, e1, h1⟩ := areP_up h.2
    rw [dnM_upM] at hsm ⊢
    have hM := encM_MB (c := ((upM m).getD 0 []).length) a.toNat (m := m) (by rw [e1]; exact hm)
    refine ⟨((upM m).getD 0 []).length, by rw [e1]; omega, fun r hr => ?_⟩
    obtain ⟨q, hq, rfl⟩ := List.mem_map.1 hr
    rw [Poly.up_length]
    exact (hM q hq).1
  · exact ⟨0, by omega, fun r hr => by cases hr⟩

theorem coded_l0 {s : List Int} (hs : BY s) (x6 x7 : Int) (x8 : List (List Int)) : ∀ (n : Nat) (l : List Int) (a d : Int), l.length + n ≤ 100 → (∀ z ∈ l, 0 ≤ z) → 0 ≤ a → a + 4 * n ≤ 800000000 →
    ∃ r a' d', Ev (fun k => spec_l1Cur_coded.l0 k x6 x7 x8 l (n : Int) s a d) (x6, x7, x8, r, a', d') ∧ r.length ≤ l.length + n + 1 ∧ (∀ z ∈ r, 0 ≤ z) ∧ 0 ≤ a' ∧ a' ≤ a + 4 * n + 4 := by
  intro n
  induction n with
  | zero =>
    intro l a d hl hz ha hb
    obtain ⟨b, a1, d1, e1, h1, h2⟩ := spec_l1Cur_one_ex hs d 12 ha (by omega)
    cases b with
    | true =>
      obtain ⟨v, a2, d2, e2, k0, k1, k2, k3, k4⟩ := spec_l1Cur_pick_ex hs d1 12 h1 (by omega)
      obtain ⟨r, E, hr, hrz⟩ := spec_l1Put_ex l v (by omega)
      refine ⟨r, a2, d2, Ev.step (f := fun k => (spec_l1Put.f k l v).bind fun t => some (x6, x7, x8, t, a2, d2)) (fun k => ?_) (Ev.bind (f := fun k t => some (x6, x7, x8, t, a2, d2)) E (Ev.now _)), by omega, fun z h => by
        rcases hrz z h with h | h
        · exact hz z h
        · omega, k3, by omega⟩
      rw [spec_l1Cur_coded.l0.eq_2, if_neg (by omega), e1, Option.bind_some, if_pos rfl, e2, Option.bind_some]
    | false =>
      refine ⟨l, a1, d1, Ev.step (f := fun _ => some (x6, x7, x8, l, a1, d1)) (fun k => ?_) (Ev.now _), by omega, hz, h1, by omega⟩
      rw [spec_l1Cur_coded.l0.eq_2, if_neg (by omega), e1, Option.bind_some, if_neg (show ¬ (false = true) by decide)]
  | succ n ih =>
    intro l a d hl hz ha hb
    obtain ⟨v, a2, d2, e2, k0, k1, k2, k3, k4⟩ := spec_l1Cur_pick_ex hs d (wrap64 (x6 + x7)) ha (by omega)
    obtain ⟨r, E, hr, hrz⟩ := spec_l1Put_ex l v (by omega)
    obtain ⟨r2, a', d', E2, q1, q1z, q2, q3⟩ := ih r a2 d2 (by omega) (fun z h => by
      rcases hrz z h with h | h
      · exact hz z h
      · omega) k3 (by omega)
    have ew : wrap64 (((n + 1 : Nat) : Int) - 1) = (n : Int) := by rw [wrap_id (by omega) (by omega)]; omega
    refine ⟨r2, a', d', Ev.step (f := fun k => (spec_l1Put.f k l v).bind fun t => spec_l1Cur_coded.l0 k x6 x7 x8 t (n : Int) s a2 d2) (fun k => ?_) (Ev.bind (f := fun k t => spec_l1Cur_coded.l0 k x6 x7 x8 t (n : Int) s a2 d2) E E2), by omega, q1z, q2, by omega⟩
    rw [spec_l1Cur_coded.l0.eq_2, if_pos (by omega), e2, Option.bind_some, ew]
theorem spec_l1Cur_coded_ex {s : List Int} (hs : BY s) {a : Int} (d : Int) (ha : 0 ≤ a) (hb : a ≤ 100000000) : ∃ (n p : Nat) (l : List (List Int)) (lost : List Int) (a' d' : Int), Ev (fun k => spec_l1Cur_coded.f k s a d) ((n : Int), (p : Int), l, lost, a', d') ∧ (1 ≤ n ∧ n ≤ 5) ∧ (1 ≤ p ∧ p ≤ 4) ∧ l.length ≤ 32 ∧ (∃ c, c ≤ 33 ∧ ∀ r ∈ l, r.length = c) ∧ (lost.length ≤ 10 ∧ ∀ z ∈ lost, 0 ≤ z) ∧ 0 ≤ a' ∧ a' ≤ a + 10000 := by
  obtain ⟨v, a1, d1, e1, h1, h2, h3, h4, h5⟩ := spec_l1Cur_pick_ex hs d 5 ha (by omega)
  obtain ⟨n, rfl⟩ := nat_of h1
  obtain ⟨v, a2, d2, e2, k1, k2, k3, k4, k5⟩ := spec_l1Cur_pick_ex hs d1 4 h4 (by omega)
  obtain ⟨p, rfl⟩ := nat_of k1
  have HEW : Aside0 (wrap64 (1 + (n : Int)) = ((n + 1 : Nat) : Int) ∧ wrap64 (1 + (p : Int)) = ((p + 1 : Nat) : Int) ∧ wrap64 (((n + 1 : Nat) : Int) + ((p + 1 : Nat) : Int)) = ((n + p + 2 : Nat) : Int)) := Aside0.mk <| by
    refine ⟨?_, ?_, ?_⟩
    · rw [wrap_id (by omega) (by omega)]; omega
    · rw [wrap_id (by omega) (by omega)]; omega
    · rw [wrap_id (by omega) (by omega)]; omega
  obtain ⟨m, a3, d3, E3, q1, q2, q3, q4⟩ := spec_l1Cur_pieces_ex hs d2 (n + 1) (by omega) k4 (by omega)
  have EE := spec_EncodePieces_ev m ((p + 1 : Nat) : Int) (by omega) (fun r h => by obtain ⟨c, hc, q⟩ := q2; have := q r h; omega)
  have hsm := encV_small m ((p + 1 : Nat) : Int)
  have hsc := encV_same m ((p + 1 : Nat) : Int)
  -- the rest, once for both
  have rest : ∀ (l : List (List Int)) (b c : Int), 0 ≤ b → b ≤ a + 8000 → l.length ≤ 32 → ∃ (lost : List Int) (a' d' : Int), Ev (fun k => spec_l1Cur_coded.j0 k ((n + 1 : Nat) : Int) ((p + 1 : Nat) : Int) l s b c) (((n + 1 : Nat) : Int), ((p + 1 : Nat) : Int), l, lost, a', d') ∧ (lost.length ≤ 10 ∧ ∀ z ∈ lost, 0 ≤ z) ∧ 0 ≤ a' ∧ a' ≤ a + 10000 := by
    intro l b c hb0 hb1 hl
    have ew4 : Aside0 (wrap64 (((p + 1 : Nat) : Int) + 1) = ((p + 2 : Nat) : Int)) := Aside0.mk (by rw [wrap_id (by omega) (by omega)]; omega)
    obtain ⟨v, a4, d4, e4, z1, z2, z3, z4, z5⟩ := spec_l1Cur_pick_ex hs c ((p + 2 : Nat) : Int) hb0 (by omega)
    obtain ⟨t, rfl⟩ := nat_of z1
    obtain ⟨r, a5, d5, E5, y1, y1z, y2, y3⟩ := coded_l0 hs ((n + 1 : Nat) : Int) ((p + 1 : Nat) : Int) l t [] a4 d4 (by simp only [List.length_nil]; omega) (fun z h => by cases h) z4 (by omega)
    refine ⟨r, a5, d5, Ev.step (fun k => ?_) E5, ⟨by simp only [List.length_nil] at y1; omega, y1z⟩, y2, by omega⟩
    rw [spec_l1Cur_coded.j0.eq_2, ew4.out, e4, Option.bind_some]
  unfold spec_l1Cur_coded.f
  simp only [e1, e2, Option.bind_some, HEW.out.1, HEW.out.2.1, HEW.out.2.2]
  generalize encV m ((p + 1 : Nat) : Int) = g at EE hsm hsc
  obtain ⟨l, ok⟩ := g
  cases ok with
  | true =>
    obtain ⟨lost, a', d', E, w1, w2, w3⟩ := rest l a3 d3 q3 (by omega) hsm.1
    refine ⟨n + 1, p + 1, l, lost, a', d', ?_, by omega, by omega, hsm.1, hsc, w1, w2, w3⟩
    refine Ev.bind (f := fun k b => (spec_EncodePieces.f k b.1 ((p + 1 : Nat) : Int)).bind fun e => if e.2 = true then spec_l1Cur_coded.j0 k ((n + 1 : Nat) : Int) ((p + 1 : Nat) : Int) e.1 s b.2.1 b.2.2 else (spec_l1Cur_pieces.f k s b.2.1 b.2.2 ((n + p + 2 : Nat) : Int)).bind fun c => spec_l1Cur_coded.j0 k ((n + 1 : Nat) : Int) ((p + 1 : Nat) : Int) c.1 s c.2.1 c.2.2) E3 ?_
    refine Ev.bind (f := fun k e => if e.2 = true then spec_l1Cur_coded.j0 k ((n + 1 : Nat) : Int) ((p + 1 : Nat) : Int) e.1 s a3 d3 else (spec_l1Cur_pieces.f k s a3 d3 ((n + p + 2 : Nat) : Int)).bind fun c => spec_l1Cur_coded.j0 k ((n + 1 : Nat) : Int) ((p + 1 : Nat) : Int) c.1 s c.2.1 c.2.2) EE ?_
    simp only [if_true]
    exact E
  | false =>
    obtain ⟨m2, a4, d4, E4, y1, y2, y3, y4⟩ := spec_l1Cur_pieces_ex hs d3 (n + p + 2) (by omega) q3 (by omega)
    obtain ⟨lost, a', d', E, w1, w2, w3⟩ := rest m2 a4 d4 y3 (by omega) (by omega)
    refine ⟨n + 1, p + 1, m2, lost, a', d', ?_, by omega, by omega, by omega, y2, w1, w2, w3⟩
    refine Ev.bind (f := fun k b => (spec_EncodePieces.f k b.1 ((p + 1 : Nat) : Int)).bind fun e => if e.2 = true then spec_l1Cur_coded.j0 k ((n + 1 : Nat) : Int) ((p + 1 : Nat) : Int) e.1 s b.2.1 b.2.2 else (spec_l1Cur_pieces.f k s b.2.1 b.2.2 ((n + p + 2 : Nat) : Int)).bind fun c => spec_l1Cur_coded.j0 k ((n + 1 : Nat) : Int) ((p + 1 : Nat) : Int) c.1 s c.2.1 c.2.2) E3 ?_
    refine Ev.bind (f := fun k e => if e.2 = true then spec_l1Cur_coded.j0 k ((n + 1 : Nat) : Int) ((p + 1 : Nat) : Int) e.1 s a3 d3 else (spec_l1Cur_pieces.f k s a3 d3 ((n + p + 2 : Nat) : Int)).bind fun c => spec_l1Cur_coded.j0 k ((n + 1 : Nat) : Int) ((p + 1 : Nat) : Int) c.1 s c.2.1 c.2.2) EE ?_
    simp only [Bool.false_eq_true, if_false]
    exact Ev.bind (f := fun k c => spec_l1Cur_coded.j0 k ((n + 1 : Nat) : Int) ((p + 1 : Nat) : Int) c.1 s c.2.1 c.2.2) E4 E

theorem drawUpd_l0 {s : List Int} (hs : BY s) (x8 x9 : Int) (x10 : List (List Int)) (n : Nat) (hn : n ≤ 1000) : ∀ (d i : Nat) (p : List Int) (a dd : Int), i + d = n → p.length = i → 0 ≤ a → a + 2 * d ≤ 800000000 →
    ∃ k0 p', Ev (fun k => spec_DrawUpdatePiece.l0 k x8 x9 x10 p (n : Int) (i : Int) s a dd) (x8, x9, x10, k0, p') ∧ p'.length = n := by
  intro d
  induction d with
  | zero =>
    intro i p a dd hi hp ha hb
    obtain rfl : i = n := by omega
    obtain ⟨v, a1, d1, e1, h1, h2, h3, h4, h5⟩ := spec_l1Cur_pick_ex hs dd (wrap64 (x8 + 1)) ha (by omega)
    refine ⟨v, p, Ev.step (f := fun _ => some (x8, x9, x10, v, p)) (fun k => ?_) (Ev.now _), hp⟩
    rw [spec_DrawUpdatePiece.l0.eq_2, if_neg (by omega), e1, Option.bind_some]
  | succ d ih =>
    intro i p a dd hi hp ha hb
    obtain ⟨v, a1, d1, e1, h1, h2, h3, h4, h5⟩ := spec_l1Cur_pick_ex hs dd 256 ha (by omega)
    obtain ⟨k0, p', E, hp'⟩ := ih (i + 1) (p ++ [v]) a1 d1 (by omega) (by rw [List.length_append, List.length_singleton]; omega) h4 (by omega)
    refine ⟨k0, p', Ev.step (fun k => ?_) E, hp'⟩
    rw [spec_DrawUpdatePiece.l0.eq_2, if_pos (by omega), e1, Option.bind_some, if_pos (by omega), wrap_succ i (by omega)]
theorem spec_DrawUpdatePiece_ex {s : List Int} (hs : BY s) : ∃ (n p : Nat) (l : List (List Int)) (k0 : Int) (q : List Int), Ev (fun k => spec_DrawUpdatePiece.f k s) ((n : Int), (p : Int), l, k0, q) ∧ l.length ≤ 32 ∧ (∀ r ∈ l, r.length ≤ 33) ∧ q.length ≤ 33 := by
  obtain ⟨n, p, l, lost, a1, d1, E, h1, h2, h3, ⟨cc, hcc, h4c⟩, h5, h6, h7⟩ := spec_l1Cur_coded_ex hs (a := 0) 0 (by omega) (by omega)
  have h4 : ∀ r ∈ l, r.length ≤ 33 := fun r h => by have := h4c r h; omega
  unfold spec_DrawUpdatePiece.f
  by_cases hl : 0 < l.length
  · have h8 : (l.getD 0 []).length ≤ 33 := by
      rw [List.getD_eq_getElem?_getD, List.getElem?_eq_getElem hl]; exact h4 _ (List.getElem_mem hl)
    obtain ⟨k0, q, E2, hq⟩ := drawUpd_l0 hs (n : Int) (p : Int) l (l.getD 0 []).length (by omega) (l.getD 0 []).length 0 [] a1 d1 (by omega) rfl h6 (by omega)
    refine ⟨n, p, l, k0, q, Ev.bind (f := fun k b => if (b.2.2.1.length : Int) > 0 then (if 0 < (b.2.2.1.length : Int) then (spec_DrawUpdatePiece.l0 k b.1 b.2.1 b.2.2.1 ([] : List Int) ((rd_L1 b.2.2.1 0).length : Int) 0 s b.2.2.2.2.1 b.2.2.2.2.2) else none) else ((spec_l1Cur_pick.f s b.2.2.2.2.1 b.2.2.2.2.2 (wrap64 (b.1 + 1))).bind fun c => some (b.1, b.2.1, b.2.2.1, c.1, ([] : List Int)))) E ?_, h3, h4, by omega⟩
    simp only [if_pos (show (l.length : Int) > 0 by omega), if_pos (show 0 < (l.length : Int) by omega)]
    exact E2
  · obtain ⟨v, a2, d2, e2, k1, k2, k3, k4, k5⟩ := spec_l1Cur_pick_ex hs d1 (wrap64 ((n : Int) + 1)) h6 (by omega)
    refine ⟨n, p, l, v, [], Ev.bind (f := fun k b => if (b.2.2.1.length : Int) > 0 then (if 0 < (b.2.2.1.length : Int) then (spec_DrawUpdatePiece.l0 k b.1 b.2.1 b.2.2.1 ([] : List Int) ((rd_L1 b.2.2.1 0).length : Int) 0 s b.2.2.2.2.1 b.2.2.2.2.2) else none) else ((spec_l1Cur_pick.f s b.2.2.2.2.1 b.2.2.2.2.2 (wrap64 (b.1 + 1))).bind fun c => some (b.1, b.2.1, b.2.2.1, c.1, ([] : List Int)))) E ?_, h3, h4, by simp⟩
    simp only [if_neg (show ¬ (l.length : Int) > 0 by omega), e2, Option.bind_some]
    exact Ev.now _

theorem impl_areGf_eq (l : List Int) : impl_areGf.f l = some (l.all isB) := by
  unfold impl_areGf.f
  have e : impl_areGf.bad = fun n => !isB n := by
    funext n
    simp only [impl_areGf.bad, isB]
  rw [e, List.all_eq_not_any_not]

theorem impl_identity_l0 (n : Nat) (hn : n ≤ 1000) : ∀ d i : Nat, i + d = n → Ev (fun k => impl_identity.l0 k (n : Int) (idL n i) (n : Int) (i : Int)) (idL n n) := by
  intro d
  induction d with
  | zero =>
    intro i hi
    obtain rfl : i = n := by omega
    exact Ev.step (f := fun _ => some (idL i i)) (fun k => by rw [impl_identity.l0.eq_2, if_neg (by omega)]) (Ev.now _)
  | succ d ih =>
    intro i hi
    refine Ev.step (f := fun k => impl_identity.l0 k (n : Int) (idL n (i + 1)) (n : Int) ((i + 1 : Nat) : Int)) (fun k => ?_) (ih (i + 1) (by omega))
    rw [impl_identity.l0.eq_2, if_pos (by omega), if_pos (by omega), if_pos (by omega)]
    simp only [Option.bind_some, Int.toNat_natCast]
    rw [if_pos (by omega), if_pos (by rw [List.length_replicate]; omega), if_pos (by rw [idL_length]; omega), wrap_succ i (by omega), idL_succ]
    rfl
theorem impl_identity_ev (n : Nat) (hn : n ≤ 1000) : Ev (fun k => impl_identity.f k (n : Int)) (idL n n) := impl_identity_l0 n hn n 0 (by omega)

theorem impl_mul_l0 : ∀ (n a b o : Nat), a < 256 → o < 256 → b < 2 ^ n → b < 2 ^ 63 → Ev (fun k => impl_mul.l0 k (a : Int) (b : Int) (o : Int)) ((Gf.gmA n a b o : Nat) : Int) := by
  have stop : ∀ a o : Nat, Ev (fun k => impl_mul.l0 k (a : Int) ((0 : Nat) : Int) (o : Int)) ((o : Nat) : Int) := fun a o =>
    Ev.step (f := fun _ => some ((o : Nat) : Int)) (fun k => by simp only [impl_mul.l0]; rw [if_neg (by omega)]) (Ev.now _)
  intro n
  induction n with
  | zero =>
    intro a b o ha ho hb _
    obtain rfl : b = 0 := by simpa using hb
    exact stop a o
  | succ n ih =>
    intro a b o ha ho hb hb63
    by_cases h0 : b = 0
    · subst h0
      rw [Gf.gmA_zero]
      exact stop a o
    · have e1 : wrap64 ((a : Int) * 2) = ((a * 2 : Nat) : Int) := by rw [wrap_id (by omega) (by omega)]; omega
      have e2 : Go.bits .xor .i64 ((a * 2 : Nat) : Int) 285 = (((a * 2) ^^^ 285 : Nat) : Int) := xor_nat (a := a * 2) (b := 285) (by omega) (by decide)
      have e3 : Go.bits .xor .i64 (o : Int) (a : Int) = ((o ^^^ a : Nat) : Int) := xor_nat (by omega) (by omega)
      have e4 := and_one (a := b) hb63
      refine Ev.step (f := fun k => impl_mul.l0 k ((Gf.xt a : Nat) : Int) ((b / 2 : Nat) : Int) (((if b % 2 = 1 then o ^^^ a else o) : Nat) : Int)) (fun k => ?_) (ih _ _ _ (Gf.xt_lt a ha) ?_ (by rw [Nat.pow_succ] at hb; omega) (by omega))
      · simp only [impl_mul.l0, e1, e2, e3, e4, half_nat, Gf.xt]
        rw [if_pos (show (b : Int) > 0 by omega)]
        by_cases h1 : b % 2 = 1 <;> by_cases h2 : 255 < a * 2
        · rw [if_pos (show ((b % 2 : Nat) : Int) = 1 by omega), if_pos h1, if_pos (by omega), if_pos h2]
        · rw [if_pos (show ((b % 2 : Nat) : Int) = 1 by omega), if_pos h1, if_neg (by omega), if_neg h2]
        · rw [if_neg (show ¬ ((b % 2 : Nat) : Int) = 1 by omega), if_neg h1, if_pos (by omega), if_pos h2]
        · rw [if_neg (show ¬ ((b % 2 : Nat) : Int) = 1 by omega), if_neg h1, if_neg (by omega), if_neg h2]
      · split
        · exact Gf.xor_byte ho ha
        · exact ho
theorem impl_mul_ev (a b : Nat) (ha : a < 256) (hb : b < 256) : Ev (fun k => impl_mul.f k (a : Int) (b : Int)) ((Gf.gm a b : Nat) : Int) :=
  impl_mul_l0 8 a b 0 ha (by decide) hb (by omega)

theorem impl_pow_l0 : ∀ (f a n o : Nat), a < 256 → o < 256 → n < 2 ^ f → n < 2 ^ 63 → Ev (fun k => impl_pow.l0 k (a : Int) (n : Int) (o : Int)) ((Gf.pwA f a n o : Nat) : Int) := by
  have stop : ∀ a o : Nat, Ev (fun k => impl_pow.l0 k (a : Int) ((0 : Nat) : Int) (o : Int)) ((o : Nat) : Int) := fun a o =>
    Ev.step (f := fun _ => some ((o : Nat) : Int)) (fun k => by simp only [impl_pow.l0]; rw [if_neg (by omega)]) (Ev.now _)
  have z : ∀ f a o, Gf.pwA f a 0 o = o := by
    intro f
    induction f with
    | zero => intro a o; rfl
    | succ f ih => intro a o; exact ih _ _
  intro f
  induction f with
  | zero =>
    intro a n o ha ho hn _
    obtain rfl : n = 0 := by simpa using hn
    exact stop a o
  | succ f ih =>
    intro a n o ha ho hn hn63
    by_cases h0 : n = 0
    · subst h0
      rw [z]
      exact stop a o
    · have e4 := and_one (a := n) hn63
      have hsq := Gf.gm_lt a ha
      by_cases h1 : n % 2 = 1
      · refine Ev.step (f := fun k => (impl_mul.f k (o : Int) (a : Int)).bind fun t => (impl_mul.f k (a : Int) (a : Int)).bind fun u => impl_pow.l0 k u ((n / 2 : Nat) : Int) t) (fun k => ?_) ?_
        · simp only [impl_pow.l0, e4, half_nat]
          rw [if_pos (show (n : Int) > 0 by omega), if_pos (show ((n % 2 : Nat) : Int) = 1 by omega)]
        · have := ih (Gf.gm a a) (n / 2) (Gf.gm o a) hsq (Gf.gm_lt a ho) (by rw [Nat.pow_succ] at hn; omega) (by omega)
          show Ev _ ((Gf.pwA f (Gf.gm a a) (n / 2) (if n % 2 = 1 then Gf.gm o a else o) : Nat) : Int)
          rw [if_pos h1]
          exact Ev.bind (f := fun k t => (impl_mul.f k (a : Int) (a : Int)).bind fun u => impl_pow.l0 k u ((n / 2 : Nat) : Int) t) (impl_mul_ev o a ho ha) (Ev.bind (f := fun k u => impl_pow.l0 k u ((n / 2 : Nat) : Int) ((Gf.gm o a : Nat) : Int)) (impl_mul_ev a a ha ha) this)
      · refine Ev.step (f := fun k => (impl_mul.f k (a : Int) (a : Int)).bind fun u => impl_pow.l0 k u ((n / 2 : Nat) : Int) (o : Int)) (fun k => ?_) ?_
        · simp only [impl_pow.l0, e4, half_nat]
          rw [if_pos (show (n : Int) > 0 by omega), if_neg (show ¬ ((n % 2 : Nat) : Int) = 1 by omega)]
        · have := ih (Gf.gm a a) (n / 2) o hsq ho (by rw [Nat.pow_succ] at hn; omega) (by omega)
          show Ev _ ((Gf.pwA f (Gf.gm a a) (n / 2) (if n % 2 = 1 then Gf.gm o a else o) : Nat) : Int)
          rw [if_neg h1]
          exact Ev.bind (f := fun k u => impl_pow.l0 k u ((n / 2 : Nat) : Int) (o : Int)) (impl_mul_ev a a ha ha) this
theorem impl_pow_ev (a n : Nat) (ha : a < 256) (hn : n < 2 ^ 62) : Ev (fun k => impl_pow.f k (a : Int) (n : Int)) ((Gf.pw a n : Nat) : Int) := by
  have := impl_pow_l0 62 a n 1 ha (by decide) hn (by omega)
  rw [Gf.pwA_eq 62 a n 1 ha (by decide) hn, Gf.one_gm _ (Gf.pw_lt n)] at this
  exact this

theorem impl_inverse_ev (b : Nat) (hb : b < 256) : Ev (fun k => impl_inverse.f k (b : Int)) ((Gf.gi b : Nat) : Int) := by
  unfold impl_inverse.f
  exact Ev.bind (f := fun _ u => some u) (impl_pow_ev b 254 hb (by decide)) (Ev.now _)

theorem impl_codeMatrix_l0 (d p : Nat) (hd : d ≤ 20) (hp : p ≤ 20) : ∀ (u i : Nat), i + u = p → Ev (fun k => impl_codeMatrix.l0 k (d : Int) (p : Int) (upM (Mat.idM d ++ cauchyM (rangeN 0 i) (rangeN p d))) (p : Int) (i : Int)) (upM (codeM d p)) := by
  intro u
  induction u with
  | zero =>
    intro i hi
    obtain rfl : i = p := by omega
    exact Ev.step (f := fun _ => some (upM (codeM d i))) (fun k => by rw [impl_codeMatrix.l0.eq_2, if_neg (by omega)]; rfl) (Ev.now _)
  | succ u ih =>
    intro i hi
    have row : ∀ (e j : Nat), j + e = d →
        Ev (fun k => impl_codeMatrix.l1 k (d : Int) (p : Int) (upM (Mat.idM d ++ cauchyM (rangeN 0 i) (rangeN p d))) (i : Int) (Poly.up (cauchyR i (rangeN p j))) (p : Int) (i : Int) (d : Int) (j : Int)) (upM (codeM d p)) := by
      intro e
      induction e with
      | zero =>
        intro j hj
        obtain rfl : j = d := by omega
        refine Ev.step (f := fun k => impl_codeMatrix.l0 k (j : Int) (p : Int) (upM (Mat.idM j ++ cauchyM (rangeN 0 (i + 1)) (rangeN p j))) (p : Int) ((i + 1 : Nat) : Int)) (fun k => ?_) (ih (i + 1) (by omega))
        have e1 : cauchyM (rangeN 0 i) (rangeN p j) ++ [cauchyR i (rangeN p j)] = cauchyM (rangeN 0 (i + 1)) (rangeN p j) := by
          unfold cauchyM
          rw [rangeN_succ, List.map_append, Nat.zero_add]; rfl
        rw [impl_codeMatrix.l1.eq_2, if_neg (by omega), if_pos (by rw [upM_length, List.length_append, Mat.idM_length, cauchyM_length, rangeN_length]; omega), upM_snoc, List.append_assoc, e1, wrap_succ i (by omega)]
      | succ e ihe =>
        intro j hj
        have hx := xor_up (a := i) (b := p + j) (by omega) (by omega)
        have hab := Gf.xor_byte (a := i) (b := p + j) (by omega) (by omega)
        have e1 : cauchyR i (rangeN p j) ++ [Gf.gi (i ^^^ (p + j))] = cauchyR i (rangeN p (j + 1)) := by
          unfold cauchyR
          rw [rangeN_succ, List.map_append]; rfl
        have hl : (Poly.up (cauchyR i (rangeN p j))).length < 17592186044416 := by rw [Poly.up_length]; simp only [cauchyR, List.length_map, rangeN_length]; omega
        refine Ev.step (f := fun k => (impl_inverse.f k ((i ^^^ (p + j) : Nat) : Int)).bind fun t => if (Poly.up (cauchyR i (rangeN p j))).length < 17592186044416 then impl_codeMatrix.l1 k (d : Int) (p : Int) (upM (Mat.idM d ++ cauchyM (rangeN 0 i) (rangeN p d))) (i : Int) (Poly.up (cauchyR i (rangeN p j)) ++ [t]) (p : Int) (i : Int) (d : Int) ((j + 1 : Nat) : Int) else none) (fun k => ?_) ?_
        · rw [impl_codeMatrix.l1.eq_2, if_pos (by omega), wrap_add p j (by omega), hx, wrap_succ j (by omega)]
        · refine Ev.bind (f := fun k t => if (Poly.up (cauchyR i (rangeN p j))).length < 17592186044416 then impl_codeMatrix.l1 k (d : Int) (p : Int) (upM (Mat.idM d ++ cauchyM (rangeN 0 i) (rangeN p d))) (i : Int) (Poly.up (cauchyR i (rangeN p j)) ++ [t]) (p : Int) (i : Int) (d : Int) ((j + 1 : Nat) : Int) else none) (impl_inverse_ev _ hab) ?_
          simp only [if_pos hl, Poly.up_snoc, e1]
          exact ihe (j + 1) (by omega)
    refine Ev.step (f := fun k => impl_codeMatrix.l1 k (d : Int) (p : Int) (upM (Mat.idM d ++ cauchyM (rangeN 0 i) (rangeN p d))) (i : Int) (Poly.up (cauchyR i (rangeN p 0))) (p : Int) (i : Int) (d : Int) ((0 : Nat) : Int)) (fun k => ?_) (row d 0 (by omega))
    rw [impl_codeMatrix.l0.eq_2, if_pos (by omega)]; rfl
theorem impl_codeMatrix_ev (d p : Nat) (hd : d ≤ 20) (hp : p ≤ 20) : Ev (fun k => impl_codeMatrix.f k (d : Int) (p : Int)) (upM (codeM d p)) := by
  unfold impl_codeMatrix.f
  have E := impl_identity_ev d (by omega)
  rw [idL_up] at E
  refine Ev.bind (f := fun k t => impl_codeMatrix.l0 k (d : Int) (p : Int) t (p : Int) 0) E ?_
  have := impl_codeMatrix_l0 d p hd hp p 0 (by omega)
  have e : Mat.idM d ++ cauchyM (rangeN 0 0) (rangeN p d) = Mat.idM d := by simp [rangeN, cauchyM]
  rw [e] at this
  exact this

theorem impl_isCode_eq (a b : Int) : impl_isCode.f a b = some (isC a b) := by
  unfold impl_isCode.f isC
  simp only [impl_within_eq, Option.bind_some]
  cases decide (1 ≤ a ∧ a ≤ 6) <;> rfl

theorem impl_arePieces_eq (m : List (List Int)) (a : Int) (hm : 0 < m.length) : impl_arePieces.f m a = some (areP m && decide ((m.length : Int) = a)) := by
  unfold impl_arePieces.f impl_areLong.f areP
  have e : impl_areGf.bad = fun n => !isB n := by
    funext n
    simp only [impl_areGf.bad, isB]
  have e2 : (m.all fun r => decide (r.length = (m.getD 0 []).length) && r.all isB) = ((!m.any (impl_areLong.bad m)) && !(m.any fun r => r.any impl_areGf.bad)) := by
    have h1 : impl_areLong.bad m = fun r => !decide (r.length = (m.getD 0 []).length) := by funext r; rfl
    rw [h1, e]
    have h2 : (fun r : List Int => r.any fun n => !isB n) = fun r => !r.all isB := by funext r; rw [List.all_eq_not_any_not, Bool.not_not]
    rw [h2, ← List.all_eq_not_any_not, ← List.all_eq_not_any_not]
    generalize (m.getD 0 []).length = c
    induction m with
    | nil => rfl
    | cons r m ih =>
      simp only [List.all_cons]
      by_cases hm0 : 0 < m.length
      · rw [ih hm0 rfl]
        cases decide (r.length = c) <;> cases r.all isB <;> simp
      · obtain rfl : m = [] := List.length_eq_zero_iff.1 (by omega)
        simp
  unfold areR
  rw [e2]
  by_cases h1 : (m.length : Int) = a
  · rw [if_pos h1, if_pos hm, Option.bind_some, decide_eq_true h1, Bool.and_true]
    cases decide ((m.getD 0 []).length ≤ 32) <;> cases m.any (impl_areLong.bad m) <;> simp
  · rw [if_neg h1, Option.bind_some, decide_eq_false h1, Bool.and_false]; simp

/-- Each piece with the change of piece k, as often as its row of the code says. -/
def updL (q : List Nat) : List Nat → List (List Nat) → List (List Nat)
  | f :: fs, r :: m => Mat.radd f r q :: updL q fs m
  | _, _ => []
theorem updL_length (q : List Nat) : ∀ {fs : List Nat} {m : List (List Nat)}, fs.length = m.length → (updL q fs m).length = m.length
  | [], [], _ => rfl
  | f :: fs, r :: m, h => by simp only [updL, List.length_cons, updL_length q (show fs.length = m.length by simpa using h)]
  | [], _ :: _, h => by cases h
  | _ :: _, [], h => by cases h
theorem updL_MB {c : Nat} {q : List Nat} (hq : q.length = c) : ∀ {fs : List Nat} {m : List (List Nat)}, Poly.AllB fs → Mat.MB' c m → Mat.MB' c (updL q fs m)
  | [], _, _, _ => fun r hr => by cases hr
  | _ :: _, [], _, _ => fun r hr => by cases hr
  | f :: fs, r :: m, hf, h => fun x hx => by
    have hr := h r List.mem_cons_self
    rcases List.mem_cons.1 hx with h1 | h1
    · rw [h1]; exact ⟨by rw [Mat.radd_length _ (by rw [hr.1, hq])]; exact hr.1, Mat.radd_bytes hf.head hr.2⟩
    · exact updL_MB hq hf.tail h.tail x h1
theorem updL_snoc (q : List Nat) : ∀ {fs : List Nat} {m : List (List Nat)} (f : Nat) (r : List Nat), fs.length = m.length → updL q (fs ++ [f]) (m ++ [r]) = updL q fs m ++ [Mat.radd f r q]
  | [], [], f, r, _ => rfl
  | g :: fs, p :: m, f, r, h => by simp only [List.cons_append, updL, updL_snoc q f r (show fs.length = m.length by simpa using h)]
  | [], _ :: _, _, _, h => by cases h
  | _ :: _, [], _, _, h => by cases h
/-- The change: piece k beside the new one. -/
def chg (r p : List Nat) : List Nat := Mat.radd 1 r p
def updM (d p : Nat) (m : List (List Nat)) (k : Nat) (piece : List Nat) : List (List Nat) := updL (chg (m.getD k []) piece) (Mat.col k (codeM d p)) m
def updOk (a b : Int) (l : List (List Int)) (k : Int) (p : List Int) : Bool := isC a b && ((areP l && decide ((l.length : Int) = a + b)) && (decide (0 ≤ k ∧ k < a) && (decide (p.length = (l.getD 0 []).length) && p.all isB)))
def updV (a b : Int) (l : List (List Int)) (k : Int) (p : List Int) : List (List Int) × Bool := if updOk a b l k p then (upM (updM a.toNat b.toNat (dnM l) k.toNat (p.map Int.toNat)), true) else ([], false)
theorem updOk_up {a b : Int} {l : List (List Int)} {k : Int} {p : List Int} (h : updOk a b l k p = true) : ∃ (d e kk c : Nat) (m : List (List Nat)) (q : List Nat), a = (d : Int) ∧ b = (e : Int) ∧ k = (kk : Int) ∧ l = upM m ∧ p = Poly.up q ∧ Mat.MB' c m ∧ q.length = c ∧ Poly.AllB q ∧ m.length = d + e ∧ kk < d ∧ 1 ≤ d ∧ d ≤ 6 ∧ 1 ≤ e ∧ e ≤ 4 ∧ c ≤ 32 := by
  simp only [updOk, Bool.and_eq_true, decide_eq_true_eq] at h
  have hb := isC_bd h.1
  obtain ⟨c, m, rfl, hm, e1, h1⟩ := areP_up h.2.1.1
  obtain ⟨q, rfl, hq⟩ := allB_up h.2.2.2.2
  have h2 := h.2.1.2
  have h3 := h.2.2.2.1
  rw [upM_length] at h2
  rw [e1, Poly.up_length] at h3
  exact ⟨a.toNat, b.toNat, k.toNat, c, m, q, by omega, by omega, by have := h.2.2.1; omega, rfl, rfl, hm, h3, hq, by omega, by have := h.2.2.1; omega, by omega, by omega, by omega, by omega, h1⟩
theorem updM_MB {d e k c : Nat} {m : List (List Nat)} {q : List Nat} (hm : Mat.MB' c m) (hq : q.length = c) (hk : k < m.length) : Mat.MB' c (updM d e m k q) := by
  have hr := hm.get hk
  exact updL_MB (by unfold chg; rw [Mat.radd_length _ (by rw [hr.1, hq])]; exact hr.1) (Mat.col_bytes (codeM_MB d e) k) hm
theorem updV_small (a b : Int) (l : List (List Int)) (k : Int) (p : List Int) : (updV a b l k p).1.length ≤ 32 ∧ ∀ r ∈ (updV a b l k p).1, r.length ≤ 32 := by
  unfold updV
  split
  · rename_i h
    obtain ⟨d, e, kk, c, m, q, rfl, rfl, rfl, rfl, rfl, hm, hql, hq, h1, h2, h3, h4, h5, h6, h7⟩ := updOk_up h
    rw [dnM_upM, dn_up, Int.toNat_natCast, Int.toNat_natCast, Int.toNat_natCast]
    exact upM_small (updM_MB hm hql (by omega)) (by unfold updM; rw [updL_length _ (by rw [Mat.col_length, codeM_length, h1])]; omega) h7
  · exact ⟨by simp, fun r hr => by cases hr⟩
theorem chg_getD {r p : List Nat} (h : r.length = p.length) (hp : Poly.AllB p) (j : Nat) : (chg r p).getD j 0 = r.getD j 0 ^^^ p.getD j 0 := by
  unfold chg
  rw [Mat.radd_getD h, Gf.one_gm _ (Poly.AllB.get hp j)]
theorem chg_bytes {r p : List Nat} (hr : Poly.AllB r) : Poly.AllB (chg r p) := Mat.radd_bytes (by decide) hr
theorem updV_j (a b : Int) (l : List (List Int)) (k : Int) (p : List Int) {x : Bool} (h : updOk a b l k p = x) : updV a b l k p = if x then (upM (updM a.toNat b.toNat (dnM l) k.toNat (p.map Int.toNat)), true) else ([], false) := by unfold updV; rw [h]

theorem impl_UpdatePiece_l0 (d e k c : Nat) (m : List (List Nat)) (q : List Nat) (hm : Mat.MB' c m) (hq : q.length = c) (hqb : Poly.AllB q) (hml : m.length = d + e) (hk : k < d) (hd : d ≤ 6) (he : e ≤ 4) (hc : c ≤ 32) : ∀ (u i : Nat), i + u = m.length →
    Ev (fun r => impl_UpdatePiece.l0 r (upM m) (k : Int) (Poly.up q) (upM (codeM d e)) (upM (updL (chg (m.getD k []) q) ((Mat.col k (codeM d e)).take i) (m.take i))) (upM m) (m.length : Int) (i : Int)) (upM (updM d e m k q), true) := by
  have hkm : k < m.length := by omega
  obtain ⟨hkl, hkb⟩ := hm.get hkm
  have hcl : (chg (m.getD k []) q).length = c := by unfold chg; rw [Mat.radd_length _ (by rw [hkl, hq])]; exact hkl
  have hcb : Poly.AllB (chg (m.getD k []) q) := chg_bytes hkb
  have hcol : (Mat.col k (codeM d e)).length = m.length := by rw [Mat.col_length, codeM_length, hml]
  intro u
  induction u with
  | zero =>
    intro i hi
    obtain rfl : i = m.length := by omega
    have e1 : updL (chg (m.getD k []) q) ((Mat.col k (codeM d e)).take m.length) (m.take m.length) = updM d e m k q := by
      rw [List.take_length, ← hcol, List.take_length]; rfl
    rw [e1]
    exact Ev.step (f := fun _ => some (upM (updM d e m k q), true)) (fun r => by rw [impl_UpdatePiece.l0.eq_2, if_neg (by omega)]) (Ev.now _)
  | succ u ih =>
    intro i hi
    have hlt : i < m.length := by omega
    obtain ⟨hrl, hrb⟩ := hm.get hlt
    have hf : (Mat.col k (codeM d e)).getD i 0 < 256 := Poly.AllB.get (Mat.col_bytes (codeM_MB d e) k) i
    have hfe : ((codeM d e).getD i []).getD k 0 = (Mat.col k (codeM d e)).getD i 0 := (Mat.col_at k _ i).symm
    have hcr := (codeM_MB d e).get (i := i) (by rw [codeM_length]; omega)
    have eS : updL (chg (m.getD k []) q) ((Mat.col k (codeM d e)).take i) (m.take i) ++ [Mat.radd ((Mat.col k (codeM d e)).getD i 0) (m.getD i []) (chg (m.getD k []) q)] = updL (chg (m.getD k []) q) ((Mat.col k (codeM d e)).take (i + 1)) (m.take (i + 1)) := by
      rw [List.take_succ_eq_append_getElem hlt, List.take_succ_eq_append_getElem (by omega : i < (Mat.col k (codeM d e)).length), updL_snoc _ _ _ (by simp only [List.length_take]; omega), show m.getD i [] = m[i] by rw [List.getD_eq_getElem?_getD, List.getElem?_eq_getElem hlt]; rfl, show (Mat.col k (codeM d e)).getD i 0 = (Mat.col k (codeM d e))[i] by rw [List.getD_eq_getElem?_getD, List.getElem?_eq_getElem (by omega : i < (Mat.col k (codeM d e)).length)]; rfl]
    generalize hF : (Mat.col k (codeM d e)).getD i 0 = f at hf eS hfe
    have hrc : (m.getD i []).length = (chg (m.getD k []) q).length := by rw [hrl, hcl]
    have row : ∀ (v t : Nat), t + v = c → Ev (fun r => impl_UpdatePiece.l1 r (upM m) (k : Int) (Poly.up q) (upM (codeM d e)) (upM (updL (chg (m.getD k []) q) ((Mat.col k (codeM d e)).take i) (m.take i))) (i : Int) (Poly.up (Mat.raddTo f (m.getD i []) (chg (m.getD k []) q) t)) (upM m) (m.length : Int) (i : Int) (c : Int) (t : Int)) (upM (updM d e m k q), true) := by
      intro v
      induction v with
      | zero =>
        intro t ht
        have htc : t = (m.getD i []).length := by omega
        rw [htc, Mat.raddTo_all hrc]
        refine Ev.step (f := fun r => impl_UpdatePiece.l0 r (upM m) (k : Int) (Poly.up q) (upM (codeM d e)) (upM (updL (chg (m.getD k []) q) ((Mat.col k (codeM d e)).take (i + 1)) (m.take (i + 1)))) (upM m) (m.length : Int) ((i + 1 : Nat) : Int)) (fun r => ?_) (ih (i + 1) (by omega))
        rw [impl_UpdatePiece.l1.eq_2, if_neg (by omega), if_pos (by rw [upM_length, updL_length _ (by simp only [List.length_take]; omega), List.length_take]; omega), upM_snoc, eS, wrap_succ i (by omega)]
      | succ v ihv =>
        intro t ht
        have htl : t < (m.getD i []).length := by omega
        have hpt : q.getD t 0 < 256 := hqb.get t
        have hkt : (m.getD k []).getD t 0 < 256 := Poly.AllB.get hkb t
        have hx1 := xor_up hpt hkt
        have hxb := Gf.xor_byte hpt hkt
        have hxc : q.getD t 0 ^^^ (m.getD k []).getD t 0 = (chg (m.getD k []) q).getD t 0 := by rw [chg_getD (by rw [hkl, hq]) hqb, Nat.xor_comm]
        have hx := xor_up (Poly.AllB.get hrb t) (Gf.gm_lt ((chg (m.getD k []) q).getD t 0) hf)
        refine Ev.step (f := fun r => (impl_mul.f r (f : Int) (((chg (m.getD k []) q).getD t 0 : Nat) : Int)).bind fun z => impl_UpdatePiece.l1 r (upM m) (k : Int) (Poly.up q) (upM (codeM d e)) (upM (updL (chg (m.getD k []) q) ((Mat.col k (codeM d e)).take i) (m.take i))) (i : Int) ((Poly.up (Mat.raddTo f (m.getD i []) (chg (m.getD k []) q) t)).set t (Go.bits .xor .i64 (((m.getD i []).getD t 0 : Nat) : Int) z)) (upM m) (m.length : Int) (i : Int) (c : Int) ((t + 1 : Nat) : Int)) (fun r => ?_) ?_
        · rw [impl_UpdatePiece.l1.eq_2, if_pos (by omega), if_pos (by omega), if_pos (by rw [Poly.up_length, Mat.raddTo_length hrc]; omega), if_pos (by omega), if_pos (by rw [upM_length, codeM_length]; omega), if_pos (by omega), rdL_up, if_pos (by rw [Poly.up_length, hcr.1]; omega), if_pos (by rw [Poly.up_length]; omega), if_pos (by rw [upM_length]; omega), rdL_up, if_pos (by rw [Poly.up_length, hkl]; omega), Poly.rd_up, Poly.rd_up, Poly.rd_up, Poly.rd_up, hfe, hx1, hxc, Mat.raddTo_at hrc htl, wrap_succ t (by omega), Int.toNat_natCast]
        · refine Ev.bind (f := fun r z => impl_UpdatePiece.l1 r (upM m) (k : Int) (Poly.up q) (upM (codeM d e)) (upM (updL (chg (m.getD k []) q) ((Mat.col k (codeM d e)).take i) (m.take i))) (i : Int) ((Poly.up (Mat.raddTo f (m.getD i []) (chg (m.getD k []) q) t)).set t (Go.bits .xor .i64 (((m.getD i []).getD t 0 : Nat) : Int) z)) (upM m) (m.length : Int) (i : Int) (c : Int) ((t + 1 : Nat) : Int)) (impl_mul_ev _ _ hf (Poly.AllB.get hcb t)) ?_
          simp only [hx, Poly.up_set, Mat.raddTo_succ hrc htl]
          exact ihv (t + 1) (by omega)
    have h0 := row c 0 (by omega)
    rw [Mat.raddTo_zero] at h0
    refine Ev.step (f := fun r => impl_UpdatePiece.l1 r (upM m) (k : Int) (Poly.up q) (upM (codeM d e)) (upM (updL (chg (m.getD k []) q) ((Mat.col k (codeM d e)).take i) (m.take i))) (i : Int) (Poly.up (m.getD i [])) (upM m) (m.length : Int) (i : Int) (c : Int) ((0 : Nat) : Int)) (fun r => ?_) h0
    have hcf : slices_Clone_int_int_95.f (Poly.up (m.getD i [])) = some (Poly.up (m.getD i [])) := by
      unfold slices_Clone_int_int_95.f
      rw [if_pos (by rw [Poly.up_length]; omega)]
    rw [impl_UpdatePiece.l0.eq_2, if_pos (by omega), if_pos (by omega), if_pos (by rw [upM_length]; omega), rdL_up, hcf, Option.bind_some, Poly.up_length, hrl]; rfl
theorem impl_UpdatePiece_ev (a b : Int) (l : List (List Int)) (k : Int) (p : List Int) (hp : p.length ≤ 1048576) : Ev (fun r => impl_UpdatePiece.f r a b l k p) (updV a b l k p) := by
  have no : ∀ {x : Bool}, x = true → Ev (fun r => impl_UpdatePiece.j0 r a b l k p x) ([], false) := fun {x} hx => Ev.step (f := fun _ => some ([], false)) (fun r => by rw [impl_UpdatePiece.j0.eq_2, if_pos hx]) (Ev.now _)
  unfold impl_UpdatePiece.f
  simp only [impl_isCode_eq, Option.bind_some]
  cases h1 : isC a b
  · rw [updV_j a b l k p (x := false) (by unfold updOk; rw [h1]; rfl)]
    simp only [Bool.false_eq_true, if_false]
    exact no rfl
  have hb := isC_bd h1
  simp only [if_true]
  rw [wrap_id (n := a + b) (by omega) (by omega), wrap_id (n := a - 1) (by omega) (by omega)]
  have hP : impl_arePieces.f l (a + b) = some (areP l && decide ((l.length : Int) = a + b)) := by
    by_cases hm : 0 < l.length
    · exact impl_arePieces_eq l _ hm
    · have e : ¬ (l.length : Int) = a + b := by omega
      unfold impl_arePieces.f impl_areLong.f
      rw [if_neg e, decide_eq_false e, Bool.and_false]; rfl
  rw [hP]
  simp only [Option.bind_some]
  cases h2 : areP l && decide ((l.length : Int) = a + b)
  · rw [updV_j a b l k p (x := false) (by unfold updOk; rw [h1, h2]; rfl)]
    simp only [Bool.false_eq_true, if_false]
    exact no rfl
  have h2b := h2
  rw [Bool.and_eq_true, decide_eq_true_eq] at h2b
  have z1 : (0 : Int) < (l.length : Int) := by omega
  simp only [if_true, impl_within_eq, Option.bind_some]
  by_cases h3 : 0 ≤ k ∧ k < a
  · have e3 : decide (0 ≤ k ∧ k ≤ a - 1) = true := decide_eq_true (by omega)
    have e3' : decide (0 ≤ k ∧ k < a) = true := decide_eq_true h3
    simp only [e3, if_true, if_pos z1, impl_areGf_eq, Option.bind_some]
    have eL : rd_L1 l 0 = l.getD 0 [] := rfl
    rw [eL]
    by_cases h4 : p.length = (l.getD 0 []).length
    · have e4 : decide (p.length = (l.getD 0 []).length) = true := decide_eq_true h4
      simp only [if_pos (show (p.length : Int) = ((l.getD 0 []).length : Int) by omega)]
      cases h5 : p.all isB
      · rw [updV_j a b l k p (x := false) (by unfold updOk; rw [h1, h2, e3', e4, h5]; rfl)]
        exact no rfl
      · have hok : updOk a b l k p = true := by unfold updOk; rw [h1, h2, e3', e4, h5]; rfl
        rw [updV_j a b l k p hok, if_pos rfl]
        obtain ⟨d, e, kk, c, m, q, rfl, rfl, rfl, rfl, rfl, hm, hql, hq, g1, g2, g3, g4, g5, g6, g7⟩ := updOk_up hok
        rw [dnM_upM, dn_up, Int.toNat_natCast, Int.toNat_natCast, Int.toNat_natCast]
        have E0 := impl_UpdatePiece_l0 d e kk c m q hm hql hq g1 g2 g4 g6 g7 m.length 0 (by omega)
        refine Ev.step (f := fun r => (impl_codeMatrix.f r (d : Int) (e : Int)).bind fun t => impl_UpdatePiece.l0 r (upM m) (kk : Int) (Poly.up q) t (upM []) (upM m) (m.length : Int) ((0 : Nat) : Int)) (fun r => ?_) (Ev.bind (f := fun r t => impl_UpdatePiece.l0 r (upM m) (kk : Int) (Poly.up q) t (upM []) (upM m) (m.length : Int) ((0 : Nat) : Int)) (impl_codeMatrix_ev d e (by omega) (by omega)) E0)
        rw [impl_UpdatePiece.j0.eq_2, if_neg (by decide), upM_length]; rfl
    · simp only [if_neg (show ¬ (p.length : Int) = ((l.getD 0 []).length : Int) by omega)]
      rw [updV_j a b l k p (x := false) (by unfold updOk; rw [h1, h2, e3', decide_eq_false h4]; rfl)]
      exact no rfl
  · have e3 : decide (0 ≤ k ∧ k ≤ a - 1) = false := decide_eq_false (by omega)
    simp only [e3, Bool.false_eq_true, if_false]
    rw [updV_j a b l k p (x := false) (by unfold updOk; rw [h1, h2, decide_eq_false h3]; rfl)]
    exact no rfl

theorem spec_l2Own_l0 (m : List (List Int)) (hm : m.length ≤ 1048576) (hr : ∀ r ∈ m, r.length ≤ 1048576) : ∀ (d i : Nat), i + d = m.length → Ev (fun k => spec_l2Own.l0 k (m.take i) m (m.length : Int) (i : Int)) m := by
  intro d
  induction d with
  | zero =>
    intro i hi
    obtain rfl : i = m.length := by omega
    rw [List.take_length]
    exact Ev.step (f := fun _ => some m) (fun k => by rw [spec_l2Own.l0.eq_2, if_neg (by omega)]) (Ev.now _)
  | succ d ih =>
    intro i hi
    have hlt : i < m.length := by omega
    have h1 := hr _ (List.getElem_mem hlt)
    have e : m.take i ++ [m[i]] = m.take (i + 1) := by rw [List.take_succ_eq_append_getElem hlt]
    refine Ev.step (f := fun k => spec_l2Own.l0 k (m.take (i + 1)) m (m.length : Int) ((i + 1 : Nat) : Int)) (fun k => ?_) (ih (i + 1) (by omega))
    rw [spec_l2Own.l0.eq_2, if_pos (by omega), if_pos (by omega), if_pos (by omega), Option.bind_some, rdL_nat m i hlt, List.nil_append, if_pos (by simp only [List.length_nil]; omega), if_pos (by rw [List.length_take]; omega), e, wrap_succ i (by omega)]
theorem spec_l2Own_ev (m : List (List Int)) (hm : m.length ≤ 1048576) (hr : ∀ r ∈ m, r.length ≤ 1048576) : Ev (fun k => spec_l2Own.f k m) m := spec_l2Own_l0 m hm hr m.length 0 (by omega)

theorem impl_times_l0 (n c : Nat) (a b : List (List Nat)) (hn : n = b.length) (hn0 : 0 < n) (ha : Mat.MB' n a) (hb : Mat.MB' c b) (hal : a.length ≤ 1000) (hbl : b.length ≤ 1000) (hc : c ≤ 1000) : ∀ (d i : Nat) (out : List (List Nat)), i + d = a.length → out.length = i →
    Ev (fun k => impl_times.l0 k (upM b) (upM out) (upM a) (a.length : Int) (i : Int)) (upM (out ++ Mat.mulM c (a.drop i) b)) := by
  have hb0 : (Poly.up (b.getD 0 [])).length = c := by rw [Poly.up_length]; exact (hb.get (by omega)).1
  intro d
  induction d with
  | zero =>
    intro i out hi hol
    obtain rfl : i = a.length := by omega
    have e : out ++ Mat.mulM c (a.drop a.length) b = out := by rw [List.drop_length]; simp [Mat.mulM]
    rw [e]
    exact Ev.step (f := fun _ => some (upM out)) (fun k => by rw [impl_times.l0.eq_2, if_neg (by omega)]) (Ev.now _)
  | succ d ih =>
    intro i out hi hol
    have hlt : i < a.length := by omega
    obtain ⟨hrl, hrb⟩ := ha.get hlt
    have hdr : a.drop i = a.getD i [] :: a.drop (i + 1) := by
      rw [List.drop_eq_getElem_cons hlt, List.getD_eq_getElem?_getD, List.getElem?_eq_getElem hlt]; rfl
    have row : ∀ (e j : Nat) (acc : List Nat), j + e = n → acc.length = c → Poly.AllB acc →
        Ev (fun k => impl_times.l1 k (upM b) (upM out) (Poly.up acc) (upM a) (a.length : Int) (i : Int) (Poly.up (a.getD i [])) (n : Int) (j : Int)) (upM (out ++ Mat.mulRow.go acc ((a.getD i []).drop j) (b.drop j) :: Mat.mulM c (a.drop (i + 1)) b)) := by
      intro e
      induction e with
      | zero =>
        intro j acc hj hl hB
        obtain rfl : j = n := by omega
        rw [← hrl, List.drop_length]
        unfold Mat.mulRow.go
        refine Ev.step (f := fun k => impl_times.l0 k (upM b) (upM (out ++ [acc])) (upM a) (a.length : Int) ((i + 1 : Nat) : Int)) (fun k => ?_) ?_
        · rw [impl_times.l1.eq_2, if_neg (by omega), if_pos (by rw [upM_length]; omega), upM_snoc, wrap_succ i (by omega)]
        · have := ih (i + 1) (out ++ [acc]) (by omega) (by simp [hol])
          rwa [List.append_assoc] at this
      | succ e ihe =>
        intro j acc hj hl hB
        have hjb : j < b.length := by omega
        obtain ⟨hql, hqb⟩ := hb.get hjb
        have hf : (a.getD i []).getD j 0 < 256 := Poly.AllB.get hrb j
        have hd1 : (a.getD i []).drop j = (a.getD i []).getD j 0 :: (a.getD i []).drop (j + 1) := by
          rw [List.drop_eq_getElem_cons (by omega), List.getD_eq_getElem?_getD (l := a.getD i []), List.getElem?_eq_getElem (by omega : j < (a.getD i []).length)]; rfl
        have hd2 : b.drop j = b.getD j [] :: b.drop (j + 1) := by
          rw [List.drop_eq_getElem_cons hjb, List.getD_eq_getElem?_getD, List.getElem?_eq_getElem hjb]; rfl
        have hac : acc.length = (b.getD j []).length := by omega
        have hgo : Mat.mulRow.go acc ((a.getD i []).drop j) (b.drop j) = Mat.mulRow.go (Mat.radd ((a.getD i []).getD j 0) acc (b.getD j [])) ((a.getD i []).drop (j + 1)) (b.drop (j + 1)) := by
          rw [hd1, hd2]; rfl
        rw [hgo]
        generalize hF : (a.getD i []).getD j 0 = f at hf
        generalize hQ : b.getD j [] = q at hql hqb hac
        have cell : ∀ (u t : Nat), t + u = c → Ev (fun k => impl_times.l2 k (upM b) (upM out) (Poly.up (Mat.raddTo f acc q t)) (f : Int) (upM a) (a.length : Int) (i : Int) (Poly.up (a.getD i [])) (n : Int) (j : Int) (Poly.up q) (c : Int) (t : Int)) (upM (out ++ Mat.mulRow.go (Mat.radd f acc q) ((a.getD i []).drop (j + 1)) (b.drop (j + 1)) :: Mat.mulM c (a.drop (i + 1)) b)) := by
          intro u
          induction u with
          | zero =>
            intro t ht
            have htc : t = acc.length := by omega
            rw [htc, Mat.raddTo_all hac]
            refine Ev.step (f := fun k => impl_times.l1 k (upM b) (upM out) (Poly.up (Mat.radd f acc q)) (upM a) (a.length : Int) (i : Int) (Poly.up (a.getD i [])) (n : Int) ((j + 1 : Nat) : Int)) (fun k => ?_) (ihe (j + 1) _ (by omega) (by rw [Mat.radd_length _ hac]; exact hl) (Mat.radd_bytes hf hB))
            rw [impl_times.l2.eq_2, if_neg (by omega), wrap_succ j (by omega)]
          | succ u ihu =>
            intro t ht
            have htl : t < acc.length := by omega
            have hqt : q.getD t 0 < 256 := Poly.AllB.get hqb t
            have hx := xor_up (Poly.AllB.get hB t) (Gf.gm_lt (q.getD t 0) hf)
            refine Ev.step (f := fun k => (impl_mul.f k (f : Int) ((q.getD t 0 : Nat) : Int)).bind fun z => impl_times.l2 k (upM b) (upM out) ((Poly.up (Mat.raddTo f acc q t)).set t (Go.bits .xor .i64 ((acc.getD t 0 : Nat) : Int) z)) (f : Int) (upM a) (a.length : Int) (i : Int) (Poly.up (a.getD i [])) (n : Int) (j : Int) (Poly.up q) (c : Int) ((t + 1 : Nat) : Int)) (fun k => ?_) ?_
            · rw [impl_times.l2.eq_2, if_pos (by omega), if_pos (by omega), if_pos (by rw [Poly.up_length]; omega), if_pos (by rw [Poly.up_length, Mat.raddTo_length hac]; omega), Poly.rd_up, Poly.rd_up, Mat.raddTo_at hac htl, wrap_succ t (by omega), Int.toNat_natCast]
            · refine Ev.bind (f := fun k z => impl_times.l2 k (upM b) (upM out) ((Poly.up (Mat.raddTo f acc q t)).set t (Go.bits .xor .i64 ((acc.getD t 0 : Nat) : Int) z)) (f : Int) (upM a) (a.length : Int) (i : Int) (Poly.up (a.getD i [])) (n : Int) (j : Int) (Poly.up q) (c : Int) ((t + 1 : Nat) : Int)) (impl_mul_ev _ _ hf hqt) ?_
              simp only [hx, Poly.up_set, Mat.raddTo_succ hac htl]
              exact ihu (t + 1) (by omega)
        have h0 := cell c 0 (by omega)
        rw [Mat.raddTo_zero] at h0
        refine Ev.step (f := fun k => impl_times.l2 k (upM b) (upM out) (Poly.up acc) (f : Int) (upM a) (a.length : Int) (i : Int) (Poly.up (a.getD i [])) (n : Int) (j : Int) (Poly.up q) (c : Int) 0) (fun k => ?_) h0
        rw [impl_times.l1.eq_2, if_pos (by omega), if_pos (by omega), if_pos (by rw [Poly.up_length]; omega), if_pos (by rw [upM_length]; omega), rdL_up, Poly.rd_up, hF, hQ, Poly.up_length, hql]
    have h0 := row n 0 (List.replicate c 0) (by omega) (by simp) (Poly.AllB.zeros _)
    have e1 : out ++ Mat.mulM c (a.drop i) b = out ++ Mat.mulRow.go (List.replicate c 0) ((a.getD i []).drop 0) (b.drop 0) :: Mat.mulM c (a.drop (i + 1)) b := by rw [hdr]; rfl
    rw [e1]
    refine Ev.step (f := fun k => impl_times.l1 k (upM b) (upM out) (Poly.up (List.replicate c 0)) (upM a) (a.length : Int) (i : Int) (Poly.up (a.getD i [])) (n : Int) 0) (fun k => ?_) h0
    rw [impl_times.l0.eq_2, if_pos (by omega), if_pos (by omega), if_pos (by rw [upM_length]; omega), if_pos (by rw [upM_length]; omega), rdL_up0, hb0, if_pos (by omega), Int.toNat_natCast, if_pos (by omega), Poly.up_zeros, rdL_up, Poly.up_length, hrl]
theorem impl_times_ev (n c : Nat) (a b : List (List Nat)) (hn : n = b.length) (hn0 : 0 < n) (ha : Mat.MB' n a) (hb : Mat.MB' c b) (hal : a.length ≤ 1000) (hbl : b.length ≤ 1000) (hc : c ≤ 1000) : Ev (fun k => impl_times.f k (upM a) (upM b)) (upM (Mat.mulM c a b)) := by
  unfold impl_times.f
  rw [upM_length]
  exact impl_times_l0 n c a b hn hn0 ha hb hal hbl hc a.length 0 [] (by omega) rfl

theorem impl_encoded_ev (c p : Nat) (m : List (List Nat)) (hm : Mat.MB' c m) (hc : c ≤ 1000) (h0 : 0 < m.length) (h1 : m.length ≤ 20) (hp : p ≤ 20) : Ev (fun k => impl_encoded.f k (upM m) (p : Int)) (upM (encM c p m)) := by
  unfold impl_encoded.f
  rw [upM_length]
  refine Ev.bind (f := fun k t => (impl_times.f k t (upM m)).bind fun u => some u) (impl_codeMatrix_ev m.length p h1 hp) ?_
  exact Ev.bind (f := fun _ u => some u) (impl_times_ev m.length c _ m rfl h0 (codeM_MB _ _) hm (by rw [codeM_length]; omega) (by omega) hc) (Ev.now _)

theorem slices_Equal_int_int_l0 (l m : List Int) (hlm : l.length = m.length) (hl : l.length ≤ 140737488351232) : ∀ d i : Nat, i + d = l.length → Ev (fun k => slices_Equal_int_int.l0 k l m (l.length : Int) (i : Int)) (decide (l.drop i = m.drop i)) := by
  intro d
  induction d with
  | zero =>
    intro i hi
    obtain rfl : i = l.length := by omega
    have e : decide (l.drop l.length = m.drop l.length) = true := by
      have e2 : m.drop l.length = [] := by rw [hlm, List.drop_length]
      rw [e2, List.drop_length]; rfl
    rw [e]
    exact Ev.step (f := fun _ => some true) (fun k => by rw [slices_Equal_int_int.l0.eq_2, if_neg (by omega)]) (Ev.now _)
  | succ d ih =>
    intro i hi
    have hlt : i < l.length := by omega
    have hlt2 : i < m.length := by omega
    rw [List.drop_eq_getElem_cons hlt, List.drop_eq_getElem_cons hlt2]
    by_cases e : l[i] = m[i]
    · have e2 : decide (l[i] :: l.drop (i + 1) = m[i] :: m.drop (i + 1)) = decide (l.drop (i + 1) = m.drop (i + 1)) := by simp only [List.cons.injEq, e, true_and]
      rw [e2]
      refine Ev.step (f := fun k => slices_Equal_int_int.l0 k l m (l.length : Int) ((i + 1 : Nat) : Int)) (fun k => ?_) (ih (i + 1) (by omega))
      rw [slices_Equal_int_int.l0.eq_2, if_pos (by omega), if_pos (by omega), if_pos (by omega), if_pos (by omega), rd_get l i hlt, rd_get m i hlt2, if_pos e, wrap_up i (by omega)]
    · have e2 : decide (l[i] :: l.drop (i + 1) = m[i] :: m.drop (i + 1)) = false := by simp only [List.cons.injEq, e, false_and, decide_false]
      rw [e2]
      refine Ev.step (f := fun _ => some false) (fun k => ?_) (Ev.now _)
      rw [slices_Equal_int_int.l0.eq_2, if_pos (by omega), if_pos (by omega), if_pos (by omega), if_pos (by omega), rd_get l i hlt, rd_get m i hlt2, if_neg e]
theorem slices_Equal_int_int_ev (l m : List Int) (hl : l.length ≤ 140737488351232) : Ev (fun k => slices_Equal_int_int.f k l m) (decide (l = m)) := by
  unfold slices_Equal_int_int.f
  by_cases h : l.length = m.length
  · simp only [if_pos (show (l.length : Int) = (m.length : Int) by omega)]
    exact slices_Equal_int_int_l0 l m h hl l.length 0 (by omega)
  · simp only [if_neg (show ¬ (l.length : Int) = (m.length : Int) by omega)]
    have : decide (l = m) = false := by simp only [decide_eq_false_iff_not]; rintro rfl; exact h rfl
    rw [this]
    exact Ev.now _

theorem impl_samePieces_go : ∀ (l m : List (List Int)), (∀ r ∈ l, r.length ≤ 1000000) → Ev (fun k => impl_samePieces.go k l m) (decide (l = m))
  | [], [], _ => by rw [decide_eq_true rfl]; exact Ev.now _
  | [], _ :: _, _ => by rw [decide_eq_false (by simp)]; exact Ev.now _
  | _ :: _, [], _ => by rw [decide_eq_false (by simp)]; exact Ev.now _
  | x :: l, y :: m, h => by
    have ih := impl_samePieces_go l m (fun r hr => h r (List.mem_cons_of_mem _ hr))
    refine Ev.bind (f := fun k t => if t = true then impl_samePieces.go k l m else some false) (slices_Equal_int_int_ev x y (by have := h x List.mem_cons_self; omega)) ?_
    by_cases e : x = y
    · rw [decide_eq_true e]
      simp only [if_true, e, List.cons.injEq, true_and]
      exact ih
    · rw [decide_eq_false e, decide_eq_false (by simp [e])]
      exact Ev.now _
theorem impl_samePieces_ev (l m : List (List Int)) (h : ∀ r ∈ l, r.length ≤ 1000000) : Ev (fun k => impl_samePieces.f k l m) (decide (l = m)) := by
  unfold impl_samePieces.f
  by_cases hl : l.length = m.length
  · simp only [if_pos hl]
    exact impl_samePieces_go l m h
  · simp only [if_neg hl]
    have : decide (l = m) = false := by simp only [decide_eq_false_iff_not]; rintro rfl; exact hl rfl
    rw [this]
    exact Ev.now _

def chkV (a b : Int) (l : List (List Int)) : Bool × Bool := if isC a b && (areP l && decide ((l.length : Int) = a + b)) then (decide (upM (encM (l.getD 0 []).length b.toNat (dnM (l.take a.toNat))) = l), true) else (false, false)
theorem upM_take (m : List (List Nat)) (n : Nat) : (upM m).take n = upM (m.take n) := by simp [upM, List.map_take]
theorem take_MB {c : Nat} {m : List (List Nat)} (h : Mat.MB' c m) (n : Nat) : Mat.MB' c (m.take n) := fun r hr => h r (List.mem_of_mem_take hr)

theorem impl_CheckPieces_ev (a b : Int) (l : List (List Int)) (hr : ∀ r ∈ l, r.length ≤ 1048576) : Ev (fun k => impl_CheckPieces.f k a b l) (chkV a b l) := by
  unfold impl_CheckPieces.f chkV
  simp only [impl_isCode_eq, Option.bind_some]
  cases h : isC a b
  · simp only [Bool.false_eq_true, if_false, Bool.false_and]
    exact Ev.step (f := fun _ => some (false, false)) (fun k => by rw [impl_CheckPieces.j0.eq_2, if_pos rfl]) (Ev.now _)
  · simp only [if_true, Bool.true_and]
    have hb := isC_bd h
    rw [wrap_id (by omega) (by omega)]
    have hP : impl_arePieces.f l (a + b) = some (areP l && decide ((l.length : Int) = a + b)) := by
      by_cases hm : 0 < l.length
      · exact impl_arePieces_eq l _ hm
      · have e : ¬ (l.length : Int) = a + b := by omega
        unfold impl_arePieces.f impl_areLong.f
        rw [if_neg e, decide_eq_false e, Bool.and_false]; rfl
    rw [hP]
    simp only [Option.bind_some]
    cases g : areP l && decide ((l.length : Int) = a + b)
    · exact Ev.step (f := fun _ => some (false, false)) (fun k => by rw [impl_CheckPieces.j0.eq_2, if_pos (by decide)]) (Ev.now _)
    · simp only [if_true]
      rw [Bool.and_eq_true, decide_eq_true_eq] at g
      obtain ⟨c, n, rfl, hn, e1, h1⟩ := areP_up g.1
      have g2 := g.2
      rw [upM_length] at g2
      obtain ⟨d, rfl⟩ := nat_of (a := a) (by omega)
      obtain ⟨p, rfl⟩ := nat_of (a := b) (by omega)
      rw [Int.toNat_natCast, Int.toNat_natCast, upM_take, dnM_upM, e1]
      have hlen : (n.take d).length = d := by rw [List.length_take]; omega
      have E1 := impl_encoded_ev c p (n.take d) (take_MB hn d) (by omega) (by omega) (by omega) (by omega)
      have E2 := impl_samePieces_ev (upM (encM c p (n.take d))) (upM n) (fun r hr => by have := (upM_small (k := 1000) (encM_MB p (take_MB hn d)) (by rw [encM_length]; omega) (by omega)).2 r hr; omega)
      refine Ev.step (f := fun k => (impl_encoded.f k (upM (n.take d)) (p : Int)).bind fun s => (impl_samePieces.f k s (upM n)).bind fun t => some (t, true)) (fun k => ?_) ?_
      · rw [impl_CheckPieces.j0.eq_2, if_neg (by decide), if_pos (by omega), if_pos (by rw [upM_length]; omega), Int.toNat_natCast, upM_take]
      · exact Ev.bind (f := fun k s => (impl_samePieces.f k s (upM n)).bind fun t => some (t, true)) E1 (Ev.bind (f := fun _ t => some (t, true)) E2 (Ev.now _))

theorem impl_EncodePieces_ev (l : List (List Int)) (a : Int) : Ev (fun k => impl_EncodePieces.f k l a) (encV l a) := by
  unfold impl_EncodePieces.f encV
  simp only [impl_isCode_eq, Option.bind_some]
  cases h : isC (l.length : Int) a
  · exact Ev.now _
  · simp only [if_true, Bool.true_and]
    have hb := isC_bd h
    rw [impl_arePieces_eq l _ (by omega), decide_eq_true rfl, Bool.and_true]
    simp only [Option.bind_some]
    cases g : areP l
    · exact Ev.now _
    · simp only [if_true]
      obtain ⟨c, n, rfl, hn, e1, h1⟩ := areP_up g
      rw [upM_length] at hb
      obtain ⟨p, rfl⟩ := nat_of (a := a) (by omega)
      rw [dnM_upM, e1]
      exact Ev.bind (f := fun _ t => some (t, true)) (impl_encoded_ev c p n hn (by omega) (by omega) (by omega) (by omega)) (Ev.now _)

theorem spec_l1Same_l0 (l m : List Int) (hlm : l.length = m.length) (hl : l.length ≤ 140737488351232) : ∀ d i : Nat, i + d = l.length → Ev (fun k => spec_l1Same.l0 k l m (l.length : Int) (i : Int)) (decide (l.drop i = m.drop i)) := by
  intro d
  induction d with
  | zero =>
    intro i hi
    obtain rfl : i = l.length := by omega
    have e : decide (l.drop l.length = m.drop l.length) = true := by
      have e2 : m.drop l.length = [] := by rw [hlm, List.drop_length]
      rw [e2, List.drop_length]; rfl
    rw [e]
    exact Ev.step (f := fun _ => some true) (fun k => by rw [spec_l1Same.l0.eq_2, if_neg (by omega)]) (Ev.now _)
  | succ d ih =>
    intro i hi
    have hlt : i < l.length := by omega
    have hlt2 : i < m.length := by omega
    rw [List.drop_eq_getElem_cons hlt, List.drop_eq_getElem_cons hlt2]
    by_cases e : l[i] = m[i]
    · have e2 : decide (l[i] :: l.drop (i + 1) = m[i] :: m.drop (i + 1)) = decide (l.drop (i + 1) = m.drop (i + 1)) := by simp only [List.cons.injEq, e, true_and]
      rw [e2]
      refine Ev.step (f := fun k => spec_l1Same.l0 k l m (l.length : Int) ((i + 1 : Nat) : Int)) (fun k => ?_) (ih (i + 1) (by omega))
      rw [spec_l1Same.l0.eq_2, if_pos (by omega), if_pos (by omega), if_pos (by omega), if_pos (by omega), rd_get l i hlt, rd_get m i hlt2, if_pos e, wrap_up i (by omega)]
    · have e2 : decide (l[i] :: l.drop (i + 1) = m[i] :: m.drop (i + 1)) = false := by simp only [List.cons.injEq, e, false_and, decide_false]
      rw [e2]
      refine Ev.step (f := fun _ => some false) (fun k => ?_) (Ev.now _)
      rw [spec_l1Same.l0.eq_2, if_pos (by omega), if_pos (by omega), if_pos (by omega), if_pos (by omega), rd_get l i hlt, rd_get m i hlt2, if_neg e]
theorem spec_l1Same_ev (l m : List Int) (hl : l.length ≤ 140737488351232) : Ev (fun k => spec_l1Same.f k l m) (decide (l = m)) := by
  unfold spec_l1Same.f
  by_cases h : l.length = m.length
  · simp only [if_pos (show (l.length : Int) = (m.length : Int) by omega)]
    exact spec_l1Same_l0 l m h hl l.length 0 (by omega)
  · simp only [if_neg (show ¬ (l.length : Int) = (m.length : Int) by omega)]
    have : decide (l = m) = false := by simp only [decide_eq_false_iff_not]; rintro rfl; exact h rfl
    rw [this]
    exact Ev.now _

/-- At how many places two lists are unlike. -/
def unlikeN {α : Type} [DecidableEq α] : List α → List α → Nat
  | x :: a, y :: b => (if x = y then 0 else 1) + unlikeN a b
  | _, _ => 0
theorem unlikeN_zero {α : Type} [DecidableEq α] : ∀ {a b : List α}, a.length = b.length → (unlikeN a b = 0 ↔ a = b)
  | [], [], _ => by simp [unlikeN]
  | x :: a, y :: b, h => by
    have ih := unlikeN_zero (a := a) (b := b) (by simpa using h)
    unfold unlikeN
    by_cases e : x = y
    · rw [if_pos e, Nat.zero_add, ih, e]; simp
    · rw [if_neg e]
      simp only [List.cons.injEq, e, false_and, iff_false]; omega
  | [], _ :: _, h => by cases h
  | _ :: _, [], h => by cases h
theorem unlikeN_le {α : Type} [DecidableEq α] : ∀ (a b : List α), unlikeN a b ≤ a.length
  | x :: a, y :: b => by
    have := unlikeN_le a b
    unfold unlikeN
    split <;> simp <;> omega
  | [], _ => by simp [unlikeN]
  | _ :: _, [] => by simp [unlikeN]

theorem spec_l3Unlike_l0 (a b : List (List Int)) (hab : a.length = b.length) (hl : a.length ≤ 1000000) (hr : ∀ r ∈ a, r.length ≤ 1000000) : ∀ d i n : Nat, i + d = a.length → n ≤ i → Ev (fun k => spec_l3Unlike.l0 k a b (n : Int) (a.length : Int) (i : Int)) (((n + unlikeN (a.drop i) (b.drop i) : Nat)) : Int) := by
  intro d
  induction d with
  | zero =>
    intro i n hi hn
    obtain rfl : i = a.length := by omega
    rw [List.drop_length]
    refine Ev.step (f := fun _ => some ((n + unlikeN [] (b.drop a.length) : Nat) : Int)) (fun k => ?_) (Ev.now _)
    rw [spec_l3Unlike.l0.eq_2, if_neg (by omega)]; rfl
  | succ d ih =>
    intro i n hi hn
    have hlt : i < a.length := by omega
    have hlt2 : i < b.length := by omega
    rw [List.drop_eq_getElem_cons hlt, List.drop_eq_getElem_cons hlt2]
    have E := spec_l1Same_ev a[i] b[i] (by have := hr _ (List.getElem_mem hlt); omega)
    refine Ev.step (f := fun k => (spec_l1Same.f k a[i] b[i]).bind fun t => if t = true then spec_l3Unlike.l0 k a b (n : Int) (a.length : Int) ((i + 1 : Nat) : Int) else spec_l3Unlike.l0 k a b ((n + 1 : Nat) : Int) (a.length : Int) ((i + 1 : Nat) : Int)) (fun k => ?_)
      (Ev.bind (f := fun k t => if t = true then spec_l3Unlike.l0 k a b (n : Int) (a.length : Int) ((i + 1 : Nat) : Int) else spec_l3Unlike.l0 k a b ((n + 1 : Nat) : Int) (a.length : Int) ((i + 1 : Nat) : Int)) E ?_)
    · rw [spec_l3Unlike.l0.eq_2, if_pos (by omega), if_pos (by omega), if_pos (by omega), if_pos (by omega), rdL_nat a i hlt, rdL_nat b i hlt2, wrap_succ i (by omega), wrap_succ n (by omega)]
    · unfold unlikeN
      by_cases e : a[i] = b[i]
      · rw [decide_eq_true e, if_pos e, Nat.zero_add]
        simp only [if_true]
        exact ih (i + 1) n (by omega) (by omega)
      · rw [decide_eq_false e, if_neg e]
        simp only [Bool.false_eq_true, if_false]
        have := ih (i + 1) (n + 1) (by omega) (by omega)
        rwa [Nat.add_assoc] at this
theorem spec_l3Unlike_ev (a b : List (List Int)) (hab : a.length = b.length) (hl : a.length ≤ 1000000) (hr : ∀ r ∈ a, r.length ≤ 1000000) : Ev (fun k => spec_l3Unlike.f k a b) ((unlikeN a b : Nat) : Int) := by
  have := spec_l3Unlike_l0 a b hab hl hr a.length 0 0 (by omega) (Nat.le_refl _)
  rwa [List.drop_zero, List.drop_zero, Nat.zero_add] at this

theorem spec_DrawCheckPieces_ex {s : List Int} (hs : BY s) : ∃ (n p : Int) (l : List (List Int)), Ev (fun k => spec_DrawCheckPieces.f k s) (n, p, l) ∧ l.length ≤ 32 ∧ ∀ r ∈ l, r.length ≤ 33 := by
  obtain ⟨n, p, l, lost, a1, d1, E, h1, h2, h3, ⟨c, hc, h4⟩, h5, h6, h7⟩ := spec_l1Cur_coded_ex hs (a := 0) 0 (by omega) (by omega)
  obtain ⟨b, a2, d2, e2, k1, k2⟩ := spec_l1Cur_one_ex hs d1 2 h6 (by omega)
  have hr33 : ∀ r ∈ l, r.length ≤ 33 := fun r h => by have := h4 r h; omega
  have hat : ∀ i : Nat, i < l.length → rd_L1 l (i : Int) = l.getD i [] ∧ (l.getD i []).length = c := fun i hi => by
    refine ⟨by unfold rd_L1; rw [Int.toNat_natCast], ?_⟩
    rw [List.getD_eq_getElem?_getD, List.getElem?_eq_getElem hi]; exact h4 _ (List.getElem_mem hi)
  have hj : ∀ x : Bool, (x = true → 0 < l.length ∧ 0 < c) → ∃ l', Ev (fun k => spec_DrawCheckPieces.j0 k (n : Int) (p : Int) l x s a2 d2) ((n : Int), (p : Int), l') ∧ l'.length ≤ 32 ∧ ∀ r ∈ l', r.length ≤ 33 := by
    intro x hx
    cases x with
    | false => exact ⟨l, Ev.step (f := fun _ => some ((n : Int), (p : Int), l)) (fun k => by rw [spec_DrawCheckPieces.j0.eq_2, if_neg (by decide)]) (Ev.now _), h3, hr33⟩
    | true =>
      obtain ⟨hl0, hc0⟩ := hx rfl
      obtain ⟨v, a3, d3, e3, q0, q1, q2, q3, q4⟩ := spec_l1Cur_pick_ex hs d2 (l.length : Int) k1 (by omega)
      obtain ⟨i, rfl⟩ := nat_of q0
      have hi : i < l.length := by omega
      obtain ⟨u, a4, d4, e4, z0, z1, z2, z3, z4⟩ := spec_l1Cur_pick_ex hs d3 4 q3 (by omega)
      obtain ⟨w1, w2⟩ := hat i hi
      refine ⟨l.set i ((l.getD i []).set 0 (Go.bits .xor .i64 (rd (l.getD i []) 0) u)), Ev.step (f := fun _ => some ((n : Int), (p : Int), l.set i ((l.getD i []).set 0 (Go.bits .xor .i64 (rd (l.getD i []) 0) u)))) (fun k => ?_) (Ev.now _), by rw [List.length_set]; exact h3, fun r hr => ?_⟩
      · rw [spec_DrawCheckPieces.j0.eq_2, if_pos rfl, e3, Option.bind_some, if_pos (by omega), if_pos (by omega), w1, if_pos (by omega), e4, Option.bind_some, Int.toNat_natCast]; rfl
      · rcases List.mem_or_eq_of_mem_set hr with h | h
        · exact hr33 r h
        · rw [h, List.length_set]; omega
  have hgo : ∃ l', Ev (fun k => if b = true then (if (l.length : Int) > 0 then (if 0 < (l.length : Int) then (spec_DrawCheckPieces.j0 k (n : Int) (p : Int) l (decide (((rd_L1 l 0).length : Int) > 0)) s a2 d2) else none) else (spec_DrawCheckPieces.j0 k (n : Int) (p : Int) l false s a2 d2)) else (spec_DrawCheckPieces.j0 k (n : Int) (p : Int) l false s a2 d2)) ((n : Int), (p : Int), l') ∧ l'.length ≤ 32 ∧ ∀ r ∈ l', r.length ≤ 33 := by
    cases b with
    | false =>
      simp only [Bool.false_eq_true, if_false]
      exact hj false (fun h => by cases h)
    | true =>
      simp only [if_true]
      by_cases hl : 0 < l.length
      · simp only [if_pos (show (l.length : Int) > 0 by omega), if_pos (show 0 < (l.length : Int) by omega)]
        have h0 := hat 0 hl
        rw [show rd_L1 l 0 = l.getD 0 [] from h0.1]
        exact hj _ (fun h => ⟨hl, by have := of_decide_eq_true h; omega⟩)
      · simp only [if_neg (show ¬ (l.length : Int) > 0 by omega)]
        exact hj false (fun h => by cases h)
  obtain ⟨l', E2, g1, g2⟩ := hgo
  unfold spec_DrawCheckPieces.f
  refine ⟨(n : Int), (p : Int), l', Ev.bind (f := fun k b1 => (spec_l1Cur_one.f s b1.2.2.2.2.1 b1.2.2.2.2.2 2).bind fun b2 => if b2.1 = true then (if (b1.2.2.1.length : Int) > 0 then (if 0 < (b1.2.2.1.length : Int) then (spec_DrawCheckPieces.j0 k b1.1 b1.2.1 b1.2.2.1 (decide (((rd_L1 b1.2.2.1 0).length : Int) > 0)) s b2.2.1 b2.2.2) else none) else (spec_DrawCheckPieces.j0 k b1.1 b1.2.1 b1.2.2.1 false s b2.2.1 b2.2.2)) else (spec_DrawCheckPieces.j0 k b1.1 b1.2.1 b1.2.2.1 false s b2.2.1 b2.2.2)) E ?_, g1, g2⟩
  simp only [e2, Option.bind_some]
  exact E2

theorem spec_CheckPieces_ev (a b : Int) (l : List (List Int)) (hl : l.length ≤ 1048576) (hr : ∀ r ∈ l, r.length ≤ 1048576) : Ev (fun k => spec_CheckPieces.f k a b l) (chkV a b l) := by
  unfold spec_CheckPieces.f chkV
  simp only [spec_l3Size_eq, Option.bind_some]
  cases h : isC a b
  · simp only [Bool.false_eq_true, if_false, Bool.false_and]
    exact Ev.step (f := fun _ => some (false, false)) (fun k => by rw [spec_CheckPieces.j0.eq_2, if_pos rfl]) (Ev.now _)
  · simp only [if_true, Bool.true_and]
    have hb := isC_bd h
    rw [wrap_id (by omega) (by omega)]
    refine Ev.bind (spec_l3Pieces_ev l (a + b) (by omega) (fun r h => by have := hr r h; omega)) ?_
    cases g : areP l && decide ((l.length : Int) = a + b)
    · exact Ev.step (f := fun _ => some (false, false)) (fun k => by rw [spec_CheckPieces.j0.eq_2, if_pos (by decide)]) (Ev.now _)
    · simp only [if_true]
      rw [Bool.and_eq_true, decide_eq_true_eq] at g
      obtain ⟨c, n, rfl, hn, e1, h1⟩ := areP_up g.1
      have g2 := g.2
      rw [upM_length] at g2
      obtain ⟨d, rfl⟩ := nat_of (a := a) (by omega)
      obtain ⟨p, rfl⟩ := nat_of (a := b) (by omega)
      rw [Int.toNat_natCast, Int.toNat_natCast, upM_take, dnM_upM, e1]
      have hlen : (n.take d).length = d := by rw [List.length_take]; omega
      have E1 := spec_l3Encode_ev c p (n.take d) (take_MB hn d) (by omega) (by omega) (by omega) (by omega)
      have hel : (upM (encM c p (n.take d))).length = (upM n).length := by rw [upM_length, upM_length, encM_length, hlen]; omega
      have E2 := spec_l3Unlike_ev (upM (encM c p (n.take d))) (upM n) hel (by rw [hel, upM_length]; omega) (fun r hr => by have := (upM_small (k := 1000) (encM_MB p (take_MB hn d)) (by rw [encM_length]; omega) (by omega)).2 r hr; omega)
      refine Ev.step (f := fun k => (spec_l3Encode.f k (upM (n.take d)) (p : Int)).bind fun s => (spec_l3Unlike.f k s (upM n)).bind fun t => some (t == 0, true)) (fun k => ?_) ?_
      · rw [spec_CheckPieces.j0.eq_2, if_neg (by decide), if_pos (by omega), if_pos (by rw [upM_length]; omega), Int.toNat_natCast, upM_take]
      · refine Ev.bind (f := fun k s => (spec_l3Unlike.f k s (upM n)).bind fun t => some (t == 0, true)) E1 (Ev.bind (f := fun _ t => some (t == 0, true)) E2 ?_)
        have e3 : ((((unlikeN (upM (encM c p (n.take d))) (upM n) : Nat) : Int)) == 0) = decide (upM (encM c p (n.take d)) = upM n) := by
          rw [Bool.eq_iff_iff, beq_iff_eq, decide_eq_true_eq, ← unlikeN_zero hel]; omega
        rw [e3]
        exact Ev.now _

theorem spec_DrawCanDecode_ex {s : List Int} (hs : BY s) : ∃ (n p : Int) (lost : List Int), Ev (fun k => spec_DrawCanDecode.f k s) (n, p, lost) ∧ lost.length ≤ 10 := by
  obtain ⟨n, p, l, lost, a1, d1, E, h1, h2, h3, h4, h5, h6, h7⟩ := spec_l1Cur_coded_ex hs (a := 0) 0 (by omega) (by omega)
  unfold spec_DrawCanDecode.f
  exact ⟨(n : Int), (p : Int), lost, Ev.bind (f := fun k b => some (b.1, b.2.1, b.2.2.2.1)) E (Ev.now _), h5.1⟩

/-- Does a list rise within 0 .. m - 1, behind p? -/
def rises (m : Int) : Int → List Int → Bool
  | _, [] => true
  | p, x :: l => decide (p < x ∧ 0 ≤ x ∧ x < m) && rises m x l
/-- What stands ahead of place i. -/
def ahead (l : List Int) (i : Nat) : Int := if i = 0 then -1 else l.getD (i - 1) 0
theorem ahead_succ (l : List Int) (i : Nat) (h : i < l.length) : ahead l (i + 1) = l[i] := by
  unfold ahead
  rw [if_neg (by omega)]
  simp [List.getD_eq_getElem?_getD, List.getElem?_eq_getElem h]
theorem ahead_rd (l : List Int) (i : Nat) (h0 : 0 < i) (h : i ≤ 1048576) : rd l (wrap64 ((i : Int) - 1)) = ahead l i := by
  rw [wrap_id (by omega) (by omega)]
  unfold rd ahead
  rw [if_neg (by omega)]
  have : ((i : Int) - 1).toNat = i - 1 := by omega
  rw [this]

theorem impl_isRising_l0 (l : List Int) (m : Int) (hm : 0 ≤ m ∧ m ≤ 100) (hl : l.length ≤ 1048576) : ∀ d i : Nat, i + d = l.length → Ev (fun k => impl_isRising.l0 k l m l (l.length : Int) (i : Int)) (rises m (ahead l i) (l.drop i)) := by
  have em : wrap64 (m - 1) = m - 1 := wrap_id (by omega) (by omega)
  intro d
  induction d with
  | zero =>
    intro i hi
    obtain rfl : i = l.length := by omega
    rw [List.drop_length]
    exact Ev.step (f := fun _ => some true) (fun k => by simp only [impl_isRising.l0]; rw [if_neg (by omega)]) (Ev.now _)
  | succ d ih =>
    intro i hi
    have hlt : i < l.length := by omega
    have hi' := ih (i + 1) (by omega)
    rw [ahead_succ l i hlt] at hi'
    rw [List.drop_eq_getElem_cons hlt]
    have go : ∀ (p : Bool), (p = decide (ahead l i < l[i] ∧ 0 ≤ l[i] ∧ l[i] < m)) → (∀ k, impl_isRising.l0 (k + 1) l m l (l.length : Int) (i : Int) = if p = true then impl_isRising.l0 k l m l (l.length : Int) ((i + 1 : Nat) : Int) else some false) → Ev (fun k => impl_isRising.l0 k l m l (l.length : Int) (i : Int)) (rises m (ahead l i) (l[i] :: l.drop (i + 1))) := by
      intro p hp h
      show Ev _ (decide (ahead l i < l[i] ∧ 0 ≤ l[i] ∧ l[i] < m) && rises m l[i] (l.drop (i + 1)))
      rw [← hp]
      cases p
      · exact Ev.step (f := fun _ => some false) (fun k => by rw [h]; rfl) (Ev.now _)
      · exact Ev.step (f := fun k => impl_isRising.l0 k l m l (l.length : Int) ((i + 1 : Nat) : Int)) (fun k => by rw [h]; rfl) hi'
    refine go _ rfl (fun k => ?_)
    simp only [impl_isRising.l0, rd_nat l i hlt, wrap_succ i (by omega), decide_eq_true_eq, impl_within_eq, em, Option.bind_some]
    rw [if_pos (by omega), if_pos (by omega), if_pos (by omega)]
    by_cases h1 : 0 ≤ l[i] ∧ l[i] ≤ m - 1
    · rw [if_pos h1]
      by_cases h3 : i = 0
      · subst h3
        rw [if_neg (by omega), if_pos ⟨by simp [ahead]; omega, by omega, by omega⟩]
      · rw [if_pos (by omega), ahead_rd l i (by omega) (by omega)]
        have e : wrap64 ((i : Int) - 1) = (i : Int) - 1 := wrap_id (by omega) (by omega)
        rw [e, if_pos (by omega), if_pos (by omega)]
        by_cases h4 : l[i] ≤ ahead l i
        · rw [if_pos h4, if_neg (by omega)]
        · rw [if_neg h4, if_pos ⟨by omega, by omega, by omega⟩]
    · rw [if_neg h1, if_neg (by omega)]
theorem impl_isRising_ev (l : List Int) (m : Int) (hm : 0 ≤ m ∧ m ≤ 100) (hl : l.length ≤ 1048576) : Ev (fun k => impl_isRising.f k l m) (rises m (-1) l) := impl_isRising_l0 l m hm hl l.length 0 (by omega)

/-- What CanDecode answers. -/
def canV (a b : Int) (l : List Int) : Bool × Bool := if isC a b && rises (a + b) (-1) l then (decide ((l.length : Int) ≤ b), true) else (false, false)

theorem impl_CanDecode_ev (a b : Int) (l : List Int) (hl : l.length ≤ 1048576) : Ev (fun k => impl_CanDecode.f k a b l) (canV a b l) := by
  unfold impl_CanDecode.f canV
  simp only [impl_isCode_eq, Option.bind_some]
  cases h : isC a b
  · exact Ev.now _
  · have hb := isC_bd h
    have e : wrap64 (a + b) = a + b := wrap_id (by omega) (by omega)
    simp only [if_true, e, Bool.true_and]
    refine Ev.bind (f := fun _ (t : Bool) => if t = true then some (decide ((l.length : Int) ≤ b), true) else some (false, false)) (impl_isRising_ev l (a + b) (by omega) hl) ?_
    cases rises (a + b) (-1) l <;> exact Ev.now _

theorem spec_l3Lost_l0 (l : List Int) (m : Int) (hl : l.length ≤ 1048576) : ∀ d i : Nat, i + d = l.length → Ev (fun k => spec_l3Lost.l0 k l m l (l.length : Int) (i : Int)) (rises m (ahead l i) (l.drop i)) := by
  intro d
  induction d with
  | zero =>
    intro i hi
    obtain rfl : i = l.length := by omega
    rw [List.drop_length]
    exact Ev.step (f := fun _ => some true) (fun k => by simp only [spec_l3Lost.l0]; rw [if_neg (by omega)]) (Ev.now _)
  | succ d ih =>
    intro i hi
    have hlt : i < l.length := by omega
    have hi' := ih (i + 1) (by omega)
    rw [ahead_succ l i hlt] at hi'
    rw [List.drop_eq_getElem_cons hlt]
    have go : ∀ (p : Bool), (p = decide (ahead l i < l[i] ∧ 0 ≤ l[i] ∧ l[i] < m)) → (∀ k, spec_l3Lost.l0 (k + 1) l m l (l.length : Int) (i : Int) = if p = true then spec_l3Lost.l0 k l m l (l.length : Int) ((i + 1 : Nat) : Int) else some false) → Ev (fun k => spec_l3Lost.l0 k l m l (l.length : Int) (i : Int)) (rises m (ahead l i) (l[i] :: l.drop (i + 1))) := by
      intro p hp h
      show Ev _ (decide (ahead l i < l[i] ∧ 0 ≤ l[i] ∧ l[i] < m) && rises m l[i] (l.drop (i + 1)))
      rw [← hp]
      cases p
      · exact Ev.step (f := fun _ => some false) (fun k => by rw [h]; rfl) (Ev.now _)
      · exact Ev.step (f := fun k => spec_l3Lost.l0 k l m l (l.length : Int) ((i + 1 : Nat) : Int)) (fun k => by rw [h]; rfl) hi'
    refine go _ rfl (fun k => ?_)
    simp only [spec_l3Lost.l0, rd_nat l i hlt, wrap_succ i (by omega), decide_eq_true_eq]
    rw [if_pos (by omega), if_pos (by omega), if_pos (by omega)]
    by_cases h1 : l[i] < 0
    · rw [if_pos h1, if_neg (by omega)]
    · rw [if_neg h1]
      by_cases h2 : l[i] ≥ m
      · rw [if_pos h2, if_neg (by omega)]
      · rw [if_neg h2]
        by_cases h3 : i = 0
        · subst h3
          rw [if_neg (by omega), if_pos ⟨by simp [ahead]; omega, by omega, by omega⟩]
        · rw [if_pos (by omega), ahead_rd l i (by omega) (by omega)]
          have e : wrap64 ((i : Int) - 1) = (i : Int) - 1 := wrap_id (by omega) (by omega)
          rw [e, if_pos (by omega), if_pos (by omega)]
          by_cases h4 : ahead l i ≥ l[i]
          · rw [if_pos h4, if_neg (by omega)]
          · rw [if_neg h4, if_pos ⟨by omega, by omega, by omega⟩]
theorem spec_l3Lost_ev (l : List Int) (m : Int) (hl : l.length ≤ 1048576) : Ev (fun k => spec_l3Lost.f k l m) (rises m (-1) l) := spec_l3Lost_l0 l m hl l.length 0 (by omega)

theorem spec_CanDecode_ev (a b : Int) (l : List Int) (hl : l.length ≤ 1048576) : Ev (fun k => spec_CanDecode.f k a b l) (canV a b l) := by
  unfold spec_CanDecode.f canV
  simp only [spec_l3Size_eq, Option.bind_some]
  cases h : isC a b
  · exact Ev.now _
  · have hb := isC_bd h
    have e : wrap64 (a + b) = a + b := wrap_id (by omega) (by omega)
    simp only [if_true, e, Bool.true_and]
    refine Ev.bind (f := fun _ (t : Bool) => if t = true then some (decide ((l.length : Int) ≤ b), true) else some (false, false)) (spec_l3Lost_ev l (a + b) hl) ?_
    cases rises (a + b) (-1) l <;> exact Ev.now _

def distV (a b : List (List Int)) : Int × Bool := if decide (a.length = b.length) && (areP a && (areP b && (decide (a.length ≤ 10) && decide (a.length = 0 ∨ (a.getD 0 []).length = (b.getD 0 []).length)))) then (((unlikeN a b : Nat) : Int), true) else (0, false)
theorem areP_both {a b : List (List Int)} (h : a.length = b.length) : areP (a ++ b) = (areP a && (areP b && decide (a.length = 0 ∨ (a.getD 0 []).length = (b.getD 0 []).length))) := by
  cases a with
  | nil =>
    cases b with
    | nil => rfl
    | cons q b => cases h
  | cons r a =>
    cases b with
    | nil => cases h
    | cons q b =>
      have e1 : ((r :: a).getD 0 []).length = r.length := rfl
      have e2 : ((q :: b).getD 0 []).length = q.length := rfl
      have e3 : (((r :: a) ++ (q :: b)).getD 0 []).length = r.length := rfl
      have e4 : ∀ c, areR c ((r :: a) ++ (q :: b)) = (areR c (r :: a) && areR c (q :: b)) := fun c => by unfold areR; rw [List.all_append]
      unfold areP
      rw [e1, e2, e3, e4]
      by_cases e : r.length = q.length
      · rw [e, decide_eq_true (p := (r :: a).length = 0 ∨ q.length = q.length) (.inr rfl)]
        cases decide (q.length ≤ 32) <;> cases areR q.length (r :: a) <;> cases areR q.length (q :: b) <;> rfl
      · have e5 : areR r.length (q :: b) = false := by
          unfold areR
          rw [List.all_cons, decide_eq_false (fun h => e h.symm), Bool.false_and, Bool.false_and]
        rw [e5, decide_eq_false (p := (r :: a).length = 0 ∨ r.length = q.length) (by simp [e])]; simp
theorem distV_off {a b : List (List Int)} (h : ¬ (a.length = b.length ∧ a.length ≤ 10 ∧ areP (a ++ b) = true)) : distV a b = (0, false) := by
  unfold distV
  by_cases e : a.length = b.length
  · rw [decide_eq_true e, Bool.true_and]
    apply if_neg
    intro g
    simp only [Bool.and_eq_true] at g
    exact h ⟨e, of_decide_eq_true g.2.2.1, by rw [areP_both e, g.1, g.2.1, g.2.2.2]; rfl⟩
  · rw [decide_eq_false e, Bool.false_and]; rfl
theorem distV_on {a b : List (List Int)} (e : a.length = b.length) (h1 : a.length ≤ 10) (h : areP (a ++ b) = true) : distV a b = (((unlikeN a b : Nat) : Int), true) := by
  unfold distV
  rw [areP_both e] at h
  simp only [Bool.and_eq_true] at h
  rw [decide_eq_true e, h.1, h.2.1, h.2.2, decide_eq_true h1]; rfl

theorem mat_ext {c : Nat} {a b : List (List Nat)} (ha : Mat.MB' c a) (hb : Mat.MB' c b) (hl : a.length = b.length) (h : ∀ i j, i < a.length → j < c → Mat.fn a i j = Mat.fn b i j) : a = b := by
  apply List.ext_getElem hl
  intro i h1 h2
  have l1 := (ha _ (List.getElem_mem h1)).1
  have l2 := (hb _ (List.getElem_mem h2)).1
  apply List.ext_getElem (by rw [l1, l2])
  intro j h3 h4
  have := h i j h1 (by rw [← l1]; exact h3)
  unfold Mat.fn at this
  simpa [List.getD_eq_getElem?_getD, h1, h2, h3, h4] using this
theorem updL_getD (q : List Nat) : ∀ {fs : List Nat} {m : List (List Nat)} (i : Nat), fs.length = m.length → i < m.length → (updL q fs m).getD i [] = Mat.radd (fs.getD i 0) (m.getD i []) q
  | [], [], _, _, h => by cases h
  | f :: fs, r :: m, 0, _, _ => rfl
  | f :: fs, r :: m, i + 1, h, hi => by
    have := updL_getD q (fs := fs) (m := m) i (by simpa using h) (by simpa using hi)
    simpa [updL] using this
  | [], _ :: _, _, h, _ => by cases h
  | _ :: _, [], _, h, _ => by cases h
theorem codeM_top {d e i j : Nat} (hi : i < d) (hj : j < d) : Mat.fn (codeM d e) i j = Elim.unit i j := by
  have : (codeM d e).getD i [] = (Mat.idM d).getD i [] := by
    unfold codeM
    rw [List.getD_eq_getElem?_getD, List.getElem?_append_left (by rw [Mat.idM_length]; exact hi), ← List.getD_eq_getElem?_getD]
  unfold Mat.fn
  rw [this]
  exact Mat.idM_fn hi hj
theorem codeM_low {d e i k : Nat} (hd : d ≤ i) (hi : i < d + e) (hk : k < d) (hb : d + e ≤ 256) : Mat.fn (codeM d e) i k ≠ 0 := by
  have e1 : (codeM d e).getD i [] = cauchyR (i - d) (rangeN e d) := by
    unfold codeM
    rw [List.getD_eq_getElem?_getD, List.getElem?_append_right (by rw [Mat.idM_length]; exact hd), Mat.idM_length]
    unfold cauchyM rangeN
    rw [List.getElem?_map, List.getElem?_map, List.getElem?_range (by omega)]
    simp
  unfold Mat.fn
  rw [e1]
  have e2 : (cauchyR (i - d) (rangeN e d)).getD k 0 = Gf.gi ((i - d) ^^^ (e + k)) := by
    unfold cauchyR rangeN
    rw [List.getD_eq_getElem?_getD, List.getElem?_map, List.getElem?_map, List.getElem?_range hk]; rfl
  rw [e2]
  have hx := Gf.xor_byte (a := i - d) (b := e + k) (by omega) (by omega)
  have hne : (i - d) ^^^ (e + k) ≠ 0 := fun h => by have := Gf.xor_eq_zero h; omega
  intro h0
  have := Gf.gm_gi hx hne
  rw [h0, Gf.gm_zero] at this
  cases this
section
set_option linter.unusedSectionVars false
variable {d e k c : Nat} {m : List (List Nat)} {q : List Nat} (hm : Mat.MB' c m) (hq : q.length = c) (hqb : Poly.AllB q) (hml : m.length = d + e) (hk : k < d) (hd : d ≤ 6) (he1 : 1 ≤ e) (he : e ≤ 4)
include hm hq hml hk
theorem upd_fn (i j : Nat) (hi : i < m.length) : Mat.fn (updM d e m k q) i j = Mat.fn m i j ^^^ Gf.gm (Mat.fn (codeM d e) i k) ((chg (m.getD k []) q).getD j 0) := by
  have hr := (hm.get (i := k) (by omega)).1
  have hcl : (chg (m.getD k []) q).length = c := by unfold chg; rw [Mat.radd_length _ (by rw [hr, hq])]; exact hr
  unfold updM Mat.fn
  rw [updL_getD _ i (by rw [Mat.col_length, codeM_length, hml]) hi, Mat.radd_getD (by rw [(hm.get hi).1, hcl]), Mat.col_at]
theorem upd_MB : Mat.MB' c (updM d e m k q) := updM_MB hm hq (by omega)
theorem upd_len : (updM d e m k q).length = d + e := by unfold updM; rw [updL_length _ (by rw [Mat.col_length, codeM_length, hml]), hml]
include hqb
theorem chg_lt (j : Nat) : (chg (m.getD k []) q).getD j 0 < 256 := Poly.AllB.get (chg_bytes (hm.get (i := k) (by omega)).2) j
theorem take_fn (n : List (List Nat)) (i j : Nat) (hi : i < d) : Mat.fn (n.take d) i j = Mat.fn n i j := by
  unfold Mat.fn
  rw [List.getD_eq_getElem?_getD (l := n.take d), List.getElem?_take_of_lt hi, ← List.getD_eq_getElem?_getD]
theorem enc_fn (i j : Nat) (hi : i < d + e) : Mat.fn (encM c e ((updM d e m k q).take d)) i j = Mat.fn (encM c e (m.take d)) i j ^^^ Gf.gm (Mat.fn (codeM d e) i k) ((chg (m.getD k []) q).getD j 0) := by
  have hU := upd_MB (d := d) (e := e) (k := k) hm hq hml hk
  have hUl := upd_len (d := d) (e := e) (k := k) hm hq hml hk
  have l1 : ((updM d e m k q).take d).length = d := by rw [List.length_take]; omega
  have l2 : (m.take d).length = d := by rw [List.length_take]; omega
  have hc := codeM_MB d e
  have hcl := codeM_length d e
  unfold encM
  rw [l1, l2, Mat.mulM_fn hc (take_MB hU d) l1 (by omega) j, Mat.mulM_fn hc (take_MB hm d) l2 (by omega) j]
  show Lin.xs d (fun t => Gf.gm (Mat.fn (codeM d e) i t) (Mat.fn ((updM d e m k q).take d) t j)) = Lin.xs d (fun t => Gf.gm (Mat.fn (codeM d e) i t) (Mat.fn (m.take d) t j)) ^^^ _
  have hchg := chg_lt hm hq hqb hml hk j
  have e1 : Lin.xs d (fun t => Gf.gm (Mat.fn (codeM d e) i t) (Mat.fn ((updM d e m k q).take d) t j)) = Lin.xs d (fun t => Gf.gm (Mat.fn (codeM d e) i t) (Mat.fn (m.take d) t j) ^^^ Gf.gm (Mat.fn (codeM d e) i t) (Gf.gm (Elim.unit t k) ((chg (m.getD k []) q).getD j 0))) := by
    refine Lin.xs_congr fun t ht => ?_
    rw [take_fn hm hq hqb hml hk _ t j ht, take_fn hm hq hqb hml hk _ t j ht, upd_fn hm hq hml hk t j (by omega), codeM_top ht hk, Gf.gm_add]
  rw [e1, Lin.xs_xor]
  congr 1
  rw [Lin.xs_single hk (fun t ht hne => by
    have : Elim.unit t k = 0 := by unfold Elim.unit; rw [if_neg hne]
    rw [this, Gf.zero_gm, Gf.gm_zero])]
  have : Elim.unit k k = 1 := by unfold Elim.unit; rw [if_pos rfl]
  rw [this, Gf.one_gm _ hchg]
theorem enc_iff : (encM c e ((updM d e m k q).take d) = updM d e m k q) ↔ encM c e (m.take d) = m := by
  have hU := upd_MB (d := d) (e := e) (k := k) hm hq hml hk
  have hUl := upd_len (d := d) (e := e) (k := k) hm hq hml hk
  have l1 : ((updM d e m k q).take d).length = d := by rw [List.length_take]; omega
  have l2 : (m.take d).length = d := by rw [List.length_take]; omega
  have hE1 := encM_MB e (take_MB hU d)
  have hE2 := encM_MB e (take_MB hm d)
  have n1 : (encM c e ((updM d e m k q).take d)).length = d + e := by rw [encM_length, l1]
  have n2 : (encM c e (m.take d)).length = d + e := by rw [encM_length, l2]
  constructor
  · intro h
    refine mat_ext hE2 hm (by omega) fun i j hi hj => ?_
    have h1 := enc_fn (d := d) (e := e) (k := k) hm hq hqb hml hk i j (by omega)
    rw [h, upd_fn hm hq hml hk i j (by omega)] at h1
    have h2 := congrArg (· ^^^ Gf.gm (Mat.fn (codeM d e) i k) ((chg (m.getD k []) q).getD j 0)) h1
    simp only [Gf.xor_cancel] at h2
    exact h2.symm
  · intro h
    refine mat_ext hE1 hU (by omega) fun i j hi hj => ?_
    rw [enc_fn hm hq hqb hml hk i j (by omega), upd_fn hm hq hml hk i j (by omega), h]
theorem upd_k : (updM d e m k q).getD k [] = q := by
  have hU := upd_MB (d := d) (e := e) (k := k) hm hq hml hk
  have hUl := upd_len (d := d) (e := e) (k := k) hm hq hml hk
  have hr := hU.get (i := k) (by omega)
  have hrk := hm.get (i := k) (by omega)
  apply List.ext_getElem (by rw [hr.1, hq])
  intro j h1 h2
  have h3 := upd_fn hm hq hml hk k j (by omega)
  rw [codeM_top hk hk, show Elim.unit k k = 1 by unfold Elim.unit; rw [if_pos rfl], Gf.one_gm _ (chg_lt hm hq hqb hml hk j), chg_getD (by rw [hrk.1, hq]) hqb] at h3
  unfold Mat.fn at h3
  rw [← Nat.xor_assoc, Nat.xor_self, Nat.zero_xor] at h3
  generalize (updM d e m k q).getD k [] = row at h1 h3
  simpa [List.getD_eq_getElem?_getD, h1, h2] using h3
/-- The data pieces of the new list are the old ones with the new piece. -/
theorem upd_take : (updM d e m k q).take d = (m.take d).set k q := by
  have hU := upd_MB (d := d) (e := e) (k := k) hm hq hml hk
  have hUl := upd_len (d := d) (e := e) (k := k) hm hq hml hk
  have hs : Mat.MB' c ((m.take d).set k q) := fun r hr => by
    rcases List.mem_or_eq_of_mem_set hr with h | h
    · exact take_MB hm d r h
    · rw [h]; exact ⟨hq, hqb⟩
  refine mat_ext (take_MB hU d) hs (by rw [List.length_set, List.length_take, List.length_take]; omega) fun i j hi hj => ?_
  have hid : i < d := by rw [List.length_take] at hi; omega
  rw [take_fn hm hq hqb hml hk _ i j hid]
  by_cases hik : i = k
  · subst hik
    unfold Mat.fn
    rw [upd_k hm hq hqb hml hk, List.getD_eq_getElem?_getD (l := List.set _ _ _), List.getElem?_set_self (by rw [List.length_take]; omega)]; rfl
  · rw [upd_fn hm hq hml hk i j (by omega), codeM_top hid hk, show Elim.unit i k = 0 by unfold Elim.unit; rw [if_neg hik], Gf.zero_gm, Nat.xor_zero]
    unfold Mat.fn
    rw [List.getD_eq_getElem?_getD (l := List.set _ _ _), List.getElem?_set_ne (Ne.symm hik), List.getElem?_take_of_lt hid, ← List.getD_eq_getElem?_getD]
end
theorem unlikeN_append {α : Type} [DecidableEq α] : ∀ (a b a' b' : List α), a.length = b.length → unlikeN (a ++ a') (b ++ b') = unlikeN a b + unlikeN a' b'
  | [], [], a', b', _ => by simp [unlikeN]
  | x :: a, y :: b, a', b', h => by
    have := unlikeN_append a b a' b' (by simpa using h)
    simp only [List.cons_append, unlikeN, this]; omega
  | [], _ :: _, _, _, h => by cases h
  | _ :: _, [], _, _, h => by cases h
theorem unlikeN_all {α : Type} [DecidableEq α] : ∀ (a b : List α), a.length = b.length → (∀ i : Nat, (h : i < a.length) → (h2 : i < b.length) → a[i] ≠ b[i]) → unlikeN a b = a.length
  | [], [], _, _ => rfl
  | x :: a, y :: b, h, hd => by
    have h0 : x ≠ y := hd 0 (by simp) (by simp)
    have := unlikeN_all a b (by simpa using h) (fun i h1 h2 => hd (i + 1) (by simpa using h1) (by simpa using h2))
    simp only [unlikeN, if_neg h0, this, List.length_cons]; omega
  | [], _ :: _, h, _ => by cases h
  | _ :: _, [], h, _ => by cases h
/-- What the law asks of an updated list of pieces. -/
theorem pieces_law {a b : Int} {l : List (List Int)} {k : Int} {p : List Int} (h : (updV a b l k p).2 = true) : ∃ (is : Bool) (d kk : Nat) (dist : Int) (e : List (List Int)), chkV a b l = (is, true) ∧ chkV a b (updV a b l k p).1 = (is, true) ∧ distV l (updV a b l k p).1 = (dist, true) ∧ (is = true → p ≠ l.getD kk [] → b < dist) ∧
    a = (d : Int) ∧ k = (kk : Int) ∧ kk < d ∧ d ≤ l.length ∧ l.length ≤ 10 ∧ (updV a b l k p).1.length = l.length ∧ (updV a b l k p).1.getD kk [] = p ∧ encV ((l.take d).set kk p) b = (e, true) ∧ (is = true → e = (updV a b l k p).1) ∧ (∀ r ∈ l, r.length ≤ 32) ∧ p.length ≤ 32 ∧ e.length ≤ 32 ∧ ∀ r ∈ e, r.length ≤ 32 := by
  have hok : updOk a b l k p = true := by
    unfold updV at h
    split at h
    · assumption
    · cases h
  have hC : isC a b = true := by
    have h2 := hok
    simp only [updOk, Bool.and_eq_true] at h2
    exact h2.1
  rw [updV_j a b l k p hok, if_pos rfl]
  obtain ⟨d, e, kk, c, m, q, rfl, rfl, rfl, rfl, rfl, hm, hql, hq, g1, g2, g3, g4, g5, g6, g7⟩ := updOk_up hok
  rw [dnM_upM, dn_up, Int.toNat_natCast, Int.toNat_natCast, Int.toNat_natCast]
  have hU := upd_MB (d := d) (e := e) (k := kk) hm hql g1 g2
  have hUl := upd_len (d := d) (e := e) (k := kk) hm hql g1 g2
  have hUk := upd_k (d := d) (e := e) (k := kk) hm hql hq g1 g2
  have hUt := upd_take (d := d) (e := e) (k := kk) hm hql hq g1 g2
  have hiff := enc_iff (d := d) (e := e) (k := kk) hm hql hq g1 g2
  have hfn := fun i j hi => upd_fn (d := d) (e := e) (k := kk) hm hql g1 g2 i j hi
  have hAm := up_areP hm g7 (by omega)
  have hAu := up_areP hU g7 (by omega)
  have c0 : ((upM m).getD 0 []).length = c := by rw [upM_getD, Poly.up_length]; exact (hm.get (by omega)).1
  have c1 : ((upM (updM d e m kk q)).getD 0 []).length = c := by rw [upM_getD, Poly.up_length]; exact (hU.get (by omega)).1
  have hk1 : chkV (d : Int) (e : Int) (upM m) = (decide (upM (encM c e (m.take d)) = upM m), true) := by
    unfold chkV
    rw [hC, hAm, upM_length, decide_eq_true (show ((m.length : Nat) : Int) = (d : Int) + (e : Int) by omega), c0, Int.toNat_natCast, Int.toNat_natCast, upM_take, dnM_upM]; rfl
  have hk2 : chkV (d : Int) (e : Int) (upM (updM d e m kk q)) = (decide (upM (encM c e (m.take d)) = upM m), true) := by
    have : decide (upM (encM c e ((updM d e m kk q).take d)) = upM (updM d e m kk q)) = decide (upM (encM c e (m.take d)) = upM m) := by
      apply decide_eq_decide.2
      constructor
      · intro h1
        rw [hiff.1 (by have := congrArg dnM h1; rwa [dnM_upM, dnM_upM] at this)]
      · intro h1
        rw [hiff.2 (by have := congrArg dnM h1; rwa [dnM_upM, dnM_upM] at this)]
    unfold chkV
    rw [hC, hAu, upM_length, decide_eq_true (show (((updM d e m kk q).length : Nat) : Int) = (d : Int) + (e : Int) by omega), c1, Int.toNat_natCast, Int.toNat_natCast, upM_take, dnM_upM, this]; rfl
  have hd : distV (upM m) (upM (updM d e m kk q)) = (((unlikeN (upM m) (upM (updM d e m kk q)) : Nat) : Int), true) := by
    refine distV_on (by rw [upM_length, upM_length]; omega) (by rw [upM_length]; omega) ?_
    rw [areP_both (by rw [upM_length, upM_length]; omega), hAm, hAu, c0, c1, decide_eq_true (.inr rfl)]; rfl
  have hset : ((upM m).take d).set kk (Poly.up q) = upM ((updM d e m kk q).take d) := by
    rw [hUt, upM_take]
    unfold upM
    rw [List.map_set]
  have hl1 : ((updM d e m kk q).take d).length = d := by rw [List.length_take]; omega
  have hAt := up_areP (take_MB hU d) g7 (by omega)
  have c2 : ((upM ((updM d e m kk q).take d)).getD 0 []).length = c := by rw [upM_getD, Poly.up_length]; exact ((take_MB hU d).get (by omega)).1
  have he : encV (((upM m).take d).set kk (Poly.up q)) (e : Int) = (upM (encM c e ((updM d e m kk q).take d)), true) := by
    rw [hset]
    unfold encV
    rw [upM_length, hl1, hC, hAt, c2, Int.toNat_natCast, dnM_upM]; rfl
  have hsm := encV_small (((upM m).take d).set kk (Poly.up q)) (e : Int)
  rw [he] at hsm
  refine ⟨_, d, kk, _, _, hk1, hk2, hd, ?_, rfl, rfl, g2, by rw [upM_length]; omega, by rw [upM_length]; omega, by rw [upM_length, upM_length]; omega, by rw [upM_getD, hUk], he, ?_, fun r hr => ?_, by rw [Poly.up_length]; omega, hsm.1, hsm.2⟩
  · intro _ hne
    -- where the new piece is another, all of the parity pieces are
    rw [upM_getD] at hne
    have hne2 : q ≠ m.getD kk [] := fun h2 => hne (by rw [h2])
    have hrk := hm.get (i := kk) (by omega)
    obtain ⟨j, hj⟩ : ∃ j, (chg (m.getD kk []) q).getD j 0 ≠ 0 := by
      apply Classical.byContradiction
      intro hn
      apply hne2
      apply List.ext_getElem (by rw [hql, hrk.1])
      intro j h1 h2
      have h3 : (chg (m.getD kk []) q).getD j 0 = 0 := Classical.byContradiction fun h4 => hn ⟨j, h4⟩
      rw [chg_getD (by rw [hrk.1, hql]) hq] at h3
      have h5 := Gf.xor_eq_zero h3
      generalize m.getD kk [] = row at h2 h5 ⊢
      simpa [List.getD_eq_getElem?_getD, h1, h2] using h5.symm
    have hcb := chg_lt (d := d) (e := e) (k := kk) hm hql hq g1 g2 j
    have hdiff : ∀ i : Nat, i < d + e → Mat.fn (codeM d e) i kk ≠ 0 → m.getD i [] ≠ (updM d e m kk q).getD i [] := fun i hi hf h2 => by
      have h3 := hfn i j (by omega)
      have h4 : Mat.fn (updM d e m kk q) i j = Mat.fn m i j := by unfold Mat.fn; rw [h2]
      rw [h4] at h3
      have hcf : Mat.fn (codeM d e) i kk < 256 := Poly.AllB.get ((codeM_MB d e).get (i := i) (by rw [codeM_length]; exact hi)).2 kk
      have h5 : Gf.gm (Mat.fn (codeM d e) i kk) ((chg (m.getD kk []) q).getD j 0) = 0 := by
        have := congrArg (Mat.fn m i j ^^^ ·) h3
        simp only [Gf.xor_cancel', Nat.xor_self] at this
        exact this.symm
      exact Gf.gm_ne hcf hcb hf hj h5
    have hat : ∀ (n : List (List Nat)) (i : Nat) (h2 : i < (upM n).length), (upM n)[i] = Poly.up (n.getD i []) := fun n i h2 => by
      rw [← upM_getD, List.getD_eq_getElem?_getD, List.getElem?_eq_getElem h2]; rfl
    have hinj : ∀ {x y : List Nat}, Poly.up x = Poly.up y → x = y := fun {x y} h2 => by have := congrArg (fun z => z.map Int.toNat) h2; simpa only [dn_up] using this
    have hsplit : unlikeN (upM m) (upM (updM d e m kk q)) = unlikeN ((upM m).take d) ((upM (updM d e m kk q)).take d) + unlikeN ((upM m).drop d) ((upM (updM d e m kk q)).drop d) := by
      rw [← unlikeN_append _ _ _ _ (by rw [List.length_take, List.length_take, upM_length, upM_length]; omega), List.take_append_drop, List.take_append_drop]
    have hlow : unlikeN ((upM m).drop d) ((upM (updM d e m kk q)).drop d) = e := by
      rw [unlikeN_all _ _ (by rw [List.length_drop, List.length_drop, upM_length, upM_length]; omega) (fun i h1 h2 h3 => by
        rw [List.length_drop, upM_length] at h1
        rw [List.getElem_drop, List.getElem_drop, hat, hat] at h3
        exact hdiff (d + i) (by omega) (codeM_low (by omega) (by omega) g2 (by omega)) (hinj h3)), List.length_drop, upM_length]; omega
    have htop : unlikeN ((upM m).take d) ((upM (updM d e m kk q)).take d) ≠ 0 := fun h2 => by
      have h3 := (unlikeN_zero (by rw [List.length_take, List.length_take, upM_length, upM_length]; omega)).1 h2
      have h4 : ((upM m).take d).getD kk [] = ((upM (updM d e m kk q)).take d).getD kk [] := by rw [h3]
      rw [List.getD_eq_getElem?_getD, List.getD_eq_getElem?_getD, List.getElem?_take_of_lt g2, List.getElem?_take_of_lt g2, ← List.getD_eq_getElem?_getD, ← List.getD_eq_getElem?_getD, upM_getD, upM_getD] at h4
      exact hdiff kk (by omega) (by rw [codeM_top g2 g2, show Elim.unit kk kk = 1 by unfold Elim.unit; rw [if_pos rfl]]; decide) (hinj h4)
    rw [hsplit, hlow]
    omega
  · intro h2
    have h3 := of_decide_eq_true h2
    have h4 := congrArg dnM h3
    rw [dnM_upM, dnM_upM] at h4
    rw [hiff.2 h4]
  · obtain ⟨x, hx, rfl⟩ := List.mem_map.1 hr
    rw [Poly.up_length, (hm x hx).1]; omega

theorem laws_sameInts_l0 (l m : List Int) (hlm : l.length = m.length) (hl : l.length ≤ 1000000) : ∀ d i : Nat, i + d = l.length → Ev (fun k => laws_sameInts.l0 k l m (l.length : Int) (i : Int)) (decide (l.drop i = m.drop i)) := by
  intro d
  induction d with
  | zero =>
    intro i hi
    obtain rfl : i = l.length := by omega
    have e : decide (l.drop l.length = m.drop l.length) = true := by
      have e2 : m.drop l.length = [] := by rw [hlm, List.drop_length]
      rw [e2, List.drop_length]; rfl
    rw [e]
    exact Ev.step (f := fun _ => some true) (fun k => by rw [laws_sameInts.l0.eq_2, if_neg (by omega)]) (Ev.now _)
  | succ d ih =>
    intro i hi
    have hlt : i < l.length := by omega
    have hlt2 : i < m.length := by omega
    rw [List.drop_eq_getElem_cons hlt, List.drop_eq_getElem_cons hlt2]
    by_cases e : l[i] = m[i]
    · have : decide (l[i] :: l.drop (i + 1) = m[i] :: m.drop (i + 1)) = decide (l.drop (i + 1) = m.drop (i + 1)) := by simp only [List.cons.injEq, e, true_and]
      rw [this]
      refine Ev.step (f := fun k => laws_sameInts.l0 k l m (l.length : Int) ((i + 1 : Nat) : Int)) (fun k => ?_) (ih (i + 1) (by omega))
      rw [laws_sameInts.l0.eq_2, if_pos (by omega), if_pos (by omega), if_pos (by omega), if_pos (by omega), rd_nat l i hlt, rd_nat m i hlt2, if_pos e, wrap_succ i (by omega)]
    · have : decide (l[i] :: l.drop (i + 1) = m[i] :: m.drop (i + 1)) = false := by simp only [List.cons.injEq, e, false_and, decide_false]
      rw [this]
      refine Ev.step (f := fun k => some false) (fun k => ?_) (Ev.now _)
      rw [laws_sameInts.l0.eq_2, if_pos (by omega), if_pos (by omega), if_pos (by omega), if_pos (by omega), rd_nat l i hlt, rd_nat m i hlt2, if_neg e]
theorem laws_sameInts_ev (l m : List Int) (hl : l.length ≤ 1000000) : Ev (fun k => laws_sameInts.f k l m) (decide (l = m)) := by
  unfold laws_sameInts.f
  by_cases h : l.length = m.length
  · simp only [if_pos (show (l.length : Int) = (m.length : Int) by omega)]
    exact laws_sameInts_l0 l m h hl l.length 0 (by omega)
  · simp only [if_neg (show ¬ (l.length : Int) = (m.length : Int) by omega)]
    have : decide (l = m) = false := by simp only [decide_eq_false_iff_not]; rintro rfl; exact h rfl
    rw [this]
    exact Ev.now _

theorem infoR : (Try.prog.info? 23).map (fun i => (i.zero, i.size, i.bytes)) = some (some (.slice none 0 0), 1, 24) := by kernel_rfl

theorem fixed_reads {w0 w : World} {base : Nat} {ok : Nat → Prop} {v : Value} {m : List (List Int)} (h : (Kd.fixed (Kd.slice 3 (Kd.int .i64)) w0).R 23 w base ok v m) (hb : Below w0.heap.size w0 w) : ∃ A c, v = .slice A m.length c ∧ m.length ≤ c ∧ Kd.C (Kd.slice 3 (Kd.int .i64)) w A m.length m := by
  obtain ⟨A, c, rfl, hl, hC⟩ := Kd.R_reads h
  exact ⟨A, c, rfl, hl, ReadsRow.imp_ hC (Below.refl _ _) (fun _ _ hp => (Kd.slice 3 (Kd.int .i64)).K_below hb hp)⟩
theorem fixed_row {w0 w : World} {A : Option Addr} {n : Nat} {m : List (List Int)} (h : Kd.C (Kd.slice 3 (Kd.int .i64)) w0 A n m) (hb : Below w0.heap.size w0 w) : ReadsRow ((Kd.slice 3 (Kd.int .i64)).K w0) 1 w A n m := ReadsRow.imp_ h hb (fun _ _ hp => hp)
set_option maxHeartbeats 8000000 in
set_option maxRecDepth 100000 in
theorem cloneSS_e (A0 : Option Addr) (c0 : Nat) (l0 : List (List Int)) (w : World) (hr0 : Kd.C (Kd.slice 3 (Kd.int .i64)) w A0 l0.length l0) (hl : l0.length ≤ 1048576) :
    Calls Try.prog 133 #[.slice A0 l0.length c0] w fun e w' => ∃ v, e = .returned v ∧ (Kd.fixed (Kd.slice 3 (Kd.int .i64)) w).R 23 w' w.heap.size (fun _ => True) v l0 ∧ Below w.heap.size w w' := by
  have HR0 := Aside0.mk hr0
  have HL := Aside0.mk hl
  have HB := Aside0.mk (Below.refl w.heap.size w)
  have heq : ∀ w, (binOp .eql 22 (.slice A0 l0.length c0) (.slice none 0 0)).run Try.prog w = .ok (.bool A0.isNone) w := fun w => Lib.run_eql_slice_nil w 22 23 A0 l0.length c0 0 0 Try.underlying22
  clear hl
  cases A0 with
  | none =>
    have h0 : l0 = [] := by
      cases l0 with
      | nil => rfl
      | cons x r => obtain ⟨ad, h, _⟩ := hr0.2.2 (by simp); cases h
    subst h0
    clear hr0
    have heq0 : ∀ w, (binOp .eql 22 (.slice none 0 c0) (.slice none 0 0)).run Try.prog w = .ok (.bool true) w := fun w => Lib.run_eql_slice_nil w 22 23 none 0 c0 0 0 Try.underlying22
    go_enter Try.func133, Try.ntmps133
    go_wp2
    go_ret
    exact ⟨_, rfl, Kd.R_nil _ _ _ _ _, HB.out⟩
  | some ad =>
    clear hr0
    have e0 : (some ad).isNone = false := rfl
    go_enter Try.func133, Try.ntmps133
    go_wp2_with (first | ((with_reducible refine gate_dst (N := 5) rfl ?_); refine Kd.R_lit (Kd.fixed (Kd.slice 3 (Kd.int .i64)) w) _ 23 ?hg (N := 5) ?hd (xs := ([] : List (List Int))) (inner := []) (ok := fun _ => True) (okp := fun _ => True) ?hr ?hp (fun _ hk => hk) trivial (Below.refl _ _) (Nat.le_refl _) (by simp) ?_; (case hd => rfl); (case hg => rfl); (case hr => first | (go_simp; done) | (go_simp; rfl)); (case hp => exact (Reps.none _ _)); intro v183 w15 ho16 hb hg_ hnew_; clear hg_ hnew_; have HO := Aside0.mk (Kd.R_lower ho16 (below_size (by repeat (first | (with_reducible first | exact HB.out | apply below_alloc | apply pw_below_drewN | apply below_drew1) | exact HB.out)))); have HB1 := Aside0.mk (below_step (by repeat (first | (with_reducible first | exact HB.out | apply below_alloc | apply pw_below_drewN | apply below_drew1) | exact HB.out)) hb); clear HB hb ho16) | ((with_reducible refine gate_builtin (b := .append) (xs := #[.tmp 5, .tmp 6]) rfl ?_); at_builtin; refine Kd.R_append_rows (Kd.fixed (Kd.slice 3 (Kd.int .i64)) w) (w0 := w) w.heap.size rfl (.tmp 5) (.tmp 6) 22 23 (.slice none 0 0) 24 rfl Try.underlying22 infoR rfl Nat.one_pos (by omega) v183 [] l0 _ _ _ (fun _ => True) (fun _ => False) rfl rfl ?aO ?aR (fun _ _ h => h) (fun _ h => h.elim) ?aF ?aB ?aS ?aL ?_; (case aR => exact fixed_row HR0.out HB1.out); (case aB => exact HB1.out); (case aF => exact (fun _ _ => trivial)); (case aO => exact HO.out); (case aS => exact HB1.out.size); (case aL => have := HL.out; simp only [List.length_nil]; omega); intro v186 w17 ho hb hg hat; rw [List.nil_append] at ho; have HB2 := Aside0.mk hb; have HO2 := Aside0.mk ho; clear ho hb hg hat))
    go_ret
    exact ⟨_, rfl, HO2.out, HB2.out⟩

/-- A list of rows that are only read, with another row put to a place. -/
theorem anew_set {w1 W : World} {gn cap : Nat} {M : List (List Int)} {ok : Nat → Prop} {b kk : Nat} {A5 : Option Addr} {c5 : Nat} {p : List Int} (hR : (Kd.fixed (Kd.slice 3 (Kd.int .i64)) w1).R 23 W b ok (.slice (some ⟨gn, 0, none⟩) M.length cap) M) (hk : kk < M.length) (hp : (Kd.int .i64).C w1 A5 p.length p) (hc : p.length ≤ c5) (hb : Below w1.heap.size w1 W) (hg : w1.heap.size ≤ gn) :
    (∃ u, W.cell? ⟨gn, kk, none⟩ = some u) ∧ W.frozen? ⟨gn, kk, none⟩ = false ∧ Kd.C (Kd.slice 3 (Kd.int .i64)) (W.setCell ⟨gn, kk, none⟩ (.slice A5 p.length c5)) (some ⟨gn, 0, none⟩) M.length (M.set kk p) ∧ M.length ≤ cap := by
  obtain ⟨g', cap', he, _, _, cells, hcl⟩ := Kd.R_form hR (by omega)
  injection he with h1 _ h3
  injection h1 with h1
  injection h1 with h1
  subst h1 h3
  obtain ⟨_, hcap, hl, hm, hcc⟩ := Kd.R_reads' hR
  obtain ⟨ad, hA, hcell⟩ := hcc (by omega)
  injection hA with hA
  subst hA
  have hadd : ∀ j : Nat, Addr.add ⟨gn, 0, none⟩ (j * (Kd.fixed (Kd.slice 3 (Kd.int .i64)) w1).sz + 0) = ⟨gn, j, none⟩ := fun j => by
    rw [show j * (Kd.fixed (Kd.slice 3 (Kd.int .i64)) w1).sz + 0 = j from Nat.mul_one j]
    unfold Addr.add
    split
    · rename_i h; subst h; rfl
    · simp
  obtain ⟨c, hc1, hK, hcu⟩ := hcell kk _ (List.getElem?_eq_getElem hk)
  obtain ⟨A8, c8, rfl, _, _⟩ := hK
  have hold := hcu 0 _ rfl
  rw [hadd] at hold
  have hB2 : Below w1.heap.size w1 (W.setCell ⟨gn, kk, none⟩ (.slice A5 p.length c5)) := below_set hb hg
  refine ⟨⟨_, hold⟩, by simp [World.frozen?, hcl], ⟨by rw [List.length_set], by omega, fun _ => ⟨_, rfl, fun j r hj => ?_⟩⟩, hcap⟩
  by_cases hjk : j = kk
  · subst hjk
    rw [List.getElem?_set_self hk] at hj
    injection hj with hj
    subst hj
    refine ⟨[.slice A5 p.length c5], rfl, ⟨A5, c5, rfl, hc, Kd.C_below hp hB2⟩, fun i u hu => ?_⟩
    have hi : i = 0 := by
      have := (List.getElem?_eq_some_iff.1 hu).1
      simpa using this
    subst hi
    injection hu with hu
    subst hu
    have h5 := hadd j
    rw [show (Kd.fixed (Kd.slice 3 (Kd.int .i64)) w1).sz = (Kd.slice 3 (Kd.int .i64)).sz from rfl] at h5
    rw [h5]
    exact World.cell?_setCell_same _ _ _ hold
  · rw [List.getElem?_set_ne (Ne.symm hjk)] at hj
    obtain ⟨c', hc2, hK2, hcu2⟩ := hcell j r hj
    refine ⟨c', hc2, (Kd.slice 3 (Kd.int .i64)).K_below hB2 hK2, fun i u hu => ?_⟩
    obtain ⟨A8', c8', rfl, _, _⟩ := hK2
    have hi : i = 0 := by
      have := (List.getElem?_eq_some_iff.1 hu).1
      simpa using this
    subst hi
    have h6 := hcu2 0 u hu
    have h5 := hadd j
    rw [h5] at h6
    rw [show (Kd.fixed (Kd.slice 3 (Kd.int .i64)) w1).sz = (Kd.slice 3 (Kd.int .i64)).sz from rfl] at h5
    rw [h5, World.cell?_setCell_other _ _ _ _ (fun e => hjk (by injection e with _ e _; exact e.symm))]
    exact h6

theorem S_reads {v : Value} {m : List (List Int)} {w : World} {b : Nat} {ok : Nat → Prop} (h : Kd.S (Kd.slice 3 (Kd.int .i64)) 23 w b ok v m) : ∃ A c, v = .slice A m.length c ∧ m.length ≤ c ∧ Kd.C (Kd.slice 3 (Kd.int .i64)) w A m.length m := Kd.R_reads (Kd.S_R h)

set_option maxHeartbeats 8000000 in
set_option maxRecDepth 100000 in
theorem drawDist_e (A0 : Option Addr) (c0 : Nat) (l0 : List Int) (w : World) (hs : BY l0) (hr0 : (Kd.int .u8).C w A0 l0.length l0) :
    Calls Try.prog 58 #[.slice A0 l0.length c0] w fun e w' => ∃ (A1 : Option Addr) (c1 : Nat) (a : List (List Int)) (A2 : Option Addr) (c2 : Nat) (b : List (List Int)), e = .returned (.tuple #[.slice A1 a.length c1, .slice A2 b.length c2]) ∧ a.length ≤ 32 ∧ (∀ r ∈ a, r.length ≤ 33) ∧ b.length ≤ 32 ∧ (∀ r ∈ b, r.length ≤ 33) ∧
      a.length ≤ c1 ∧ Kd.C (Kd.slice 3 (Kd.int .i64)) w' A1 a.length a ∧ b.length ≤ c2 ∧ Kd.C (Kd.slice 3 (Kd.int .i64)) w' A2 b.length b ∧ Below w.heap.size w w' := by
  have hu := Try.underlying93
  obtain ⟨n, p, l, lost, a1, d1, E1, h1, h2, h3, ⟨cc, hcc, h4c⟩, ⟨h5, h5z⟩, h6, h7⟩ := spec_l1Cur_coded_ex hs (a := 0) 0 (by omega) (by omega)
  have h4 : ∀ r ∈ l, r.length ≤ 33 := fun r h => by have := h4c r h; omega
  obtain ⟨K1, e1⟩ := E1.rounds
  obtain ⟨K2, e2⟩ := (spec_l2Own_ev l (by omega) (fun r h => by have := h4 r h; omega)).rounds
  have H1 := Aside0.mk e1
  have H2 := Aside0.mk e2
  have HL := Aside0.mk (And.intro h3 h4)
  have HLO := Aside0.mk (And.intro h5 h5z)
  have HR0 := Aside0.mk hr0
  have HB := Aside0.mk (Below.refl w.heap.size w)
  clear E1 h1 h2 h3 h4c hcc h4 h5 h5z h6 h7 e1 e2 hr0 hs
  go_enter Try.func58, Try.ntmps58
  go_wp2_with ((with_reducible refine gate_dst (N := 14) rfl ?_); refine box_event ?hg (N := 14) ?hd (cs := #[.slice A0 l0.length c0, .int .i64 0, .int .u64 0]) (t := 93) ?hr ?_; (case hd => rfl); (case hg => rfl); (case hr => first | (go_simp; done) | (go_simp; rfl)); intro g hg w3 hbox hb; have HB1 := Aside0.mk (below_step (by repeat (first | (with_reducible first | exact HB.out | apply below_alloc | apply pw_below_drewN | apply below_drew1) | exact HB.out)) hb); have HI := Aside0.mk ((⟨_, _, hbox, by rw [hg]; exact (below_size (by repeat (first | (with_reducible first | exact HB.out | apply below_alloc | apply pw_below_drewN | apply below_drew1) | exact HB.out))), HR0.out⟩ : IsS93 w w3 g l0 0 0)); clear HB; have HB := HB1; clear HB1 hb hbox hg)
  refine (spec_l1Cur_coded.calls K1 g l0 0 0 (n : Int) (p : Int) l lost a1 d1 w _ HI.out HB.out H1.out).mono ?_
  rintro e wc ⟨v2, v3, rfl, hS, hR, _, hb, _⟩
  obtain ⟨A2, c2, rfl, hc2, hC2⟩ := S_reads hS
  obtain ⟨A3, c3, rfl⟩ := Kd.R_slice hR
  have HP := Aside0.mk hC2
  have HC2 := Aside0.mk hc2
  have HD := Aside0.mk (Kd.R_reads' hR).2.2
  replace HB := Aside0.mk hb
  clear hS hR hb hc2 hC2 HI H1 HR0
  go_wp2_with fail
  refine (spec_l2Own.calls K2 A2 c2 l l wc HP.out HC2.out H2.out).mono ?_
  rintro e wd ⟨v, rfl, hS, hb⟩
  obtain ⟨A9, c9, rfl, hE⟩ := (Env.Env.start (e := 23) (t := 3) wc).madeS (by decide) hS hb
  have HE := Aside0.mk hE
  clear hS hb hE H2
  go_wp2
  go_loopg [26] lost.length (fun gg v26 wq => ∃ (i : Nat) (o : List (List Int)), i ≤ lost.length ∧ lost.length - i ≤ gg ∧ v26 = .int .i64 i ∧ Aside0 (o.length = l.length ∧ ∀ r ∈ o, r.length ≤ 33) ∧ Aside0 (Env.Env 23 3 wc wq [(.slice A9 l.length c9, .mat o)]))
  case atStart => exact ⟨0, l, Nat.zero_le _, by omega, rfl, ⟨rfl, HL.out.2⟩, HE⟩
  case round =>
    clear HE
    obtain ⟨i, o, hi', hgi, rfl, HO, HE⟩ := hrel
    have z0 : (0 : Int) ≤ (i : Int) := by omega
    have z1 : (i : Int) ≤ 10 := by have := HLO.out; omega
    by_cases hlt : i < lost.length
    · have j1 : ((i : Int) < (lost.length : Int)) = True := eq_true (by omega)
      have j2 : (i < lost.length) = True := eq_true hlt
      obtain ⟨ad, eA, hx⟩ := Kd.at_int (HE.out.camer HD.out) (i : Int) z0 (by omega)
      cases eA
      have hx0 := HLO.out.2 _ (List.getElem_mem hlt)
      rw [rd_nat lost i hlt, Int.toNat_natCast] at hx
      generalize lost[i] = x at hx hx0
      obtain ⟨k, rfl⟩ := nat_of hx0
      by_cases hk : k < o.length
      · have hk1 : k < l.length := by have := HO.out.1; omega
        have p1 : ((k : Int) < (l.length : Int)) = True := eq_true (by omega)
        have p2 : (k < l.length) = True := eq_true hk1
        have p3 : (0 ≤ (k : Int)) = True := eq_true (by omega)
        have hrl := HO.out.2 (o.getD k []) (by rw [List.getD_eq_getElem?_getD, List.getElem?_eq_getElem hk]; exact List.getElem_mem hk)
        by_cases h0 : 0 < (o.getD k []).length
        · obtain ⟨g9, gu, cu, hA9, hh, hcu, hcell, hfr, hupd⟩ := HE.out.mput (by decide) (j := 0) (A := A9) (n := l.length) (c := c9) (m := o) rfl (i := k) (q := 0) hk h0
          subst hA9
          have hh1 : wr.cell? (Addr.add ⟨g9, 0, none⟩ k) = some (.slice (some ⟨gu, 0, none⟩) (o.getD k []).length cu) := by
            rw [show Addr.add ⟨g9, 0, none⟩ k = ⟨g9, k, none⟩ from by unfold Addr.add; split <;> (rename_i hh2; simp_all)]
            exact hh
          have HU := Aside0.mk hupd
          have HSET := Aside0.mk (fun z : Int => show (o.set k ((o.getD k []).set 0 z)).length = l.length ∧ ∀ r ∈ o.set k ((o.getD k []).set 0 z), r.length ≤ 33 from ⟨by rw [List.length_set]; exact HO.out.1, fun r hr => by
            rcases List.mem_or_eq_of_mem_set hr with h | h
            · exact HO.out.2 r h
            · rw [h, List.length_set]; exact hrl⟩)
          have q1 : (0 < (o.getD k []).length) = True := eq_true h0
          have q2 : ((0 : Int) < ((o.getD k []).length : Int)) = True := eq_true (by omega)
          have q3 : ((o.getD k []).length > 0) = True := eq_true h0
          generalize hrow : o.getD k [] = row at hh hh1 hcu hcell HU HSET q1 q2 q3 hrl h0
          generalize rd row (0 : Nat) = y at hcell
          clear hupd hh1 hx0 hk hk1 hrow
          go_wp2
          go_roundg (lost.length - (i + 1))
          case measure => omega
          case rel => exact ⟨i + 1, _, by omega, by omega, by go_num, ⟨HSET.out _⟩, ⟨HU.out _⟩⟩
        · obtain ⟨ad2, A5, c5, eB, hh, hl5, _⟩ := at_L1 (HE.out.C (by decide) 0 rfl) (k : Int) (by omega) (by omega)
          cases eB
          rw [show rd_L1 o (k : Int) = o.getD k [] from by unfold rd_L1; rw [Int.toNat_natCast]] at hh hl5
          rw [Int.toNat_natCast] at hh
          have q1 : (0 < (o.getD k []).length) = False := eq_false h0
          have q2 : ((0 : Int) < ((o.getD k []).length : Int)) = False := eq_false (by omega)
          generalize (o.getD k []).length = rl at hh hl5 q1 q2 hrl h0
          clear hx0 hk hk1
          go_wp2
          go_roundg (lost.length - (i + 1))
          case measure => omega
          case rel => exact ⟨i + 1, o, by omega, by omega, by go_num, HO, HE⟩
      · have p1 : ((k : Int) < (l.length : Int)) = False := eq_false (by have := HO.out.1; omega)
        have p2 : (k < l.length) = False := eq_false (by have := HO.out.1; omega)
        clear hx0 hk
        go_wp2
        go_roundg (lost.length - (i + 1))
        case measure => omega
        case rel => exact ⟨i + 1, o, by omega, by omega, by go_num, HO, HE⟩
    · have j1 : ((i : Int) < (lost.length : Int)) = False := eq_false (by omega)
      have j2 : (i < lost.length) = False := eq_false hlt
      have hC := HE.out.C (by decide) 0 rfl
      have hc9 := HE.out.cap (by decide) 0 rfl
      have HF := Aside0.mk (And.intro hc9 (And.intro hC (And.intro (HE.out.came HP.out) (below_step HB.out HE.out.1))))
      clear hC hc9
      go_wp2
      (try simp only [Exit.inBlock, Exit.then])
      refine ⟨rfl, _, results_tmp2 rfl _ _ _, ?_⟩
      exact ⟨_, _, l, _, _, o, by rw [HO.out.1]; rfl, HL.out.1, HL.out.2, by rw [HO.out.1]; exact HL.out.1, HO.out.2, HC2.out, HF.out.2.2.1, by rw [HO.out.1]; exact HF.out.1, HF.out.2.1, HF.out.2.2.2⟩

theorem sameI_c (l : List Int) (hl : l.length ≤ 1000000) {A B : Option Addr} {n m : Nat} (hn : l.length ≤ n) (hm : l.length ≤ m) (w : World) (h1 : (Kd.int .i64).C w A l.length l) (h2 : (Kd.int .i64).C w B l.length l) : Calls Try.prog 56 #[.slice A l.length n, .slice B l.length m] w fun e w' => e = .returned (.bool true) ∧ Below w.heap.size w w' := by
  obtain ⟨K, hK⟩ := (laws_sameInts_same l hl).rounds
  exact (laws_sameInts.calls K A n l B m l true w h1 hn h2 hm hK).mono fun e w' ⟨he, hd⟩ => ⟨he, hd.below⟩

/-- The numbers m, m + 1, .., n of them. -/
def marks (m n : Nat) : List Int := (List.range n).map fun j => ((m + j : Nat) : Int)
theorem marks_length (m n : Nat) : (marks m n).length = n := by simp [marks]
theorem marks_succ (m n : Nat) : marks m (n + 1) = marks m n ++ [((m + n : Nat) : Int)] := by simp [marks, List.range_succ]
theorem marks_get (m n i : Nat) (h : i < (marks m n).length) : (marks m n)[i] = ((m + i : Nat) : Int) := by simp [marks]

/-- All places numbered from a on. -/
def marksS : Nat → List (List Int) → List (List Int)
  | _, [] => []
  | a, r :: m => marks a r.length :: marksS (a + r.length) m
def tot : List (List Int) → Nat
  | [] => 0
  | r :: m => r.length + tot m
theorem marksS_length : ∀ (a : Nat) (m : List (List Int)), (marksS a m).length = m.length
  | _, [] => rfl
  | a, r :: m => by simp only [marksS, List.length_cons, marksS_length]
theorem tot_append : ∀ (l m : List (List Int)), tot (l ++ m) = tot l + tot m
  | [], m => by simp [tot]
  | r :: l, m => by simp only [List.cons_append, tot, tot_append l m]; omega
theorem tot_take (m : List (List Int)) (i : Nat) : tot (m.take i) ≤ tot m := by
  have := tot_append (m.take i) (m.drop i)
  rw [List.take_append_drop] at this; omega
theorem tot_succ (m : List (List Int)) (i : Nat) (h : i < m.length) : tot (m.take (i + 1)) = tot (m.take i) + m[i].length := by
  rw [List.take_succ_eq_append_getElem h, tot_append]
  simp [tot]
theorem marksS_append : ∀ (a : Nat) (l m : List (List Int)), marksS a (l ++ m) = marksS a l ++ marksS (a + tot l) m
  | a, [], m => by simp [marksS, tot]
  | a, r :: l, m => by simp only [List.cons_append, marksS, tot, marksS_append (a + r.length) l m, Nat.add_assoc]
theorem tot_marksS : ∀ (a : Nat) (m : List (List Int)), tot (marksS a m) = tot m
  | _, [] => rfl
  | a, r :: m => by simp only [marksS, tot, marks_length, tot_marksS]
theorem tot_le : ∀ {m : List (List Int)} {b : Nat}, (∀ r ∈ m, r.length ≤ b) → tot m ≤ m.length * b
  | [], _, _ => by simp [tot]
  | r :: m, b, h => by
    have h1 := h r List.mem_cons_self
    have h2 := tot_le (m := m) (fun x hx => h x (List.mem_cons_of_mem _ hx))
    simp only [tot, List.length_cons, Nat.succ_mul]; omega
theorem marksS_get : ∀ (a : Nat) (m : List (List Int)) (i : Nat) (h : i < m.length) (h' : i < (marksS a m).length), (marksS a m)[i] = marks (a + tot (m.take i)) m[i].length
  | a, r :: m, 0, _, _ => by simp [marksS, tot]
  | a, r :: m, i + 1, h, h' => by
    simp only [marksS, List.getElem_cons_succ, List.take_succ_cons, tot]
    rw [marksS_get (a + r.length) m i (by simpa using h)]
    rw [Nat.add_assoc]

theorem rows_len {w : World} {A : Option Addr} {n : Nat} {E : TypeId} {xs : List (List Int)} (h : Kd.C (Kd.slice E (Kd.int .i64)) w A n xs) : xs.length ≤ 9223372036854775807 ∧ ∀ r ∈ xs, r.length ≤ 9223372036854775807 := by
  have hn := h.1
  have hm := h.2.1
  refine ⟨by omega, fun r hr => ?_⟩
  obtain ⟨i, hi, rfl⟩ := List.getElem_of_mem hr
  obtain ⟨_, _, _, _, _, _, hC⟩ := Mx.rows_at h i (by omega) hi
  have := hC.2.1
  have := hC.1
  omega
theorem small_rows {m : List (List Int)} (h : m.length + tot m ≤ 1048576) : m.length ≤ 1048576 ∧ (∀ r ∈ m, r.length ≤ 1048576) ∧ tot m ≤ 1048576 := by
  have ht : ∀ (l : List (List Int)), ∀ r ∈ l, r.length ≤ tot l := by
    intro l
    induction l with
    | nil => intro r hr; cases hr
    | cons x l ih =>
      intro r hr
      rcases List.mem_cons.1 hr with rfl | hr
      · simp only [tot]; omega
      · have := ih r hr; simp only [tot]; omega
  exact ⟨by omega, fun r hr => by have := ht m r hr; omega, by omega⟩
theorem le_small {m : List (List Int)} {k : Nat} (h : m.length ≤ k ∧ ∀ r ∈ m, r.length ≤ k) (hk : k ≤ 1000 := by decide) : m.length ≤ 1000 ∧ ∀ r ∈ m, r.length ≤ 1000 := ⟨by omega, fun r hr => by have := h.2 r hr; omega⟩

def spec_UpdatePiece.f (a b : Int) (l : List (List Int)) (k : Int) (p : List Int) : Option (List (List Int) × Bool) := if l.length ≤ 1048576 ∧ (∀ r ∈ l, r.length ≤ 1048576) ∧ p.length ≤ 1048576 then some (updV a b l k p) else none
theorem infoI : (Try.prog.info? 3).map (fun i => (i.zero, i.size, i.bytes)) = some (some (.int .i64 0), 1, 8) := by kernel_rfl
/-- A multiple of a row that came in is added to a row of one's own. -/
theorem addRow_e {w0 w : World} {L : List (Value × Env.It)} (E : Env.Env 23 3 w0 w L) (i : Nat) {A : Option Addr} {c : Nat} {x y : List Nat} (hi : L[i]? = some (.slice A (Poly.up x).length c, .row (Poly.up x))) (f : Nat) (A1 : Option Addr) (c1 : Nat) (z : Int) (hz : z = (f : Int)) (hC : (Kd.int .i64).C w0 A1 (Poly.up y).length (Poly.up y)) (hc : (Poly.up y).length ≤ c1)
    (hf : f < 256) (hx : Poly.AllB x) (hy : Poly.AllB y) (hl : x.length = y.length) (hb : x.length ≤ 1000) :
    Calls Try.prog 131 #[.slice A (Poly.up x).length c, .slice A1 (Poly.up y).length c1, .int .i64 z] w fun e w' => e = .returned (.tuple #[]) ∧ Env.Env 23 3 w0 w' (L.set i (.slice A (Poly.up x).length c, .row (Poly.up (Mat.radd f x y)))) := by
  subst hz
  obtain ⟨lo, hi', h1, h2, hR, h4⟩ := E.turn i hi
  obtain ⟨K, hK⟩ := (spec_l2Add_ev x y f hf hx hy hl hb).rounds
  have hcall := spec_l2Add.calls K (fun k => some k = (Value.slice A (Poly.up x).length c).ownBlock) (.slice A (Poly.up x).length c) (Poly.up x) A1 c1 (Poly.up y) (f : Int) _ w0 w E.1 (Kd.R_lower (Kd.R_tight rfl hR) h1) (Kd.C_kept_came (Kd.heap_int _) hC E.1 (fun k hk => Nat.le_trans h1 (Mx.row_lo hR k hk.symm).1)) hc hK
  refine hcall.mono fun e w' => ?_
  rintro ⟨he, hR1, hb1, hk1⟩
  refine ⟨he, h4 w' (.row (Poly.up (Mat.radd f x y))) (Mx.Only.of_kept E.1 hb1 hk1 (fun k hk => ?_)) (Mx.row_base hR1 (fun k hk => ?_))⟩
  · exact ⟨(Mx.row_lo hR k hk.symm).1, (Mx.row_lo hR k hk.symm).2.1⟩
  · exact ⟨(Mx.row_lo hR k hk).1, (Mx.row_lo hR k hk).2.1⟩
set_option maxHeartbeats 8000000 in
set_option maxRecDepth 100000 in
theorem spec_UpdatePiece.calls (a0 a1 : Int) (A2 : Option Addr) (c2 : Nat) (l2 : List (List Int)) (a3 : Int) (A4 : Option Addr) (c4 : Nat) (l4 : List Int) (r1 : List (List Int)) (r2 : Bool) (w : World) (hr2 : Kd.C (Kd.slice 3 (Kd.int .i64)) w A2 l2.length l2) (hc2 : l2.length ≤ c2) (hr4 : (Kd.int .i64).C w A4 l4.length l4) (hc4 : l4.length ≤ c4) (h : spec_UpdatePiece.f a0 a1 l2 a3 l4 = some (r1, r2)) :
    Calls Try.prog 53 #[.int .i64 a0, .int .i64 a1, .slice A2 l2.length c2, .int .i64 a3, .slice A4 l4.length c4] w fun e w' => ∃ v0_ : Value, e = .returned (.tuple #[v0_, .bool r2]) ∧ Kd.S (Kd.slice 3 (Kd.int .i64)) 23 w' w.heap.size (fun _ => True) v0_ r1 ∧ Below w.heap.size w w' := by
  have HR2 := Aside0.mk hr2
  have HC2 := Aside0.mk hc2
  have HR4 := Aside0.mk hr4
  have HC4 := Aside0.mk hc4
  clear hr2 hc2 hr4 hc4
  unfold spec_UpdatePiece.f at h
  split at h
  rotate_left
  · cases h
  rename_i hsz
  have H0 := Option.some.inj h
  clear h
  have h1 := spec_l3Size_eq a0 a1
  obtain ⟨K2, h2⟩ := (spec_l3Pieces_ev l2 (a0 + a1) (by omega) (fun r h => by have := hsz.2.1 r h; omega)).rounds
  obtain ⟨K6, h6⟩ := (spec_l1All_ev l4 (by omega)).rounds
  have HZ := Aside0.mk hsz
  clear hsz
  have no : ∀ {x : Bool}, updOk a0 a1 l2 a3 l4 = x → x = false → r1 = [] ∧ r2 = false := fun hx he => by
    rw [updV_j a0 a1 l2 a3 l4 (hx.trans he)] at H0
    injection H0 with e1 e2
    exact ⟨e1.symm, e2.symm⟩
  cases g1 : isC a0 a1 with
  | false =>
    obtain ⟨rfl, rfl⟩ := no rfl (by unfold updOk; rw [g1]; rfl)
    rw [g1] at h1
    have H1 := Aside0.mk h1
    clear no H0 h1 h2 h6 g1
    go_enter Try.func53, Try.ntmps53
    go_wp2_with (go_at_call 129; refine (spec_l3Size.calls _ _ false _ H1.out).mono ?_; rintro e w' ⟨rfl, ⟨nd1, rfl⟩⟩)
    go_ret2
    exact ⟨_, rfl, Kd.S_nil _ _ _ _ _, by repeat (first | exact Below.refl _ _ | apply pw_below_drewN)⟩
  | true =>
    have hb := isC_bd g1
    rw [g1] at h1
    have H1 := Aside0.mk h1
    obtain ⟨⟨b1, b2⟩, b3, b4⟩ := hb
    cases g2 : areP l2 && decide ((l2.length : Int) = a0 + a1) with
    | false =>
      obtain ⟨rfl, rfl⟩ := no rfl (by unfold updOk; rw [g1, g2]; rfl)
      rw [g2] at h2
      have H2 := Aside0.mk h2
      clear no H0 h1 h2 h6 g1 g2
      go_enter Try.func53, Try.ntmps53
      go_wp2_with (first | (go_at_call 129; refine (spec_l3Size.calls _ _ true _ H1.out).mono ?_; rintro e w' ⟨rfl, ⟨nd1, rfl⟩⟩) | (go_at_call 119; refine (spec_l3Pieces.calls K2 _ c2 l2 _ false _ (Kd.C_drewN HR2.out _) HC2.out H2.out).mono ?_; rintro e w' ⟨rfl, ⟨nd2, rfl⟩⟩))
      go_ret2
      exact ⟨_, rfl, Kd.S_nil _ _ _ _ _, by repeat (first | exact Below.refl _ _ | apply pw_below_drewN)⟩
    | true =>
      rw [g2] at h2
      have H2 := Aside0.mk h2
      have g2b := g2
      rw [Bool.and_eq_true, decide_eq_true_eq] at g2b
      have hm : 0 < l2.length := by omega
      obtain ⟨ad, A1, c1, rfl, hx, hl1, hi1⟩ := Mx.rows_at HR2.out 0 hm hm
      have e0 : l2.getD 0 [] = l2[0] := by rw [List.getD_eq_getElem?_getD, List.getElem?_eq_getElem hm]; rfl
      rw [Addr.add_zero'] at hx
      have p0 := eq_true hm
      have p1 : (0 < (l2.length : Int)) = True := eq_true (by omega)
      have p2 : decide (0 < (l2.length : Int)) = true := decide_eq_true (by omega)
      have p3 : decide (0 < l2.length) = true := decide_eq_true hm
      by_cases g3 : 0 ≤ a3
      rotate_left
      · obtain ⟨rfl, rfl⟩ := no rfl (by unfold updOk; rw [g1, g2, decide_eq_false (by omega)]; rfl)
        generalize l2[0] = r0 at hx hl1 hi1
        have q3 : decide (a3 < 0) = true := decide_eq_true (by omega)
        clear no H0 h1 h2 h6 g1 g2 g2b g3 e0 hi1 hl1 hm
        go_enter Try.func53, Try.ntmps53
        go_wp2_with (first | (go_at_call 129; refine (spec_l3Size.calls _ _ true _ H1.out).mono ?_; rintro e w' ⟨rfl, ⟨nd1, rfl⟩⟩) | (go_at_call 119; refine (spec_l3Pieces.calls K2 _ c2 l2 _ true _ (Kd.C_drewN HR2.out _) HC2.out H2.out).mono ?_; rintro e w' ⟨rfl, ⟨nd2, rfl⟩⟩))
        go_ret2
        exact ⟨_, rfl, Kd.S_nil _ _ _ _ _, by repeat (first | exact Below.refl _ _ | apply pw_below_drewN)⟩
      have q3 : decide (a3 < 0) = false := decide_eq_false (by omega)
      by_cases g4 : a3 < a0
      rotate_left
      · obtain ⟨rfl, rfl⟩ := no rfl (by unfold updOk; rw [g1, g2, decide_eq_false (by omega)]; rfl)
        generalize l2[0] = r0 at hx hl1 hi1
        have q4 : decide (a0 ≤ a3) = true := decide_eq_true (by omega)
        have q4b : decide (a3 ≥ a0) = true := decide_eq_true (by omega)
        clear no H0 h1 h2 h6 g1 g2 g2b g3 g4 e0 hi1 hl1 hm
        go_enter Try.func53, Try.ntmps53
        go_wp2_with (first | (go_at_call 129; refine (spec_l3Size.calls _ _ true _ H1.out).mono ?_; rintro e w' ⟨rfl, ⟨nd1, rfl⟩⟩) | (go_at_call 119; refine (spec_l3Pieces.calls K2 _ c2 l2 _ true _ (Kd.C_drewN HR2.out _) HC2.out H2.out).mono ?_; rintro e w' ⟨rfl, ⟨nd2, rfl⟩⟩))
        go_ret2
        exact ⟨_, rfl, Kd.S_nil _ _ _ _ _, by repeat (first | exact Below.refl _ _ | apply pw_below_drewN)⟩
      have q4 : decide (a0 ≤ a3) = false := decide_eq_false (by omega)
      have q4b : decide (a3 ≥ a0) = false := decide_eq_false (by omega)
      have e3' : decide (0 ≤ a3 ∧ a3 < a0) = true := decide_eq_true ⟨g3, g4⟩
      by_cases g5 : l4.length = l2[0].length
      rotate_left
      · obtain ⟨rfl, rfl⟩ := no rfl (by unfold updOk; rw [g1, g2, e3', e0, decide_eq_false g5]; rfl)
        generalize l2[0] = r0 at hx hl1 hi1 g5
        have q5 : ((l4.length : Int) != (r0.length : Int)) = true := by rw [bne_iff_ne]; omega
        have q5b : (l4.length != r0.length) = true := by rw [bne_iff_ne]; exact g5
        clear no H0 h1 h2 h6 g1 g2 g2b g3 g4 g5 hm e0 hi1 hl1 e3'
        go_enter Try.func53, Try.ntmps53
        go_wp2_with (first | (go_at_call 129; refine (spec_l3Size.calls _ _ true _ H1.out).mono ?_; rintro e w' ⟨rfl, ⟨nd1, rfl⟩⟩) | (go_at_call 119; refine (spec_l3Pieces.calls K2 _ c2 l2 _ true _ (Kd.C_drewN HR2.out _) HC2.out H2.out).mono ?_; rintro e w' ⟨rfl, ⟨nd2, rfl⟩⟩))
        go_ret2
        exact ⟨_, rfl, Kd.S_nil _ _ _ _ _, by repeat (first | exact Below.refl _ _ | apply pw_below_drewN)⟩
      have e5 : decide (l4.length = (l2.getD 0 []).length) = true := by rw [e0]; exact decide_eq_true g5
      have q5 : ((l4.length : Int) != (l2[0].length : Int)) = false := by rw [g5]; simp
      have q5b : (l4.length != l2[0].length) = false := by rw [g5]; simp
      cases g6 : l4.all isB with
      | false =>
        obtain ⟨rfl, rfl⟩ := no rfl (by unfold updOk; rw [g1, g2, e3', e5, g6]; rfl)
        rw [g6] at h6
        have H6 := Aside0.mk h6
        generalize l2[0] = r0 at hx hl1 hi1 g5 q5 q5b
        clear no H0 h1 h2 h6 g1 g2 g2b g3 g4 g5 g6 hm e0 hi1 hl1 e3' e5
        go_enter Try.func53, Try.ntmps53
        go_wp2_with (first | (go_at_call 129; refine (spec_l3Size.calls _ _ true _ H1.out).mono ?_; rintro e w' ⟨rfl, ⟨nd1, rfl⟩⟩) | (go_at_call 119; refine (spec_l3Pieces.calls K2 _ c2 l2 _ true _ (Kd.C_drewN HR2.out _) HC2.out H2.out).mono ?_; rintro e w' ⟨rfl, ⟨nd2, rfl⟩⟩) | (go_at_call 86; refine (spec_l1All.calls K6 A4 c4 l4 false _ (Kd.C_drewN HR4.out _) HC4.out H6.out).mono ?_; rintro e w' ⟨rfl, ⟨nd3, rfl⟩⟩))
        go_ret2
        exact ⟨_, rfl, Kd.S_nil _ _ _ _ _, by repeat (first | exact Below.refl _ _ | apply pw_below_drewN)⟩
      | true =>
        have hok : updOk a0 a1 l2 a3 l4 = true := by unfold updOk; rw [g1, g2, e3', e5, g6]; rfl
        rw [updV_j a0 a1 l2 a3 l4 hok, if_pos rfl] at H0
        rw [g6] at h6
        have H6 := Aside0.mk h6
        injection H0 with H1a H2a
        subst H1a H2a
        obtain ⟨d, e, kk, c, m, q, rfl, rfl, rfl, hl2, hl4, hmB, hql, hq, z1, z2, z3, z4, z5, z6, z7⟩ := updOk_up hok
        generalize l2[0] = r0 at hx hl1 hi1 g5 q5 q5b
        clear no h1 h2 h6 g1 g2 g2b g3 g4 g5 g6 hm e0 hi1 hl1 e3' e5 hok
        have HH2 := Aside0.mk hl2
        have HH4 := Aside0.mk hl4
        clear hl2 hl4
        go_enter Try.func53, Try.ntmps53
        go_wp2_with (first | (go_at_call 129; refine (spec_l3Size.calls _ _ true _ H1.out).mono ?_; rintro e w' ⟨rfl, ⟨nd1, rfl⟩⟩) | (go_at_call 119; refine (spec_l3Pieces.calls K2 _ c2 l2 _ true _ (Kd.C_drewN HR2.out _) HC2.out H2.out).mono ?_; rintro e w' ⟨rfl, ⟨nd2, rfl⟩⟩) | (go_at_call 86; refine (spec_l1All.calls K6 A4 c4 l4 true _ (Kd.C_drewN HR4.out _) HC4.out H6.out).mono ?_; rintro e w' ⟨rfl, ⟨nd3, rfl⟩⟩))
        have HB := Aside0.mk (show kk < m.length ∧ m.length = d + e from ⟨by omega, z1⟩)
        have HM := Aside0.mk hmB
        have HQ := Aside0.mk (show q.length = c ∧ Poly.AllB q from ⟨hql, hq⟩)
        have HN := Aside0.mk (show d ≤ 6 ∧ e ≤ 4 ∧ c ≤ 32 ∧ kk < d from ⟨z4, z6, z7, z2⟩)
        have HLL := Aside0.mk (show l2.length = m.length from by rw [HH2.out, upM_length])
        clear b1 b2 b3 b4 z1 z2 z3 z4 z5 z6 z7 hmB hql hq
        obtain ⟨K7, h7⟩ := (spec_l3Matrix_ev d e (by have := HN.out; omega) (by have := HN.out; omega)).rounds
        obtain ⟨K8, h8⟩ := (spec_l2Own_ev l2 HZ.out.1 HZ.out.2.1).rounds
        have H7 := Aside0.mk h7
        have H8 := Aside0.mk h8
        clear h7 h8
        have ENV := Aside0.mk ((Env.Env.start (e := 23) (t := 3) w).drewN (nd1 + nd2 + nd3))
        refine (spec_l3Matrix.calls K7 _ _ (upM (codeM d e)) _ H7.out).mono ?_
        rintro e1 w1 ⟨v1, rfl, hN_, hb_⟩
        obtain ⟨B1, d1, rfl, hE_⟩ := ENV.out.madeN hN_ hb_
        replace ENV := Aside0.mk hE_
        clear hE_ hN_ hb_
        go_wp2_with fail
        refine (spec_l2Own.calls K8 (some ad) c2 l2 l2 _ (ENV.out.came HR2.out) HC2.out H8.out).mono ?_
        rintro e2 w2 ⟨v2, rfl, hS_, hb_⟩
        obtain ⟨B2, d2, rfl, hE_⟩ := ENV.out.madeS (by decide) hS_ hb_
        replace ENV := Aside0.mk hE_
        clear hE_ hS_ hb_
        have hkl : kk < l2.length := by have := HB.out; have := HLL.out; omega
        obtain ⟨ad', A3, c3, ead, hxk, hlk, hrk⟩ := Mx.rows_at HR2.out kk hkl hkl
        injection ead with ead
        subst ead
        have erow : l2[kk] = Poly.up (m.getD kk []) := by
          have h9 : (upM m).getD kk [] = Poly.up (m.getD kk []) := upM_getD m kk
          rw [← HH2.out, List.getD_eq_getElem?_getD, List.getElem?_eq_getElem hkl] at h9
          exact h9
        have hxk2 := pw_cell_below ENV.out.1 hxk
        have HRK := Aside0.mk hrk
        generalize l2[kk] = rk at hxk2 hlk HRK erow hxk hrk
        have HRL := Aside0.mk (show rk.length ≤ 32 by have h8 := (HM.out.get HB.out.1).1; have h9 := HN.out; rw [erow, Poly.up_length]; omega)
        have HEK := Aside0.mk erow
        clear erow
        have pk : ((kk : Int) < (l2.length : Int)) = True := eq_true (by omega)
        have pk2 : (kk < l2.length) = True := eq_true hkl
        have pk3 : (0 ≤ (kk : Int)) = True := eq_true (by omega)
        clear hx hxk hrk hkl q3 q4 q4b q5 q5b p0 p1 p2 p3
        go_wp2_with (first
          | ((with_reducible refine gate_dst (N := 56) rfl ?_); refine Kd.R_lit (Kd.int .i64) _ 3 ?hg (N := 56) ?hd (xs := ([] : List Int)) (inner := []) (ok := fun _ => True) (okp := fun _ => True) ?hr ?hp (fun _ hk => hk) trivial (Below.refl _ _) (Nat.le_refl _) (by simp) ?_; (case hd => rfl); (case hg => rfl); (case hr => first | (go_simp; done) | (go_simp; rfl)); (case hp => exact (Reps.none _ _)); intro v56 w56 ho56 hb56 _ _; have HO56 := Aside0.mk ho56; have HB56 := Aside0.mk hb56; have hxk3 := pw_cell_below hb56 hxk2; have HRK3 := Aside0.mk (Kd.C_below HRK.out (ENV.out.below hb56).1); clear ho56 hb56 hxk2)
          | ((with_reducible refine gate_builtin (b := .append) (xs := #[.tmp 56, .tmp 60]) rfl ?_); at_builtin; refine Kd.R_append_rows (Kd.int .i64) (w0 := w2) w2.heap.size rfl (.tmp 56) (.tmp 60) 23 3 (.int .i64 0) 8 rfl Try.underlying23 infoI rfl (by decide) (by omega) v56 [] rk _ _ _ (fun _ => True) (fun _ => False) rfl rfl ?aO ?aR (fun _ _ h => h) (fun _ h => h.elim) ?aF ?aB ?aS ?aL ?_; (case aO => exact HO56.out); (case aR => exact HRK3.out); (case aF => exact (fun _ _ => trivial)); (case aB => exact HB56.out); (case aS => exact HB56.out.size); (case aL => have h8 := HRL.out; simp only [List.length_nil]; omega); intro v60 w60 ho hb hg hat; have HO60 := Aside0.mk ho; have HB60 := Aside0.mk hb; clear ho hb hg hat hxk3; obtain ⟨B3, d3, rfl, hE3⟩ := ENV.out.madeR HO60.out HB60.out; have ENV3 := Aside0.mk hE3; clear hE3))
        have hE3 := ENV3.out
        rw [List.nil_append] at hE3
        obtain ⟨x0, hx0⟩ : ∃ x0, x0 = m.getD kk [] := ⟨_, rfl⟩
        have e9 := HEK.out
        rw [← hx0] at e9
        have e10 := HH4.out
        have e11 := HH2.out
        clear HEK HH2 HH4 ENV3 HO60 HB60 HO56 HB56
        subst e9 e10 e11
        have hxr := HM.out.get HB.out.1
        rw [← hx0] at hxr
        have HX0 := Aside0.mk hx0
        clear hx0
        refine (addRow_e hE3 0 rfl 1 A4 c4 1 rfl HR4.out HC4.out (by decide) hxr.2 HQ.out.2 (by rw [hxr.1, HQ.out.1]) (by have := HN.out; omega)).mono ?_
        rintro e3 w3 ⟨rfl, hE_⟩
        have hcl : (chg x0 q).length = c := by unfold chg; rw [Mat.radd_length _ (by rw [hxr.1, HQ.out.1])]; exact hxr.1
        have hlen : (Poly.up x0).length = (Poly.up (chg x0 q)).length := by rw [Poly.up_length, Poly.up_length, hcl, hxr.1]
        replace ENV := Aside0.mk (show Env.Env 23 3 w w3 [(.slice B3 (Poly.up (chg x0 q)).length d3, .row (Poly.up (chg x0 q))), (.slice B2 (upM m).length d2, .mat (upM m)), (.slice B1 (upM (codeM d e)).length d1, .ro (upM (codeM d e)))] by rw [← hlen]; exact hE_)
        rw [hlen]
        have HCL := Aside0.mk (show (chg x0 q).length = c ∧ Poly.AllB (chg x0 q) from ⟨hcl, chg_bytes hxr.2⟩)
        clear hE_ hE3 hcl hlen hxr HR2 HR4 HRK HRL hlk
        go_wp2
        go_loopg [67] m.length (fun gg v67 wr => ∃ i : Nat, i ≤ m.length ∧ m.length - i ≤ gg ∧ v67 = .int .i64 i ∧ Aside0 (Env.Env 23 3 w wr [(.slice B3 (Poly.up (chg x0 q)).length d3, .row (Poly.up (chg x0 q))), (.slice B2 (upM m).length d2, .mat (upM (updL (chg x0 q) ((Mat.col kk (codeM d e)).take i) (m.take i) ++ m.drop i))), (.slice B1 (upM (codeM d e)).length d1, .ro (upM (codeM d e)))]))
        case atStart => exact ⟨0, Nat.zero_le _, by omega, rfl, ⟨by have := ENV.out; simpa [updL] using this⟩⟩
        case round =>
          clear ENV
          obtain ⟨i, hi', hg, rfl, ENV⟩ := hrel
          by_cases hlt : i < m.length
          · have hcol : (Mat.col kk (codeM d e)).length = m.length := by rw [Mat.col_length, codeM_length, HB.out.2]
            have hul : (updL (chg x0 q) ((Mat.col kk (codeM d e)).take i) (m.take i)).length = i := by rw [updL_length _ (by simp only [List.length_take]; omega), List.length_take]; omega
            have hYl : (updL (chg x0 q) ((Mat.col kk (codeM d e)).take i) (m.take i) ++ m.drop i).length = m.length := by rw [List.length_append, hul, List.length_drop]; omega
            have hYi : (updL (chg x0 q) ((Mat.col kk (codeM d e)).take i) (m.take i) ++ m.drop i).getD i [] = m.getD i [] := by
              rw [List.getD_eq_getElem?_getD, List.getElem?_append_right (by omega), hul, Nat.sub_self, List.drop_eq_getElem_cons hlt, List.getD_eq_getElem?_getD, List.getElem?_eq_getElem hlt]; rfl
            obtain ⟨hrl, hrb⟩ := HM.out.get hlt
            have hf : (Mat.col kk (codeM d e)).getD i 0 < 256 := Poly.AllB.get (Mat.col_bytes (codeM_MB d e) kk) i
            have hset : (updL (chg x0 q) ((Mat.col kk (codeM d e)).take i) (m.take i) ++ m.drop i).set i (Mat.radd ((Mat.col kk (codeM d e)).getD i 0) (m.getD i []) (chg x0 q)) = updL (chg x0 q) ((Mat.col kk (codeM d e)).take (i + 1)) (m.take (i + 1)) ++ m.drop (i + 1) := by
              rw [List.set_append_right _ _ (by omega), hul, Nat.sub_self, List.drop_eq_getElem_cons hlt, List.set_cons_zero, List.take_succ_eq_append_getElem hlt, List.take_succ_eq_append_getElem (by omega : i < (Mat.col kk (codeM d e)).length), updL_snoc _ _ _ (by simp only [List.length_take]; omega), List.append_assoc, show m.getD i [] = m[i] by rw [List.getD_eq_getElem?_getD, List.getElem?_eq_getElem hlt]; rfl, show (Mat.col kk (codeM d e)).getD i 0 = (Mat.col kk (codeM d e))[i] by rw [List.getD_eq_getElem?_getD, List.getElem?_eq_getElem (by omega : i < (Mat.col kk (codeM d e)).length)]; rfl]
              rfl
            replace ENV := Aside0.mk (ENV.out.drewN 1)
            obtain ⟨g2, Au, cu, hA2, hcu, hfu, hg2, hcu2, hRu, hupd, hkeep⟩ := ENV.out.mrow (by decide) (j := 1) rfl (i := i) (by rw [upM_length, hYl]; exact hlt)
            rw [upM_getD, hYi] at hcu hcu2 hRu hupd hkeep
            obtain ⟨hcc, hCc⟩ := ENV.out.Cq (by decide) 2 (m := upM (codeM d e)) rfl rfl
            have hil : i < (upM (codeM d e)).length := by rw [upM_length, codeM_length]; have := HB.out; omega
            obtain ⟨ad1, A5, c5, rfl, hx5, hl5, hr5⟩ := Mx.rows_at hCc i hil hil
            have e5 : (upM (codeM d e))[i] = Poly.up ((codeM d e).getD i []) := by
              have h9 : (upM (codeM d e)).getD i [] = Poly.up ((codeM d e).getD i []) := upM_getD _ i
              rw [List.getD_eq_getElem?_getD, List.getElem?_eq_getElem hil] at h9
              exact h9
            have hcr := (codeM_MB d e).get (i := i) (by rw [upM_length] at hil; exact hil)
            rw [e5] at hx5 hl5 hr5
            obtain ⟨ad5, e6, hx6⟩ := Kd.at_int hr5 (kk : Int) (by omega) (by rw [Poly.up_length, hcr.1]; have := HN.out; omega)
            cases e6
            rw [Poly.rd_up, Int.toNat_natCast, ← Mat.col_at] at hx6
            have pc1 : ((kk : Int) < ((Poly.up ((codeM d e).getD i [])).length : Int)) = True := eq_true (by rw [Poly.up_length, hcr.1]; have := HN.out; omega)
            have pc2 : (kk < (Poly.up ((codeM d e).getD i [])).length) = True := eq_true (by rw [Poly.up_length, hcr.1]; have := HN.out; omega)
            have hrc : (m.getD i []).length = (chg x0 q).length := by rw [hrl, HCL.out.1]
            have hi1 : (i : Int) < ((upM m).length : Int) := by rw [upM_length]; omega
            have hi100 : (i : Int) < 100 := by have := HB.out; have := HN.out; omega
            have hi0 : 0 ≤ (i : Int) := by omega
            have p1 : decide ((i : Int) < ((upM m).length : Int)) = true := decide_eq_true hi1
            have p2 : decide (i < (upM m).length) = true := decide_eq_true (by omega)
            have p3 : ((i : Int) < ((upM m).length : Int)) = True := eq_true hi1
            have p4 : (i < (upM m).length) = True := eq_true (by omega)
            have p5 : ((i : Int) < ((upM (codeM d e)).length : Int)) = True := eq_true (by omega)
            have p6 : (i < (upM (codeM d e)).length) = True := eq_true hil
            have p7 : (0 ≤ (i : Int)) = True := eq_true (by omega)
            obtain ⟨K9, h9⟩ := (spec_l2Add_ev (m.getD i []) (chg x0 q) _ hf hrb HCL.out.2 hrc (by have := HN.out; omega)).rounds
            have hcall := spec_l2Add.calls K9 (fun k => some k = (Value.slice Au (Poly.up (m.getD i [])).length cu).ownBlock) (.slice Au (Poly.up (m.getD i [])).length cu) (Poly.up (m.getD i [])) B3 d3 (Poly.up (chg x0 q)) _ _ w (wr.drewN 1) ENV.out.1 hRu (fun W_ hk_ => by
              obtain ⟨lo_, hi_, hh_⟩ := hkeep W_ 0 _ _ (by decide) rfl hk_
              exact (Kd.R_reads' hh_).2.2) (ENV.out.capr 0 rfl) h9
            have HU := Aside0.mk hupd
            have HST := Aside0.mk hset
            generalize (Mat.col kk (codeM d e)).getD i 0 = f at hx6 hcall HST
            clear hupd hkeep hset hYl hYi hul hcol hCc hr5 e5 hcr hrc h9 hf hRu hfu hrl hrb hcc hil hi1 hl5
            generalize (codeM d e).getD i [] = cr at hx5 pc1 pc2
            generalize m.getD i [] = mi at hcu hcall HU HST
            subst hA2
            have hcu0 : wr.cell? ⟨g2, i, none⟩ = some (.slice Au (Poly.up mi).length cu) := hcu
            have hx50 : wr.cell? (ad1.add i) = some (.slice (some ad5) (Poly.up cr).length c5) := hx5
            have hx60 : wr.cell? (ad5.add kk) = some (.int .i64 (f : Int)) := hx6
            go_wp2_with fail
            go_still_tail 12, (by kernel_rfl)
            change wpList _ _ _ _ _ (wr.drewN 1)
            go_wp2_with fail
            refine hcall.mono ?_
            rintro e9 w9 ⟨rfl, hR9, hb9, hk9⟩
            have hE9 := HU.out w9 _ hb9 hk9 hR9
            rw [upM_set, HST.out] at hE9
            replace ENV := Aside0.mk hE9
            clear hE9 hR9 hb9 hk9 HU HST hcall
            go_wp2
            go_roundg (m.length - (i + 1))
            case measure => omega
            case rel => exact ⟨i + 1, by omega, by omega, by go_num, ENV⟩
          · obtain rfl : i = m.length := by omega
            have p1 : decide ((m.length : Int) < ((upM m).length : Int)) = false := decide_eq_false (by rw [upM_length]; omega)
            have p2 : decide (m.length < (upM m).length) = false := decide_eq_false (by rw [upM_length]; omega)
            have hcol : (Mat.col kk (codeM d e)).length = m.length := by rw [Mat.col_length, codeM_length, HB.out.2]
            have eU : updL (chg x0 q) ((Mat.col kk (codeM d e)).take m.length) (m.take m.length) ++ m.drop m.length = updM d e m kk q := by
              rw [List.take_length, List.drop_length, List.append_nil, ← hcol, List.take_length, HX0.out]; rfl
            have hE9 := ENV.out
            rw [eU] at hE9
            have eR : upM (updM (d : Int).toNat (e : Int).toNat (dnM (upM m)) (kk : Int).toNat ((Poly.up q).map Int.toNat)) = upM (updM d e m kk q) := by rw [dnM_upM, dn_up, Int.toNat_natCast, Int.toNat_natCast, Int.toNat_natCast]
            obtain ⟨lo_, hi_, hlo_, _, ⟨vs_, hM_⟩, _⟩ := hE9.turn 1 rfl
            have hS_ := Kd.S_mono (ok' := fun _ => True) (Kd.S_lower (hM_.S (by decide)) hlo_) (fun _ _ => trivial)
            rw [← eR] at hS_
            have HS_ := Aside0.mk hS_
            have HBE := Aside0.mk hE9.1
            clear hS_ hE9 hM_ eR eU hcol
            go_wp2
            go_ret2
            exact ⟨_, rfl, HS_.out, HBE.out⟩

def impl_DistanceOf.f (l0 l1 : List (List Int)) : Option (Int × Bool) := if (l0.length ≤ 1048576 ∧ ∀ r ∈ l0, r.length ≤ 1048576) ∧ l1.length ≤ 1048576 then some (distV l0 l1) else none
theorem impl_DistanceOf_eq (l0 l1 : List (List Int)) (h1 : l0.length ≤ 1048576) (h2 : ∀ r ∈ l0, r.length ≤ 1048576) (h3 : l1.length ≤ 1048576) : impl_DistanceOf.f l0 l1 = some (distV l0 l1) := if_pos ⟨⟨h1, h2⟩, h3⟩
theorem unlikeN_drop (a b : List (List Int)) (i : Nat) (ha : i < a.length) (hb : i < b.length) : unlikeN (a.drop i) (b.drop i) = (if a.getD i [] = b.getD i [] then 0 else 1) + unlikeN (a.drop (i + 1)) (b.drop (i + 1)) := by
  rw [List.drop_eq_getElem_cons ha, List.drop_eq_getElem_cons hb, List.getD_eq_getElem?_getD, List.getD_eq_getElem?_getD, List.getElem?_eq_getElem ha, List.getElem?_eq_getElem hb]; rfl
set_option maxHeartbeats 8000000 in
set_option maxRecDepth 100000 in
theorem impl_DistanceOf.calls (A0 : Option Addr) (c0 : Nat) (l0 : List (List Int)) (A1 : Option Addr) (c1 : Nat) (l1 : List (List Int)) (r1 : Int) (r2 : Bool) (w : World) (hr0 : Kd.C (Kd.slice 3 (Kd.int .i64)) w A0 l0.length l0) (hc0 : l0.length ≤ c0) (hr1 : Kd.C (Kd.slice 3 (Kd.int .i64)) w A1 l1.length l1) (hc1 : l1.length ≤ c1) (h : impl_DistanceOf.f l0 l1 = some (r1, r2)) :
    Calls Try.prog 55 #[.slice A0 l0.length c0, .slice A1 l1.length c1] w fun e w' => e = .returned (.tuple #[.int .i64 r1, .bool r2]) ∧ Below w.heap.size w w' := by
  unfold impl_DistanceOf.f at h
  split at h
  rotate_left
  · cases h
  rename_i hs
  injection h with h
  have HL := Aside0.mk hs
  have HV := Aside0.mk h
  have HR0 := Aside0.mk hr0
  have HR1 := Aside0.mk hr1
  have HB := Aside0.mk (Below.refl w.heap.size w)
  obtain ⟨m, hm⟩ : ∃ m, m = l0 ++ l1 := ⟨_, rfl⟩
  have HM := Aside0.mk hm
  clear h hs hr0 hr1 hc0 hc1 hm
  go_enter Try.func55, Try.ntmps55
  go_upto_region 2 with (first | (go_at_call 133; refine (cloneSS_e A0 c0 l0 w HR0.out HL.out.1.1).mono ?_; rintro e w1 ⟨v, rfl, hR, hb⟩; have HO := Aside0.mk hR; have HB1 := Aside0.mk hb; clear hR hb) | ((with_reducible refine gate_builtin (b := .append) (xs := #[.tmp 10, .tmp 11]) rfl ?_); at_builtin; refine Kd.R_append_rows (Kd.fixed (Kd.slice 3 (Kd.int .i64)) w) (w0 := w) w.heap.size rfl (.tmp 10) (.tmp 11) 22 23 (.slice none 0 0) 24 rfl Try.underlying22 infoR rfl Nat.one_pos (by omega) v l0 l1 _ _ _ (fun _ => True) (fun _ => False) rfl rfl ?aO ?aR (fun _ _ h => h) (fun _ h => h.elim) ?aF ?aB ?aS ?aL ?_; (case aR => exact fixed_row HR1.out HB1.out); (case aB => exact HB1.out); (case aF => exact (fun _ _ => trivial)); (case aO => exact HO.out); (case aS => exact HB1.out.size); (case aL => have := HL.out; omega); intro v9 w9 ho hb hg hat; rw [← HM.out] at ho; obtain ⟨A9, c9, rfl, hl9, hC9⟩ := fixed_reads ho hb; have HB2 := Aside0.mk hb; have HP := Aside0.mk hC9; have HC9 := Aside0.mk hl9; clear ho hb hg hat hl9 hC9))
  go_cut [34] (fun v34 wc => ∃ b, v34 = .bool b ∧ Aside0 ((b = true → (0, false) = (r1, r2)) ∧ (b = false → l0.length = l1.length ∧ l0.length ≤ 10 ∧ (((unlikeN l0 l1 : Nat) : Int), true) = (r1, r2))) ∧ Aside0 (Below w.heap.size w wc))
  case first =>
    by_cases h1 : l0.length = l1.length
    rotate_left
    · have n1 : ((l0.length : Int) != (l1.length : Int)) = true := by rw [bne_iff_ne]; omega
      have HX := Aside0.mk (show distV l0 l1 = (0, false) from distV_off (fun h => h1 h.1))
      clear h1
      go_wp2
      go_meet
      case rel => exact ⟨true, rfl, ⟨fun _ => HX.out.symm.trans HV.out, fun h => by cases h⟩, HB2⟩
    have n1 : ((l0.length : Int) != (l1.length : Int)) = false := by rw [bne_eq_false_iff_eq]; omega
    by_cases h10 : l0.length ≤ 10
    rotate_left
    · have n2 : decide ((10 : Int) < (l0.length : Int)) = true := decide_eq_true (by omega)
      have n3 : decide (10 < l0.length) = true := decide_eq_true (by omega)
      have HX := Aside0.mk (show distV l0 l1 = (0, false) from distV_off (fun h => h10 h.2.1))
      clear h1 h10
      go_wp2
      go_meet
      case rel => exact ⟨true, rfl, ⟨fun _ => HX.out.symm.trans HV.out, fun h => by cases h⟩, HB2⟩
    have n2 : decide ((10 : Int) < (l0.length : Int)) = false := decide_eq_false (by omega)
    have n3 : decide (10 < l0.length) = false := decide_eq_false (by omega)
    have HE := Aside0.mk (And.intro h1 h10)
    by_cases h0 : 0 < l0.length
    · have n4 : decide ((0 : Int) < (l0.length : Int)) = true := decide_eq_true (by omega)
      have n5 : decide (0 < l0.length) = true := decide_eq_true h0
      have hE := impl_arePieces_eq m (m.length : Int) (by rw [HM.out, List.length_append]; omega)
      rw [decide_eq_true rfl, Bool.and_true] at hE
      cases hb : areP m with
      | true =>
        rw [hb] at hE
        have H9 := Aside0.mk hE
        have HX := Aside0.mk (distV_on h1 h10 (HM.out ▸ hb))
        clear h1 h10 h0 hE hb
        go_wp2_with (go_at_call 127; refine (impl_arePieces.calls A9 c9 m (m.length : Int) true _ HP.out HC9.out H9.out).mono ?_; rintro e w3 ⟨rfl, hb⟩; have HB3 := Aside0.mk (below_step HB2.out hb); clear hb)
        go_meet
        case rel => exact ⟨false, rfl, ⟨fun h => (by cases h), fun _ => ⟨HE.out.1, HE.out.2, HX.out.symm.trans HV.out⟩⟩, HB3⟩
      | false =>
        rw [hb] at hE
        have H9 := Aside0.mk hE
        have HX := Aside0.mk (show distV l0 l1 = (0, false) from distV_off (fun h => by rw [← HM.out, hb] at h; exact absurd h.2.2 (by decide)))
        clear h1 h10 h0 hE hb
        go_wp2_with (go_at_call 127; refine (impl_arePieces.calls A9 c9 m (m.length : Int) false _ HP.out HC9.out H9.out).mono ?_; rintro e w3 ⟨rfl, hb⟩; have HB3 := Aside0.mk (below_step HB2.out hb); clear hb)
        go_meet
        case rel => exact ⟨true, rfl, ⟨fun _ => HX.out.symm.trans HV.out, fun h => by cases h⟩, HB3⟩
    · have n4 : decide ((0 : Int) < (l0.length : Int)) = false := decide_eq_false (by omega)
      have n5 : decide (0 < l0.length) = false := decide_eq_false h0
      have e0 : l0 = [] := List.length_eq_zero_iff.1 (by omega)
      have e1 : l1 = [] := List.length_eq_zero_iff.1 (by omega)
      have HX := Aside0.mk (distV_on h1 h10 (by rw [e0, e1]; rfl))
      clear h1 h10 h0 e0 e1
      go_wp2
      go_meet
      case rel => exact ⟨false, rfl, ⟨fun h => (by cases h), fun _ => ⟨HE.out.1, HE.out.2, HX.out.symm.trans HV.out⟩⟩, HB2⟩
  case rest =>
    clear HO HB1 HB2 HP HC9 HB
    obtain ⟨b, rfl, HX, HB⟩ := hcut
    cases b with
    | true =>
      have hx := HX.out.1 rfl
      injection hx with e1 e2
      subst e1 e2
      go_wp2
      go_ret2
      exact ⟨rfl, HB.out⟩
    | false =>
      have HY := Aside0.mk (HX.out.2 rfl)
      have HRA := Aside0.mk (Kd.C_below HR0.out HB.out)
      have HRB := Aside0.mk (Kd.C_below HR1.out HB.out)
      have HWR := Aside0.mk HL.out.1.2
      clear HX HV HR0 HR1 HM HL
      go_wp2
      go_loopg [7, 37] l0.length (fun gg v7 v37 wq => ∃ i n : Nat, i ≤ l0.length ∧ l0.length - i ≤ gg ∧ v7 = .int .i64 n ∧ v37 = .int .i64 i ∧ Aside0 (n + unlikeN (l0.drop i) (l1.drop i) = unlikeN l0 l1 ∧ n ≤ i) ∧ Drawn0 wc wq)
      case atStart => exact ⟨0, 0, Nat.zero_le _, by omega, rfl, rfl, ⟨by rw [List.drop_zero, List.drop_zero, Nat.zero_add], Nat.le_refl _⟩, Drawn0.refl _⟩
      case round =>
        obtain ⟨i, n, hi', hgi, rfl, rfl, HN, ⟨m1, rfl⟩⟩ := hrel
        have z0 : (0 : Int) ≤ (i : Int) := by omega
        have z1 : (i : Int) ≤ 100 := by have := HY.out; omega
        have z2 : (n : Int) ≤ 100 := by have := HN.out; omega
        have z3 : (0 : Int) ≤ (n : Int) := by omega
        by_cases hlt : i < l0.length
        · have hlt1 : i < l1.length := by have := HY.out.1; omega
          have j1 : ((i : Int) < (l0.length : Int)) = True := eq_true (by omega)
          have j2 : (i < l0.length) = True := eq_true hlt
          have j3 : ((i : Int) < (l1.length : Int)) = True := eq_true (by omega)
          have j4 : (i < l1.length) = True := eq_true hlt1
          obtain ⟨ad, A5, c5, eA, hx, hl5, hC5⟩ := at_L1 HRA.out (i : Int) z0 (by omega)
          obtain ⟨bd, A6, c6, eB, hy, hl6, hC6⟩ := at_L1 HRB.out (i : Int) z0 (by omega)
          cases eA
          cases eB
          have e0 := unlikeN_drop l0 l1 i hlt hlt1
          have ex : rd_L1 l0 (i : Int) = l0.getD i [] := by unfold rd_L1; rw [Int.toNat_natCast]
          have ey : rd_L1 l1 (i : Int) = l1.getD i [] := by unfold rd_L1; rw [Int.toNat_natCast]
          rw [ex] at hx hl5 hC5
          rw [ey] at hy hl6 hC6
          have hxl : (l0.getD i []).length ≤ 1048576 := by
            rw [List.getD_eq_getElem?_getD, List.getElem?_eq_getElem hlt]; exact HWR.out _ (List.getElem_mem hlt)
          generalize l0.getD i [] = x at hx hl5 hC5 e0 hxl
          generalize l1.getD i [] = y at hy hl6 hC6 e0
          obtain ⟨K, hK⟩ := (slices_Equal_int_int_ev x y (by omega)).rounds
          have HX5 := Aside0.mk (And.intro hl5 hC5)
          have HX6 := Aside0.mk (And.intro hl6 hC6)
          rw [Int.toNat_natCast] at hx hy
          by_cases e : x = y
          · rw [decide_eq_true e] at hK
            have HK := Aside0.mk hK
            rw [if_pos e, Nat.zero_add] at e0
            have HE := Aside0.mk e0
            clear hK e0 ex ey hl5 hC5 hl6 hC6 hxl e
            go_wp2
            go_quiet (first | (go_at_call 134; refine (slices_Equal_int_int.calls K A5 c5 x A6 c6 y true _ ?side1 HX5.out.1 ?side2 HX6.out.1 HK.out).mono ?_; (case side1 => repeat (first | exact HX5.out.2 | (with_reducible refine Kd.C_drewN ?_ _) | (with_reducible refine Kd.C_drew ?_))); (case side2 => repeat (first | exact HX6.out.2 | (with_reducible refine Kd.C_drewN ?_ _) | (with_reducible refine Kd.C_drew ?_))); rintro e w' ⟨rfl, ⟨nd, rfl⟩⟩; (try first | exact ⟨rfl, _, World.drewN_drewN _ _ _⟩ | exact ⟨rfl, _, Eq.trans (World.drewN_drewN _ _ _) (congrArg (World.drewN _) (Nat.add_assoc _ _ _))⟩)))
            go_wp2
            go_roundg (l0.length - (i + 1))
            case measure => omega
            case rel => exact ⟨i + 1, n, by omega, by omega, rfl, by go_num, ⟨HE.out ▸ HN.out.1, by have := HN.out.2; omega⟩, by repeat (first | exact Drawn0.refl _ | apply Drawn0.step)⟩
          · rw [decide_eq_false e] at hK
            have HK := Aside0.mk hK
            rw [if_neg e] at e0
            have HE := Aside0.mk e0
            clear hK e0 ex ey hl5 hC5 hl6 hC6 hxl e
            go_wp2
            go_quiet (first | (go_at_call 134; refine (slices_Equal_int_int.calls K A5 c5 x A6 c6 y false _ ?side1 HX5.out.1 ?side2 HX6.out.1 HK.out).mono ?_; (case side1 => repeat (first | exact HX5.out.2 | (with_reducible refine Kd.C_drewN ?_ _) | (with_reducible refine Kd.C_drew ?_))); (case side2 => repeat (first | exact HX6.out.2 | (with_reducible refine Kd.C_drewN ?_ _) | (with_reducible refine Kd.C_drew ?_))); rintro e w' ⟨rfl, ⟨nd, rfl⟩⟩; (try first | exact ⟨rfl, _, World.drewN_drewN _ _ _⟩ | exact ⟨rfl, _, Eq.trans (World.drewN_drewN _ _ _) (congrArg (World.drewN _) (Nat.add_assoc _ _ _))⟩)))
            go_wp2
            go_roundg (l0.length - (i + 1))
            case measure => omega
            case rel => exact ⟨i + 1, n + 1, by omega, by omega, by go_num, by go_num, ⟨by have := HN.out.1; rw [HE.out] at this; omega, by have := HN.out.2; omega⟩, by repeat (first | exact Drawn0.refl _ | apply Drawn0.step)⟩
        · have j1 : ((i : Int) < (l0.length : Int)) = False := eq_false (by omega)
          have j2 : (i < l0.length) = False := eq_false hlt
          have hx := HY.out.2.2
          have hn : n = unlikeN l0 l1 := by
            have := HN.out.1
            rw [List.drop_of_length_le (by omega), List.drop_of_length_le (by have := HY.out.1; omega)] at this
            exact this
          rw [← hn] at hx
          injection hx with e1 e2
          subst e1 e2
          clear hn hlt
          go_wp2
          go_ret2
          exact ⟨rfl, pw_below_drewN HB.out _⟩

set_option maxHeartbeats 8000000 in
set_option maxRecDepth 100000 in
/-- The reference's DistanceOf, walked case by case. -/
theorem specDist_c (A0 : Option Addr) (c0 : Nat) (l0 : List (List Int)) (A1 : Option Addr) (c1 : Nat) (l1 : List (List Int)) (r1 : Int) (r2 : Bool) (w : World) (ha : l0.length ≤ 1048576) (har : ∀ r ∈ l0, r.length ≤ 1048576) (hb : l1.length ≤ 1048576) (hbr : ∀ r ∈ l1, r.length ≤ 1048576)
    (hr0 : Kd.C (Kd.slice 3 (Kd.int .i64)) w A0 l0.length l0) (hc0 : l0.length ≤ c0) (hr1 : Kd.C (Kd.slice 3 (Kd.int .i64)) w A1 l1.length l1) (hc1 : l1.length ≤ c1) (h : distV l0 l1 = (r1, r2)) :
    Calls Try.prog 59 #[.slice A0 l0.length c0, .slice A1 l1.length c1] w fun e w' => e = .returned (.tuple #[.int .i64 r1, .bool r2]) ∧ Below w.heap.size w w' := by
  have HR0 := Aside0.mk hr0
  have HC0 := Aside0.mk hc0
  have HR1 := Aside0.mk hr1
  have HC1 := Aside0.mk hc1
  have HB := Aside0.mk (Below.refl w.heap.size w)
  by_cases e : l0.length = l1.length
  rotate_left
  · rw [distV_off (fun g => e g.1)] at h
    injection h with h1 h2
    subst h1 h2
    have p1 : ((l0.length : Int) != (l1.length : Int)) = true := by rw [bne_iff_ne]; omega
    have p2 : ((l0.length : Int) = (l1.length : Int)) = False := eq_false (by omega)
    have p3 : (l0.length = l1.length) = False := eq_false e
    clear hr0 hr1 ha har hb hbr e
    go_enter Try.func59, Try.ntmps59
    go_wp2
    go_quiet (fail)
    go_wp2
    go_ret2
    exact ⟨rfl, by repeat (first | exact HB.out | apply pw_below_drewN | apply below_drew1)⟩
  have hi : (l0.length : Int) = (l1.length : Int) := by omega
  have p1 : ((l0.length : Int) != (l1.length : Int)) = false := by rw [bne_eq_false_iff_eq]; exact hi
  have p2 : ((l0.length : Int) = (l1.length : Int)) = True := eq_true hi
  have p3 : (l0.length = l1.length) = True := eq_true e
  obtain ⟨K1, k1⟩ := (spec_l3Pieces_ev l0 (l1.length : Int) (by omega) (fun r h => by have := har r h; omega)).rounds
  obtain ⟨K2, k2⟩ := (spec_l3Pieces_ev l1 (l0.length : Int) (by omega) (fun r h => by have := hbr r h; omega)).rounds
  rw [decide_eq_true hi, Bool.and_true] at k1
  rw [decide_eq_true hi.symm, Bool.and_true] at k2
  have HE := Aside0.mk e
  cases g1 : areP l0 with
  | false =>
    rw [distV_off (fun g => by have := g.2.2; rw [areP_both e, g1] at this; cases this)] at h
    injection h with h1 h2
    subst h1 h2
    rw [g1] at k1
    have P1 := Aside0.mk k1
    clear hr0 hr1 ha har hb hbr e k1 k2 g1 hi
    go_enter Try.func59, Try.ntmps59
    go_wp2
    go_quiet (first | (go_at_call 119; with_reducible refine (spec_l3Pieces.calls K1 A0 c0 l0 (l1.length : Int) false _ ?sK1 HC0.out P1.out).mono ?_; (case sK1 => repeat (first | exact HR0.out | (with_reducible refine Kd.C_drewN ?_ _) | (with_reducible refine Kd.C_drew ?_))); rintro e w' ⟨rfl, ⟨nd, rfl⟩⟩; (try first | exact ⟨rfl, _, World.drewN_drewN _ _ _⟩ | exact ⟨rfl, _, Eq.trans (World.drewN_drewN _ _ _) (congrArg (World.drewN _) (Nat.add_assoc _ _ _))⟩)))
    go_wp2
    go_ret2
    exact ⟨rfl, by repeat (first | exact HB.out | apply pw_below_drewN | apply below_drew1)⟩
  | true =>
  rw [g1] at k1
  have P1 := Aside0.mk k1
  cases g2 : areP l1 with
  | false =>
    rw [distV_off (fun g => by have := g.2.2; rw [areP_both e, g1, g2] at this; cases this)] at h
    injection h with h1 h2
    subst h1 h2
    rw [g2] at k2
    have P2 := Aside0.mk k2
    clear hr0 hr1 ha har hb hbr e k1 k2 g1 g2 hi
    go_enter Try.func59, Try.ntmps59
    go_wp2
    go_quiet (first | (go_at_call 119; with_reducible refine (spec_l3Pieces.calls K1 A0 c0 l0 (l1.length : Int) true _ ?sK1 HC0.out P1.out).mono ?_; (case sK1 => repeat (first | exact HR0.out | (with_reducible refine Kd.C_drewN ?_ _) | (with_reducible refine Kd.C_drew ?_))); rintro e w' ⟨rfl, ⟨nd, rfl⟩⟩; (try first | exact ⟨rfl, _, World.drewN_drewN _ _ _⟩ | exact ⟨rfl, _, Eq.trans (World.drewN_drewN _ _ _) (congrArg (World.drewN _) (Nat.add_assoc _ _ _))⟩)) | (go_at_call 119; with_reducible refine (spec_l3Pieces.calls K2 A1 c1 l1 (l0.length : Int) false _ ?sK2 HC1.out P2.out).mono ?_; (case sK2 => repeat (first | exact HR1.out | (with_reducible refine Kd.C_drewN ?_ _) | (with_reducible refine Kd.C_drew ?_))); rintro e w' ⟨rfl, ⟨nd, rfl⟩⟩; (try first | exact ⟨rfl, _, World.drewN_drewN _ _ _⟩ | exact ⟨rfl, _, Eq.trans (World.drewN_drewN _ _ _) (congrArg (World.drewN _) (Nat.add_assoc _ _ _))⟩)))
    go_wp2
    go_ret2
    exact ⟨rfl, by repeat (first | exact HB.out | apply pw_below_drewN | apply below_drew1)⟩
  | true =>
  rw [g2] at k2
  have P2 := Aside0.mk k2
  by_cases h10 : l0.length ≤ 10
  rotate_left
  · rw [distV_off (fun g => h10 g.2.1)] at h
    injection h with h1 h2
    subst h1 h2
    have q1 : ((10 : Int) < (l0.length : Int)) = True := eq_true (by omega)
    have q2 : (10 < l0.length) = True := eq_true (by omega)
    have q3 : decide ((10 : Int) < (l0.length : Int)) = true := decide_eq_true (by omega)
    have q4 : decide (10 < l0.length) = true := decide_eq_true (by omega)
    clear hr0 hr1 ha har hb hbr e k1 k2 g1 g2 hi h10
    go_enter Try.func59, Try.ntmps59
    go_wp2
    go_quiet (first | (go_at_call 119; with_reducible refine (spec_l3Pieces.calls K1 A0 c0 l0 (l1.length : Int) true _ ?sK1 HC0.out P1.out).mono ?_; (case sK1 => repeat (first | exact HR0.out | (with_reducible refine Kd.C_drewN ?_ _) | (with_reducible refine Kd.C_drew ?_))); rintro e w' ⟨rfl, ⟨nd, rfl⟩⟩; (try first | exact ⟨rfl, _, World.drewN_drewN _ _ _⟩ | exact ⟨rfl, _, Eq.trans (World.drewN_drewN _ _ _) (congrArg (World.drewN _) (Nat.add_assoc _ _ _))⟩)) | (go_at_call 119; with_reducible refine (spec_l3Pieces.calls K2 A1 c1 l1 (l0.length : Int) true _ ?sK2 HC1.out P2.out).mono ?_; (case sK2 => repeat (first | exact HR1.out | (with_reducible refine Kd.C_drewN ?_ _) | (with_reducible refine Kd.C_drew ?_))); rintro e w' ⟨rfl, ⟨nd, rfl⟩⟩; (try first | exact ⟨rfl, _, World.drewN_drewN _ _ _⟩ | exact ⟨rfl, _, Eq.trans (World.drewN_drewN _ _ _) (congrArg (World.drewN _) (Nat.add_assoc _ _ _))⟩)))
    go_wp2
    go_ret2
    exact ⟨rfl, by repeat (first | exact HB.out | apply pw_below_drewN | apply below_drew1)⟩
  have q1 : ((10 : Int) < (l0.length : Int)) = False := eq_false (by omega)
  have q2 : (10 < l0.length) = False := eq_false (by omega)
  have q3 : decide ((10 : Int) < (l0.length : Int)) = false := decide_eq_false (by omega)
  have q4 : decide (10 < l0.length) = false := decide_eq_false (by omega)
  have KU := Aside0.mk (spec_l3Unlike_ev l0 l1 e (by omega) (fun r h => by
    obtain ⟨c, n, rfl, hn, _, hc⟩ := areP_up g1
    obtain ⟨q, hq, rfl⟩ := List.mem_map.1 h
    rw [Poly.up_length, (hn q hq).1]; omega))
  obtain ⟨K3, k3⟩ := KU.out.rounds
  by_cases h0 : 0 < l0.length
  rotate_left
  · rw [distV_on e h10 (by rw [areP_both e, g1, g2, decide_eq_true (.inl (by omega))]; rfl)] at h
    injection h with h1 h2
    subst h1 h2
    have P3 := Aside0.mk k3
    have s1 : ((0 : Int) < (l0.length : Int)) = False := eq_false (by omega)
    have s2 : (0 < l0.length) = False := eq_false h0
    have s3 : decide ((0 : Int) < (l0.length : Int)) = false := decide_eq_false (by omega)
    have s4 : decide (0 < l0.length) = false := decide_eq_false h0
    generalize ((unlikeN l0 l1 : Nat) : Int) = z at P3 ⊢
    clear hr0 hr1 ha har hb hbr e k1 k2 k3 g1 g2 hi h10 KU h0
    go_enter Try.func59, Try.ntmps59
    go_wp2
    go_quiet (first | (go_at_call 119; with_reducible refine (spec_l3Pieces.calls K1 A0 c0 l0 (l1.length : Int) true _ ?sK1 HC0.out P1.out).mono ?_; (case sK1 => repeat (first | exact HR0.out | (with_reducible refine Kd.C_drewN ?_ _) | (with_reducible refine Kd.C_drew ?_))); rintro e w' ⟨rfl, ⟨nd, rfl⟩⟩; (try first | exact ⟨rfl, _, World.drewN_drewN _ _ _⟩ | exact ⟨rfl, _, Eq.trans (World.drewN_drewN _ _ _) (congrArg (World.drewN _) (Nat.add_assoc _ _ _))⟩)) | (go_at_call 119; with_reducible refine (spec_l3Pieces.calls K2 A1 c1 l1 (l0.length : Int) true _ ?sK2 HC1.out P2.out).mono ?_; (case sK2 => repeat (first | exact HR1.out | (with_reducible refine Kd.C_drewN ?_ _) | (with_reducible refine Kd.C_drew ?_))); rintro e w' ⟨rfl, ⟨nd, rfl⟩⟩; (try first | exact ⟨rfl, _, World.drewN_drewN _ _ _⟩ | exact ⟨rfl, _, Eq.trans (World.drewN_drewN _ _ _) (congrArg (World.drewN _) (Nat.add_assoc _ _ _))⟩)))
    go_wp2_with (go_at_call 135; refine (spec_l3Unlike.calls K3 A0 c0 l0 A1 c1 l1 z _ ?t1 HC0.out ?t2 HC1.out P3.out).mono ?_; (case t1 => repeat (first | exact HR0.out | (with_reducible refine Kd.C_drewN ?_ _) | (with_reducible refine Kd.C_drew ?_))); (case t2 => repeat (first | exact HR1.out | (with_reducible refine Kd.C_drewN ?_ _) | (with_reducible refine Kd.C_drew ?_))); rintro e w' ⟨rfl, ⟨nd9, rfl⟩⟩)
    go_ret2
    exact ⟨rfl, by repeat (first | exact HB.out | apply pw_below_drewN | apply below_drew1)⟩
  have s1 : ((0 : Int) < (l0.length : Int)) = True := eq_true (by omega)
  have s2 : (0 < l0.length) = True := eq_true h0
  have s3 : decide ((0 : Int) < (l0.length : Int)) = true := decide_eq_true (by omega)
  have s4 : decide (0 < l0.length) = true := decide_eq_true h0
  have s5 : ((0 : Int) < (l1.length : Int)) = True := eq_true (by omega)
  have s6 : (0 < l1.length) = True := eq_true (by omega)
  obtain ⟨ad, A5, c5, eA, hx, _, _⟩ := at_L1 hr0 0 (Int.le_refl _) (by omega)
  cases eA
  obtain ⟨bd, A6, c6, eB, hy, _, _⟩ := at_L1 hr1 0 (Int.le_refl _) (by omega)
  cases eB
  rw [show Int.toNat 0 = 0 from rfl, Addr.add_zero', show rd_L1 l0 0 = l0.getD 0 [] from rfl] at hx
  rw [show Int.toNat 0 = 0 from rfl, Addr.add_zero', show rd_L1 l1 0 = l1.getD 0 [] from rfl] at hy
  by_cases hc : (l0.getD 0 []).length = (l1.getD 0 []).length
  · rw [distV_on e h10 (by rw [areP_both e, g1, g2, decide_eq_true (.inr hc)]; rfl)] at h
    injection h with h1 h2
    subst h1 h2
    have P3 := Aside0.mk k3
    generalize ((unlikeN l0 l1 : Nat) : Int) = z at P3 ⊢
    rw [← hc] at hy
    generalize (l0.getD 0 []).length = n at hx hy
    have u1 : ((n : Int) != (n : Int)) = false := by simp
    clear hr0 hr1 ha har hb hbr e k1 k2 k3 g1 g2 hi h10 KU h0 hc
    go_enter Try.func59, Try.ntmps59
    go_wp2
    go_quiet (first | (go_at_call 119; with_reducible refine (spec_l3Pieces.calls K1 _ c0 l0 (l1.length : Int) true _ ?sK1 HC0.out P1.out).mono ?_; (case sK1 => repeat (first | exact HR0.out | (with_reducible refine Kd.C_drewN ?_ _) | (with_reducible refine Kd.C_drew ?_))); rintro e w' ⟨rfl, ⟨nd, rfl⟩⟩; (try first | exact ⟨rfl, _, World.drewN_drewN _ _ _⟩ | exact ⟨rfl, _, Eq.trans (World.drewN_drewN _ _ _) (congrArg (World.drewN _) (Nat.add_assoc _ _ _))⟩)) | (go_at_call 119; with_reducible refine (spec_l3Pieces.calls K2 _ c1 l1 (l0.length : Int) true _ ?sK2 HC1.out P2.out).mono ?_; (case sK2 => repeat (first | exact HR1.out | (with_reducible refine Kd.C_drewN ?_ _) | (with_reducible refine Kd.C_drew ?_))); rintro e w' ⟨rfl, ⟨nd, rfl⟩⟩; (try first | exact ⟨rfl, _, World.drewN_drewN _ _ _⟩ | exact ⟨rfl, _, Eq.trans (World.drewN_drewN _ _ _) (congrArg (World.drewN _) (Nat.add_assoc _ _ _))⟩)))
    go_wp2_with (go_at_call 135; refine (spec_l3Unlike.calls K3 _ c0 l0 _ c1 l1 z _ ?t1 HC0.out ?t2 HC1.out P3.out).mono ?_; (case t1 => repeat (first | exact HR0.out | (with_reducible refine Kd.C_drewN ?_ _) | (with_reducible refine Kd.C_drew ?_))); (case t2 => repeat (first | exact HR1.out | (with_reducible refine Kd.C_drewN ?_ _) | (with_reducible refine Kd.C_drew ?_))); rintro e w' ⟨rfl, ⟨nd9, rfl⟩⟩)
    go_ret2
    exact ⟨rfl, by repeat (first | exact HB.out | apply pw_below_drewN | apply below_drew1)⟩
  · rw [distV_off (fun g => by have := g.2.2; rw [areP_both e, g1, g2, decide_eq_false (fun z => z.elim (fun z => by omega) hc)] at this; cases this)] at h
    injection h with h1 h2
    subst h1 h2
    have hcc : ((l0.getD 0 []).length : Int) ≠ ((l1.getD 0 []).length : Int) := by omega
    generalize (l0.getD 0 []).length = n at hx hcc
    generalize (l1.getD 0 []).length = n' at hy hcc
    have u1 : ((n : Int) != (n' : Int)) = true := by rw [bne_iff_ne]; exact hcc
    have u2 : ((n : Int) = (n' : Int)) = False := eq_false hcc
    have u3 : (n = n') = False := eq_false (by omega)
    clear hr0 hr1 ha har hb hbr e k1 k2 k3 g1 g2 hi h10 KU h0 hc hcc
    go_enter Try.func59, Try.ntmps59
    go_wp2
    go_quiet (first | (go_at_call 119; with_reducible refine (spec_l3Pieces.calls K1 _ c0 l0 (l1.length : Int) true _ ?sK1 HC0.out P1.out).mono ?_; (case sK1 => repeat (first | exact HR0.out | (with_reducible refine Kd.C_drewN ?_ _) | (with_reducible refine Kd.C_drew ?_))); rintro e w' ⟨rfl, ⟨nd, rfl⟩⟩; (try first | exact ⟨rfl, _, World.drewN_drewN _ _ _⟩ | exact ⟨rfl, _, Eq.trans (World.drewN_drewN _ _ _) (congrArg (World.drewN _) (Nat.add_assoc _ _ _))⟩)) | (go_at_call 119; with_reducible refine (spec_l3Pieces.calls K2 _ c1 l1 (l0.length : Int) true _ ?sK2 HC1.out P2.out).mono ?_; (case sK2 => repeat (first | exact HR1.out | (with_reducible refine Kd.C_drewN ?_ _) | (with_reducible refine Kd.C_drew ?_))); rintro e w' ⟨rfl, ⟨nd, rfl⟩⟩; (try first | exact ⟨rfl, _, World.drewN_drewN _ _ _⟩ | exact ⟨rfl, _, Eq.trans (World.drewN_drewN _ _ _) (congrArg (World.drewN _) (Nat.add_assoc _ _ _))⟩)))
    go_wp2
    go_ret2
    exact ⟨rfl, by repeat (first | exact HB.out | apply pw_below_drewN | apply below_drew1)⟩

theorem infoJ : (Try.prog.info? 3).map (fun i => (i.zero, i.size, i.bytes)) = some (some (.int .i64 0), 1, 8) := by kernel_rfl

set_option maxHeartbeats 8000000 in
set_option maxRecDepth 100000 in
theorem laws_FnPieces_calls (A0 : Option Addr) (c0 : Nat) (l0 : List Int) (A1 : Option Addr) (c1 : Nat) (l1 : List Int) (w : World) (hr0 : (Kd.int .u8).C w A0 l0.length l0) (hc0 : l0.length ≤ c0) (y0 : l0.length * 1 ≤ 140737488351232) (hw0 : ∀ x ∈ l0, (Lit.int .u8 x).wf = true)
    (hr1 : (Kd.int .u8).C w A1 l1.length l1) (hc1 : l1.length ≤ c1) (y1 : l1.length * 1 ≤ 140737488351232) (hw1 : ∀ x ∈ l1, (Lit.int .u8 x).wf = true) :
    Calls Try.prog 7 #[.slice A0 l0.length c0, .slice A1 l1.length c1] w fun e w' => e = .returned (.bool true) ∧ Below w.heap.size w w' := by
  have HB := Aside0.mk (Below.refl w.heap.size w)
  have HR0 := Aside0.mk hr0
  have HR1 := Aside0.mk hr1
  have HC0 := Aside0.mk hc0
  have HC1 := Aside0.mk hc1
  by_cases hlen : l0.length + l1.length ≤ 1048576
  rotate_left
  · clear hr0 hr1 hc0 hc1
    go_enter Try.func7, Try.ntmps7
    go_wp2
    go_ret
    exact ⟨rfl, HB.out⟩
  obtain ⟨a, b, l, k0, q, hD1, hl1, hl2, hq1⟩ := spec_DrawUpdatePiece_ex (wf_BY hw0)
  obtain ⟨KD1, hD1⟩ := hD1.rounds
  obtain ⟨n3, p3, l3, hD3, hl31, hl32⟩ := spec_DrawCheckPieces_ex (wf_BY hw1)
  obtain ⟨KD3, hD3⟩ := hD3.rounds
  obtain ⟨n4, p4, lost, hD4, hlost⟩ := spec_DrawCanDecode_ex (wf_BY hw1)
  obtain ⟨KD4, hD4⟩ := hD4.rounds
  have cD1 := fun w (h : (Kd.int .u8).C w A0 l0.length l0) => spec_DrawUpdatePiece.calls KD1 A0 c0 l0 (a : Int) (b : Int) l k0 q w h HC0.out hD1
  have cD2 := fun w (h : (Kd.int .u8).C w A1 l1.length l1) => drawDist_e A1 c1 l1 w (wf_BY hw1) h
  have cD3 := fun w (h : (Kd.int .u8).C w A1 l1.length l1) => spec_DrawCheckPieces.calls KD3 A1 c1 l1 n3 p3 l3 w h HC1.out hD3
  have cD4 := fun w (h : (Kd.int .u8).C w A1 l1.length l1) => spec_DrawCanDecode.calls KD4 A1 c1 l1 n4 p4 lost w h HC1.out hD4
  have hE1 := impl_UpdatePiece_ev (a : Int) (b : Int) l k0 q (by omega)
  obtain ⟨K1, hE1⟩ := hE1.rounds
  have hE2 : spec_UpdatePiece.f (a : Int) (b : Int) l k0 q = some (updV (a : Int) (b : Int) l k0 q) := if_pos ⟨by omega, fun r hr => by have := hl2 r hr; omega, by omega⟩
  have hsm := updV_small (a : Int) (b : Int) l k0 q
  have hlaw := @pieces_law (a : Int) (b : Int) l k0 q
  generalize updV (a : Int) (b : Int) l k0 q = g1 at hE1 hE2 hsm hlaw
  obtain ⟨u, ok⟩ := g1
  have H1 := Aside0.mk hE1
  have H2 := Aside0.mk hE2
  have HLAW := Aside0.mk hlaw
  have HMS := Aside0.mk (show u.length ≤ 1000000 ∧ ∀ r ∈ u, r.length ≤ 1000000 from ⟨by have := hsm.1; simp only at this; omega, fun r hr => by have := hsm.2 r hr; omega⟩)
  have HLS := Aside0.mk (show l.length ≤ 1000000 ∧ ∀ r ∈ l, r.length ≤ 1000000 from ⟨by omega, fun r hr => by have := hl2 r hr; omega⟩)
  have HQS := Aside0.mk (show q.length ≤ 1000000 by omega)
  have HL3 := Aside0.mk (And.intro hl31 (And.intro hl32 hlost))
  have x1 : (ok != ok) = false := by simp
  clear hD1 hD3 hD4 hl1 hl2 hq1 hl31 hl32 hlost hE1 hE2 hsm hlaw hw0 hw1 hr0 hr1 hc0 hc1
  go_enter Try.func7, Try.ntmps7
  go_wp2_with fail
  refine (cD1 _ HR0.out).mono ?_
  rintro e w1 ⟨v2, v4, rfl, hS, hR, hb⟩
  obtain ⟨A2, n2, rfl, hn2, hC2⟩ := S_reads hS
  obtain ⟨A4, n4', rfl⟩ := Kd.R_slice hR
  replace HB := Aside0.mk hb
  replace HR1 := Aside0.mk (Kd.C_below HR1.out hb)
  have HP := Aside0.mk hC2
  have HN2 := Aside0.mk hn2
  have HQ := Aside0.mk (Kd.R_reads' hR).2.2
  have HN4 := Aside0.mk (Kd.R_reads' hR).2.1
  clear hS hR hb hC2 hn2 HR0 cD1
  go_wp2_with fail
  refine (impl_UpdatePiece.calls K1 (a : Int) (b : Int) A2 n2 l k0 A4 n4' q u ok _ HP.out HN2.out HQ.out HN4.out H1.out).mono ?_
  rintro e w2 ⟨va, rfl, hva, hb⟩
  obtain ⟨A5, n5, rfl, hn5, hC5⟩ := S_reads hva
  have HM := Aside0.mk hC5
  have HN5 := Aside0.mk hn5
  clear hva hC5 hn5
  replace HB := Aside0.mk (HB.out.trans (hb.mono HB.out.size))
  replace HR1 := Aside0.mk (Kd.C_below HR1.out hb)
  replace HP := Aside0.mk (Kd.C_below HP.out hb)
  replace HQ := Aside0.mk (Kd.C_below HQ.out hb)
  clear hb
  go_wp2_with fail
  refine (spec_UpdatePiece.calls (a : Int) (b : Int) A2 n2 l k0 A4 n4' q u ok _ HP.out HN2.out HQ.out HN4.out H2.out).mono ?_
  rintro e w3 ⟨va, rfl, hva, hb⟩
  obtain ⟨A6, n6, rfl, hn6, hC6⟩ := S_reads hva
  have HE := Aside0.mk hC6
  have HN6 := Aside0.mk hn6
  clear hva hC6 hn6
  replace HB := Aside0.mk (HB.out.trans (hb.mono HB.out.size))
  replace HR1 := Aside0.mk (Kd.C_below HR1.out hb)
  replace HP := Aside0.mk (Kd.C_below HP.out hb)
  replace HQ := Aside0.mk (Kd.C_below HQ.out hb)
  replace HM := Aside0.mk (Kd.C_below HM.out hb)
  clear hb
  go_wp2_with fail
  refine (sameL_c u HMS.out.1 HMS.out.2 HN5.out HN6.out _ HM.out HE.out).mono ?_
  rintro e w4 ⟨rfl, hb⟩
  replace HB := Aside0.mk (HB.out.trans (hb.mono HB.out.size))
  replace HR1 := Aside0.mk (Kd.C_below HR1.out hb)
  replace HP := Aside0.mk (Kd.C_below HP.out hb)
  replace HQ := Aside0.mk (Kd.C_below HQ.out hb)
  replace HM := Aside0.mk (Kd.C_below HM.out hb)
  replace HE := Aside0.mk (Kd.C_below HE.out hb)
  clear hb
  clear HE HN6 H1 H2 x1
  go_upto_if 84 with (fail)
  go_cut [] (fun wc => Aside0 (Below w.heap.size w wc) ∧ Aside0 ((Kd.int .u8).C wc A1 l1.length l1))
  case first =>
    as_aux_lemma =>
      clear cD2 cD3 cD4 HL3
      cases ok with
      | false =>
        clear HLAW
        go_wp2
        go_meet
        exact ⟨HB, HR1⟩
      | true =>
        as_aux_lemma =>
          obtain ⟨is, d, kk, dist, ee, c1v, c2v, dv, f1, f2, f3, f4, f5, f6, f7, f8, ev, f9, f10, f11, f12, f13⟩ := HLAW.out rfl
          obtain rfl : a = d := by omega
          subst f3
          replace f8 : u.getD kk [] = q := f8
          replace f7 : u.length = l.length := f7
          replace f9 : is = true → ee = u := f9
          obtain ⟨K2, hc1⟩ := (impl_CheckPieces_ev (a : Int) (b : Int) l (fun r h => by have := HLS.out.2 r h; omega)).rounds
          obtain ⟨K3, hc2⟩ := (impl_CheckPieces_ev (a : Int) (b : Int) u (fun r h => by have := HMS.out.2 r h; omega)).rounds
          have hc3 := impl_DistanceOf_eq l u (by have := HLS.out.1; omega) (fun r h => by have := HLS.out.2 r h; omega) (by have := HMS.out.1; omega)
          obtain ⟨K4, hc4⟩ := (impl_EncodePieces_ev ((l.take a).set kk q) (b : Int)).rounds
          obtain ⟨K5, hc5⟩ := (laws_sameInts_ev q (l.getD kk []) HQS.out).rounds
          rw [c1v] at hc1
          rw [c2v] at hc2
          rw [dv] at hc3
          rw [ev] at hc4
          have H3 := Aside0.mk hc1
          have H4 := Aside0.mk hc2
          have H5 := Aside0.mk hc3
          have H6 := Aside0.mk hc4
          have H7 := Aside0.mk hc5
          have HF := Aside0.mk (And.intro f4 (And.intro f5 (And.intro f6 (And.intro f7 (And.intro f8 (And.intro f12 f13))))))
          have HF1 := Aside0.mk f1
          have HF9 := Aside0.mk f9
          have x2 : (is != is) = false := by simp
          clear HLAW c1v c2v dv f1 f2 f4 f5 f6 f7 f8 ev f9 f10 f11 f12 f13 hc1 hc2 hc3 hc4 hc5
          go_wp2_with fail
          refine (impl_CheckPieces.calls K2 (a : Int) (b : Int) A2 n2 l is true _ HP.out HN2.out H3.out).mono ?_
          rintro e w5 ⟨rfl, hb⟩
          replace HB := Aside0.mk (HB.out.trans (hb.mono HB.out.size))
          replace HR1 := Aside0.mk (Kd.C_below HR1.out hb)
          replace HP := Aside0.mk (Kd.C_below HP.out hb)
          replace HQ := Aside0.mk (Kd.C_below HQ.out hb)
          replace HM := Aside0.mk (Kd.C_below HM.out hb)
          clear hb
          go_wp2_with fail
          have HN5' := Aside0.mk HN5.out
          refine (impl_CheckPieces.calls K3 (a : Int) (b : Int) A5 n5 u is true _ HM.out HN5.out H4.out).mono ?_
          rintro e w6 ⟨rfl, hb⟩
          replace HB := Aside0.mk (HB.out.trans (hb.mono HB.out.size))
          replace HR1 := Aside0.mk (Kd.C_below HR1.out hb)
          replace HP := Aside0.mk (Kd.C_below HP.out hb)
          replace HQ := Aside0.mk (Kd.C_below HQ.out hb)
          replace HM := Aside0.mk (Kd.C_below HM.out hb)
          clear hb
          go_wp2_with fail
          refine (impl_DistanceOf.calls A2 n2 l A5 n5 u dist true _ HP.out HN2.out HM.out HN5.out H5.out).mono ?_
          rintro e w7 ⟨rfl, hb⟩
          replace HB := Aside0.mk (HB.out.trans (hb.mono HB.out.size))
          replace HR1 := Aside0.mk (Kd.C_below HR1.out hb)
          replace HP := Aside0.mk (Kd.C_below HP.out hb)
          replace HQ := Aside0.mk (Kd.C_below HQ.out hb)
          replace HM := Aside0.mk (Kd.C_below HM.out hb)
          clear hb
          go_upto_region 12 with (fail)
          go_cut [145] (fun v145 wc => v145 = .bool false ∧ Aside0 (Below w.heap.size w wc) ∧ Aside0 ((Kd.int .u8).C wc A1 l1.length l1) ∧ Aside0 (Kd.C (Kd.slice 3 (Kd.int .i64)) wc A2 l.length l) ∧ Aside0 ((Kd.int .i64).C wc A4 q.length q) ∧ Aside0 (Kd.C (Kd.slice 3 (Kd.int .i64)) wc A5 u.length u))
          case first =>
            as_aux_lemma =>
              clear HF9 H6
              obtain ⟨ad, A7, c7, eA, hx, hl7, hC7⟩ := at_L1 HM.out (kk : Int) (by omega) (by have := HF.out; omega)
              cases eA
              rw [show rd_L1 u (kk : Int) = q from by unfold rd_L1; rw [Int.toNat_natCast]; exact HF.out.2.2.2.2.1] at hx hl7 hC7
              rw [Int.toNat_natCast] at hx
              have HX7 := Aside0.mk hC7
              have HN7 := Aside0.mk hl7
              have j1 : ((kk : Int) < (u.length : Int)) = True := eq_true (by have := HF.out; omega)
              have j2 : (kk < u.length) = True := eq_true (by have := HF.out; omega)
              have j3 : ((kk : Int) < (l.length : Int)) = True := eq_true (by have := HF.out; omega)
              have j4 : (kk < l.length) = True := eq_true (by have := HF.out; omega)
              have j5 : (0 ≤ (kk : Int)) = True := eq_true (by omega)
              clear hC7 hl7
              cases is with
              | false =>
                clear HF1 H7
                go_wp2_with fail
                refine (sameI_c q HQS.out HN7.out HN4.out _ HX7.out HQ.out).mono ?_
                rintro e w8 ⟨rfl, hb⟩
                clear hx
                replace HB := Aside0.mk (HB.out.trans (hb.mono HB.out.size))
                replace HR1 := Aside0.mk (Kd.C_below HR1.out hb)
                replace HP := Aside0.mk (Kd.C_below HP.out hb)
                replace HQ := Aside0.mk (Kd.C_below HQ.out hb)
                replace HM := Aside0.mk (Kd.C_below HM.out hb)
                clear hb
                go_wp2
                go_meet
                case rel => exact ⟨rfl, HB, HR1, HP, HQ, HM⟩
              | true =>
                go_wp2_with fail
                refine (sameI_c q HQS.out HN7.out HN4.out _ HX7.out HQ.out).mono ?_
                rintro e w8 ⟨rfl, hb⟩
                clear hx
                replace HB := Aside0.mk (HB.out.trans (hb.mono HB.out.size))
                replace HR1 := Aside0.mk (Kd.C_below HR1.out hb)
                replace HP := Aside0.mk (Kd.C_below HP.out hb)
                replace HQ := Aside0.mk (Kd.C_below HQ.out hb)
                replace HM := Aside0.mk (Kd.C_below HM.out hb)
                clear hb
                obtain ⟨ad2, A8, c8, eB, hy, hl8, hC8⟩ := at_L1 HP.out (kk : Int) (by omega) (by have := HF.out; omega)
                cases eB
                rw [show rd_L1 l (kk : Int) = l.getD kk [] from by unfold rd_L1; rw [Int.toNat_natCast]] at hy hl8 hC8
                rw [Int.toNat_natCast] at hy
                have HX8 := Aside0.mk (And.intro hl8 hC8)
                clear hC8 hl8
                by_cases hq8 : q = l.getD kk []
                · have h7 := H7.out
                  rw [decide_eq_true hq8] at h7
                  have H8 := Aside0.mk h7
                  clear h7 H7 HF1 hq8
                  generalize l.getD kk [] = row at hy HX8 H8
                  go_wp2_with fail
                  refine (laws_sameInts.calls K5 A4 n4' q A8 c8 row true _ HQ.out HN4.out HX8.out.2 HX8.out.1 H8.out).mono ?_
                  rintro e w9 ⟨rfl, hd⟩
                  have hb := hd.below
                  clear hd hy
                  replace HB := Aside0.mk (HB.out.trans (hb.mono HB.out.size))
                  replace HR1 := Aside0.mk (Kd.C_below HR1.out hb)
                  replace HP := Aside0.mk (Kd.C_below HP.out hb)
                  replace HQ := Aside0.mk (Kd.C_below HQ.out hb)
                  replace HM := Aside0.mk (Kd.C_below HM.out hb)
                  clear hb
                  go_wp2
                  go_meet
                  case rel => exact ⟨rfl, HB, HR1, HP, HQ, HM⟩
                · have h7 := H7.out
                  rw [decide_eq_false hq8] at h7
                  have H8 := Aside0.mk h7
                  have hdist := HF1.out (by trivial) hq8
                  have y1 : decide (dist ≤ (b : Int)) = false := decide_eq_false (by omega)
                  have y2 : (dist ≤ (b : Int)) = False := eq_false (by omega)
                  clear h7 H7 HF1 hq8 hdist
                  generalize l.getD kk [] = row at hy HX8 H8
                  go_wp2_with fail
                  refine (laws_sameInts.calls K5 A4 n4' q A8 c8 row false _ HQ.out HN4.out HX8.out.2 HX8.out.1 H8.out).mono ?_
                  rintro e w9 ⟨rfl, hd⟩
                  have hb := hd.below
                  clear hd hy
                  replace HB := Aside0.mk (HB.out.trans (hb.mono HB.out.size))
                  replace HR1 := Aside0.mk (Kd.C_below HR1.out hb)
                  replace HP := Aside0.mk (Kd.C_below HP.out hb)
                  replace HQ := Aside0.mk (Kd.C_below HQ.out hb)
                  replace HM := Aside0.mk (Kd.C_below HM.out hb)
                  clear hb
                  go_wp2
                  go_meet
                  case rel => exact ⟨rfl, HB, HR1, HP, HQ, HM⟩
          case rest =>
            as_aux_lemma =>
              clear HB HR1 HP HQ HM H3 H4 H5 H7 HF1 x2
              obtain ⟨rfl, HB, HR1, HP, HQ, HM⟩ := hcut
              obtain ⟨wz, hwz⟩ : ∃ x, x = wc := ⟨_, rfl⟩
              subst hwz
              obtain ⟨M, hMd⟩ : ∃ M, M = l.take a := ⟨_, rfl⟩
              have hT : M.length = a := by rw [hMd, List.length_take]; have := HF.out; omega
              have HT := Aside0.mk hT
              obtain ⟨ii, hii, hsz⟩ : ∃ i, Try.prog.info? 23 = some i ∧ i.size = 1 := by
                obtain ⟨i, h, he⟩ := Option.map_eq_some_iff.1 infoR
                exact ⟨i, h, by injection he with _ he; injection he⟩
              have hs1 : ∀ W : World, (Instr.slice 22 (.slice A2 l.length n2) none (some (.int .i64 (a : Int))) none).run Try.prog W = .ok (.slice A2 a n2) W := cut_to (P := Try.prog) 22 23 .i64 Try.underlying22 hii A2 l.length n2 (a : Int) (by omega) (by have := HF.out; omega) HN2.out
              have HTA := Aside0.mk (show Kd.C (Kd.slice 3 (Kd.int .i64)) wz A2 a M from by
                have := Kd.C_take HP.out (m := a) (by have := HF.out; omega)
                rwa [← hMd, hT] at this)
              have H6' := Aside0.mk (show impl_EncodePieces.f K4 (M.set kk q) (b : Int) = some (ee, true) from by rw [hMd]; exact H6.out)
              clear hT hii hsz hMd H6
              go_upto_region 15 with (first
                | ((with_reducible refine gate_dst (N := 146) rfl ?_); refine Kd.R_lit (Kd.fixed (Kd.slice 3 (Kd.int .i64)) wz) _ 23 ?hg (N := 146) ?hd (xs := ([] : List (List Int))) (inner := []) (ok := fun _ => True) (okp := fun _ => True) ?hr ?hp (fun _ hk => hk) trivial (Below.refl _ _) (Nat.le_refl _) (by simp) ?_; (case hd => rfl); (case hg => rfl); (case hr => first | (go_simp; done) | (go_simp; rfl)); (case hp => exact (Reps.none _ _)); intro v146 w146 ho16 hb16 _ _; have HO := Aside0.mk ho16; have HBZ := Aside0.mk hb16; clear ho16 hb16)
                | ((with_reducible refine gate_builtin (b := .append) (xs := #[.tmp 146, .tmp 149]) rfl ?_); at_builtin; refine Kd.R_append_rows (Kd.fixed (Kd.slice 3 (Kd.int .i64)) wz) (w0 := wz) wz.heap.size rfl (.tmp 146) (.tmp 149) 22 23 (.slice none 0 0) 24 rfl Try.underlying22 infoR rfl Nat.one_pos (by omega) v146 [] M _ _ _ (fun _ => True) (fun _ => False) rfl rfl ?aO ?aR (fun _ _ h => h) (fun _ h => h.elim) ?aF ?aB ?aS ?aL ?_; (case aR => exact fixed_row HTA.out HBZ.out); (case aB => exact HBZ.out); (case aF => exact (fun _ _ => trivial)); (case aO => exact HO.out); (case aS => exact HBZ.out.size); (case aL => have := HF.out; simp only [List.length_nil]; omega); intro v150 w150 ho hb _ _; rw [List.nil_append] at ho; have HB2 := Aside0.mk hb; have HO2 := Aside0.mk ho; clear ho hb))
              obtain ⟨gn, cn, rfl, hgn, _, _, _⟩ := Kd.R_form HO2.out (by rw [HT.out]; have := HF.out; omega)
              obtain ⟨⟨uo, hold⟩, hfz, hC9, hcap⟩ := anew_set HO2.out (kk := kk) (by rw [HT.out]; have := HF.out; omega) HQ.out HN4.out HB2.out hgn
              have hBS := below_set (j := kk) (v := .slice A4 q.length n4') HB2.out hgn
              have HS9 := Aside0.mk (And.intro hC9 (And.intro hBS hcap))
              have p1 : (kk < M.length) = True := eq_true (by rw [HT.out]; have := HF.out; omega)
              have p2 : ((kk : Int) < (M.length : Int)) = True := eq_true (by rw [HT.out]; have := HF.out; omega)
              have p3 : (0 ≤ (kk : Int)) = True := eq_true (by omega)
              have hcall := fun W (hC : Kd.C (Kd.slice 3 (Kd.int .i64)) W (some ⟨gn, 0, none⟩) (M.set kk q).length (M.set kk q)) (hc : (M.set kk q).length ≤ cn) => impl_EncodePieces.calls K4 (some ⟨gn, 0, none⟩) cn (M.set kk q) (b : Int) ee true W hC hc H6'.out
              simp only [List.length_set] at hcall
              have HCA := Aside0.mk hcall
              clear hC9 hBS hcap hgn hcall hs1 HO HBZ
              go_upto_region 16 with (fail)
              clear hold hfz p1 p2 p3
              generalize w150.setCell ⟨gn, kk, none⟩ (.slice A4 q.length n4') = wy at HS9 ⊢
              have hb := HS9.out.2.1
              replace HB := Aside0.mk (HB.out.trans (hb.mono HB.out.size))
              replace HR1 := Aside0.mk (Kd.C_below HR1.out hb)
              replace HP := Aside0.mk (Kd.C_below HP.out hb)
              replace HQ := Aside0.mk (Kd.C_below HQ.out hb)
              replace HM := Aside0.mk (Kd.C_below HM.out hb)
              clear hb
              go_wp2_with fail
              refine (HCA.out _ HS9.out.1 HS9.out.2.2).mono ?_
              rintro e w11 ⟨va, rfl, hva, hb⟩
              obtain ⟨A9, n9, rfl, hn9, hC9⟩ := S_reads hva
              have HN := Aside0.mk hC9
              have HN9 := Aside0.mk hn9
              clear hva hC9 hn9 HCA HS9
              replace HB := Aside0.mk (HB.out.trans (hb.mono HB.out.size))
              replace HR1 := Aside0.mk (Kd.C_below HR1.out hb)
              replace HP := Aside0.mk (Kd.C_below HP.out hb)
              replace HQ := Aside0.mk (Kd.C_below HQ.out hb)
              replace HM := Aside0.mk (Kd.C_below HM.out hb)
              clear hb
              cases is with
              | false =>
                go_wp2
                go_meet
                exact ⟨HB, HR1⟩
              | true =>
                have hee := HF9.out (by trivial)
                subst hee
                clear HF9
                go_wp2_with fail
                refine (sameL_c ee HMS.out.1 HMS.out.2 HN9.out HN5.out _ HN.out HM.out).mono ?_
                rintro e w12 ⟨rfl, hb⟩
                replace HB := Aside0.mk (HB.out.trans (hb.mono HB.out.size))
                replace HR1 := Aside0.mk (Kd.C_below HR1.out hb)
                replace HP := Aside0.mk (Kd.C_below HP.out hb)
                replace HQ := Aside0.mk (Kd.C_below HQ.out hb)
                replace HM := Aside0.mk (Kd.C_below HM.out hb)
                replace HN := Aside0.mk (Kd.C_below HN.out hb)
                clear hb
                go_wp2
                go_meet
                exact ⟨HB, HR1⟩
  case rest =>
    as_aux_lemma =>
      clear HB HR1 HP HQ HM HLAW HMS HLS HQS HN2 HN4 HN5
      obtain ⟨HB, HR1⟩ := hcut
      go_wp2_with fail
      refine (cD2 _ HR1.out).mono ?_
      rintro e w21 ⟨A2, n2, x, A3, n3', y, rfl, hx1, hx2, hy1, hy2, hn2, hC2, hn3, hC3, hb⟩
      have HP := Aside0.mk hC2
      have HN2 := Aside0.mk hn2
      have HD := Aside0.mk hC3
      have HN3 := Aside0.mk hn3
      have k1 := impl_DistanceOf_eq x y (by omega) (fun r hr => by have := hx2 r hr; omega) (by omega)
      have hk2 := fun W hC hD r1 r2 (h : distV x y = (r1, r2)) => specDist_c A2 n2 x A3 n3' y r1 r2 W (by omega) (fun r hr => by have := hx2 r hr; omega) (by omega) (fun r hr => by have := hy2 r hr; omega) hC HN2.out hD HN3.out h
      generalize distV x y = g1 at k1 hk2
      obtain ⟨dd, o1⟩ := g1
      have J1 := Aside0.mk k1
      have J2 := Aside0.mk (fun W hC hD => hk2 W hC hD dd o1 rfl)
      clear k1 hk2 hx1 hx2 hy1 hy2 hn2 hC2 hn3 hC3 cD2
      replace HB := Aside0.mk (HB.out.trans (hb.mono HB.out.size))
      replace HR1 := Aside0.mk (Kd.C_below HR1.out hb)
      clear hb
      go_wp2_with fail
      refine (impl_DistanceOf.calls A2 n2 x A3 n3' y dd o1 _ HP.out HN2.out HD.out HN3.out J1.out).mono ?_
      rintro e w22 ⟨rfl, hb⟩
      replace HB := Aside0.mk (HB.out.trans (hb.mono HB.out.size))
      replace HR1 := Aside0.mk (Kd.C_below HR1.out hb)
      replace HP := Aside0.mk (Kd.C_below HP.out hb)
      replace HD := Aside0.mk (Kd.C_below HD.out hb)
      clear hb
      go_wp2_with fail
      refine (J2.out _ HP.out HD.out).mono ?_
      rintro e w23 ⟨rfl, hb⟩
      replace HB := Aside0.mk (HB.out.trans (hb.mono HB.out.size))
      replace HR1 := Aside0.mk (Kd.C_below HR1.out hb)
      replace HP := Aside0.mk (Kd.C_below HP.out hb)
      replace HD := Aside0.mk (Kd.C_below HD.out hb)
      clear hb
      clear HP HD HN2 HN3 J1 J2
      go_wp2_with fail
      refine (cD3 _ HR1.out).mono ?_
      rintro e w24 ⟨v, rfl, hS, hb⟩
      obtain ⟨A5, n5, rfl, hn5, hC5⟩ := S_reads hS
      have HE := Aside0.mk hC5
      have HN5 := Aside0.mk hn5
      obtain ⟨K3, k3⟩ := (impl_CheckPieces_ev n3 p3 l3 (fun r h => by have := HL3.out.2.1 r h; omega)).rounds
      obtain ⟨K4, k4⟩ := (spec_CheckPieces_ev n3 p3 l3 (by have := HL3.out.1; omega) (fun r h => by have := HL3.out.2.1 r h; omega)).rounds
      generalize chkV n3 p3 l3 = g2 at k3 k4
      obtain ⟨ck, o2⟩ := g2
      have J3 := Aside0.mk k3
      have J4 := Aside0.mk k4
      clear k3 k4 hS hn5 hC5 cD3
      replace HB := Aside0.mk (HB.out.trans (hb.mono HB.out.size))
      replace HR1 := Aside0.mk (Kd.C_below HR1.out hb)
      clear hb
      go_wp2_with fail
      refine (impl_CheckPieces.calls K3 n3 p3 A5 n5 l3 ck o2 _ HE.out HN5.out J3.out).mono ?_
      rintro e w25 ⟨rfl, hb⟩
      replace HB := Aside0.mk (HB.out.trans (hb.mono HB.out.size))
      replace HR1 := Aside0.mk (Kd.C_below HR1.out hb)
      replace HE := Aside0.mk (Kd.C_below HE.out hb)
      clear hb
      go_wp2_with fail
      refine (spec_CheckPieces.calls K4 n3 p3 A5 n5 l3 ck o2 _ HE.out HN5.out J4.out).mono ?_
      rintro e w26 ⟨rfl, hb⟩
      replace HB := Aside0.mk (HB.out.trans (hb.mono HB.out.size))
      replace HR1 := Aside0.mk (Kd.C_below HR1.out hb)
      replace HE := Aside0.mk (Kd.C_below HE.out hb)
      clear hb
      clear HE HN5 J3 J4
      go_wp2_with fail
      refine (cD4 _ HR1.out).mono ?_
      rintro e w27 ⟨v, rfl, hR, hb⟩
      obtain ⟨A6, n6, rfl⟩ := Kd.R_slice hR
      have HF := Aside0.mk (Kd.R_reads' hR).2.2
      have HN6 := Aside0.mk (Kd.R_reads' hR).2.1
      obtain ⟨K5, k5⟩ := (impl_CanDecode_ev n4 p4 lost (by have := HL3.out.2.2; omega)).rounds
      obtain ⟨K6, k6⟩ := (spec_CanDecode_ev n4 p4 lost (by have := HL3.out.2.2; omega)).rounds
      generalize canV n4 p4 lost = g3 at k5 k6
      obtain ⟨cn, o3⟩ := g3
      have J5 := Aside0.mk k5
      have J6 := Aside0.mk k6
      clear k5 k6 hR cD4 HL3
      replace HB := Aside0.mk (HB.out.trans (hb.mono HB.out.size))
      replace HR1 := Aside0.mk (Kd.C_below HR1.out hb)
      clear hb
      go_wp2_with fail
      refine (impl_CanDecode.calls K5 n4 p4 A6 n6 lost cn o3 _ HF.out HN6.out J5.out).mono ?_
      rintro e w28 ⟨rfl, hd⟩
      have hb := hd.below
      clear hd
      replace HB := Aside0.mk (HB.out.trans (hb.mono HB.out.size))
      replace HR1 := Aside0.mk (Kd.C_below HR1.out hb)
      replace HF := Aside0.mk (Kd.C_below HF.out hb)
      clear hb
      go_wp2_with fail
      refine (spec_CanDecode.calls K6 n4 p4 A6 n6 lost cn o3 _ HF.out HN6.out J6.out).mono ?_
      rintro e w29 ⟨rfl, hd⟩
      have hb := hd.below
      clear hd
      replace HB := Aside0.mk (HB.out.trans (hb.mono HB.out.size))
      replace HR1 := Aside0.mk (Kd.C_below HR1.out hb)
      replace HF := Aside0.mk (Kd.C_below HF.out hb)
      clear hb
      clear HF HN6 J5 J6 HR1
      have y1 : (o1 == o1) = true := by simp
      have y2 : (dd == dd) = true := by simp
      have y3 : (o2 == o2) = true := by simp
      have y4 : (ck == ck) = true := by simp
      have y5 : (o3 == o3) = true := by simp
      have y6 : (cn == cn) = true := by simp
      go_wp2
      go_ret
      exact ⟨rfl, HB.out⟩

end Go.Proofs.Ytldlldfoaicjcaa.Pure
