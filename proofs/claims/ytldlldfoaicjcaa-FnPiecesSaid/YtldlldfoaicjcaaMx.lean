/-
  ROWS OF WHOLE NUMBERS of a call's own, no two of which share memory, told by their cells. Words over the print's own: no program in sight. No conditions beyond those typed.
-/
import Derived.Test.YtldlldfoaicjcaaWApart
import Derived.Test.YtldlldfoaicjcaaWKept
set_option linter.unusedVariables false
namespace Go.Proofs.Ytldlldfoaicjcaa.Mx
open Go.RowKit Go.Proofs.YtldlldfoaicjcaaW.PrintWords

/-- e: a row's type, t: a number's; all of it lies in blocks from lo on and below hi. -/
structure Mx (e t : Nat) (w : World) (lo hi : Nat) (v : Value) (m : List (List Int)) (vs : List Value) : Prop where
  own : w.ownsRow lo e 1 v m.length vs
  top : ∀ k, v.ownBlock = some k → k < hi
  row : ∀ (i : Nat) (x : List Int) (u : Value), m[i]? = some x → vs[i]? = some u → (Kd.int .i64).R t w lo (fun k => k < hi) u x
  ne : ∀ (i j : Nat) (u u' : Value), i ≠ j → vs[i]? = some u → vs[j]? = some u' → NeRow u u'
/-- Nothing but what lies in blocks from lo on and below hi has turned, of what was there. -/
structure Only (lo hi : Nat) (w w' : World) : Prop where
  os : w'.os = w.os
  tape : w'.tape = w.tape
  output : w'.output = w.output
  size : w.heap.size ≤ w'.heap.size
  block : ∀ k, k < w.heap.size → (k < lo ∨ hi ≤ k) → w'.heap[k]? = w.heap[k]?
section
variable {e t lo hi : Nat} {w w1 w2 : World} {v : Value} {m : List (List Int)} {vs : List Value}
theorem Only.refl (lo hi : Nat) (w : World) : Only lo hi w w := ⟨rfl, rfl, rfl, Nat.le_refl _, fun _ _ _ => rfl⟩
theorem Only.of_below (h : Below w.heap.size w w1) (lo hi : Nat) : Only lo hi w w1 := ⟨h.os, h.tape, h.output, h.size, fun k hk _ => h.block k hk⟩
theorem Only.trans (h : Only lo hi w w1) (k : Only lo hi w1 w2) : Only lo hi w w2 :=
  ⟨k.os.trans h.os, k.tape.trans h.tape, k.output.trans h.output, Nat.le_trans h.size k.size, fun i hi ho => (k.block i (Nat.lt_of_lt_of_le hi h.size) ho).trans (h.block i hi ho)⟩
theorem Only.mono {lo' hi' : Nat} (h : Only lo hi w w1) (hl : lo' ≤ lo) (hh : hi ≤ hi') : Only lo' hi' w w1 :=
  ⟨h.os, h.tape, h.output, h.size, fun k hk ho => h.block k hk (by omega)⟩
theorem Only.below {B : Nat} {w0 : World} (h : Only lo hi w w1) (hb : Below B w0 w) (hB : B ≤ w.heap.size) (hl : B ≤ lo) : Below B w0 w1 :=
  hb.trans ⟨h.os, h.tape, h.output, h.size, fun k hk => h.block k (by omega) (.inl (by omega))⟩
theorem Only.kept (h : Only lo hi w w1) : Kept w w1 (fun k => lo ≤ k ∧ k < hi) := ⟨h.size, fun i hi hn => h.block i hi (by omega)⟩
theorem Only.of_kept {B : Nat} {w0 : World} {S : Nat → Prop} (hb : Below B w0 w) (hb1 : Below B w0 w1) (hk : Kept w w1 S) (hS : ∀ k, S k → lo ≤ k ∧ k < hi) : Only lo hi w w1 :=
  ⟨hb1.os.trans hb.os.symm, hb1.tape.trans hb.tape.symm, hb1.output.trans hb.output.symm, hk.1, fun k hlt ho => hk.2 k hlt (fun h => by have := hS k h; omega)⟩
theorem Mx.len (h : Mx e t w lo hi v m vs) : vs.length = m.length := by have := h.own.1; omega
theorem Mx.at_ (h : Mx e t w lo hi v m vs) {i : Nat} (hl : i < m.length) : ∃ u, vs[i]? = some u := ⟨_, List.getElem?_eq_getElem (by rw [h.len]; exact hl)⟩
/-- A row whose block is known lies where that block lies. -/
theorem row_base' {b lo hi : Nat} {ok : Nat → Prop} {u : Value} {x : List Int} (h : (Kd.int .i64).R t w b ok u x) (hk : ∀ k, u.ownBlock = some k → lo ≤ k ∧ k < hi) : (Kd.int .i64).R t w lo (fun k => k < hi) u x := by
  obtain ⟨_, inner, ho, hr⟩ := h
  refine ⟨fun k h => (hk k h).2, inner, ?_, hr⟩
  refine ⟨ho.1, ?_⟩
  rcases ho.2 with h2 | ⟨g, cap, cur, rfl, _, r⟩
  · exact .inl h2
  · exact .inr ⟨g, cap, cur, rfl, (hk g rfl).1, r⟩
/-- Out of the print's word. -/
theorem of_S {base : Nat} {ok : Nat → Prop} (h : (Kd.slice t (Kd.int .i64)).S e w base ok v m) (hok : ∀ k, ok k → k < hi) : ∃ vs, Mx e t w base hi v m vs := by
  obtain ⟨f, h0, inner, ho, hr⟩ := h
  rw [List.length_zipIdx] at ho
  have hl : inner.length = m.length := by have := ho.1; exact this.trans (Nat.mul_one _)
  have el : ∀ i x u, m[i]? = some x → inner[i]? = some u → (Kd.int .i64).R t w base (fun k => (ok k ∧ some k ≠ v.ownBlock) ∧ f k = i) u x := by
    intro i x u hx hu
    obtain ⟨u', hc, hR⟩ := hr.2 i (x, i) (Kd.zip_at hx)
    have h1 : (inner.drop (i * 1)).take 1 = [u'] := hc
    rw [Nat.mul_one, List.take_one, List.head?_drop, hu] at h1
    injection h1 with h1
    subst h1
    exact hR
  refine ⟨inner, ho, fun k hk => hok k (h0 k hk), fun i x u hx hu => Kd.R_mono (el i x u hx hu) (fun k hk => hok k hk.1.1), fun i j u u' hij hu hu' k hk hk' => ?_⟩
  obtain ⟨hi1, _⟩ := List.getElem?_eq_some_iff.1 hu
  obtain ⟨hj1, _⟩ := List.getElem?_eq_some_iff.1 hu'
  rw [hl] at hi1 hj1
  have h1 := ((el i _ u (List.getElem?_eq_getElem hi1) hu).1 k hk).2
  have h2 := ((el j _ u' (List.getElem?_eq_getElem hj1) hu').1 k hk').2
  exact hij (h1.symm.trans h2)
theorem Mx.apart (h : Mx e t w lo hi v m vs) (het : e ≠ t) {i : Nat} {x : List Int} {u : Value} (hx : m[i]? = some x) (hu : vs[i]? = some u) (k : Nat) (hk : u.ownBlock = some k) : some k ≠ v.ownBlock := by
  intro he
  have ho := Kd.own_of_R (h.row i x u hx hu)
  rcases own_type_ne h.own ho het with h1 | h1
  · rw [h1] at he; cases he
  · exact h1 (he.symm.trans hk.symm)
/-- Out of the print's word, all blocks known to lie in a part. -/
theorem of_S2 {base : Nat} {ok : Nat → Prop} (h : (Kd.slice t (Kd.int .i64)).S e w base ok v m) (hok : ∀ k, ok k → lo ≤ k ∧ k < hi) : ∃ vs, Mx e t w lo hi v m vs := by
  have hlb : ∀ (k : Nat), v.ownBlock = some k → lo ≤ k := fun k hk => by obtain ⟨f, h0, _⟩ := h; exact (hok k (h0 k hk)).1
  obtain ⟨f, h0, inner, ho, hr⟩ := h
  rw [List.length_zipIdx] at ho
  have hl : inner.length = m.length := by have := ho.1; exact this.trans (Nat.mul_one _)
  have el : ∀ i x u, m[i]? = some x → inner[i]? = some u → (Kd.int .i64).R t w base (fun k => (ok k ∧ some k ≠ v.ownBlock) ∧ f k = i) u x := by
    intro i x u hx hu
    obtain ⟨u', hc, hR⟩ := hr.2 i (x, i) (Kd.zip_at hx)
    have h1 : (inner.drop (i * 1)).take 1 = [u'] := hc
    rw [Nat.mul_one, List.take_one, List.head?_drop, hu] at h1
    injection h1 with h1
    subst h1
    exact hR
  refine ⟨inner, ⟨ho.1, ?_⟩, fun k hk => (hok k (h0 k hk)).2, fun i x u hx hu => row_base' (el i x u hx hu) (fun k hk => hok k ((el i x u hx hu).1 k hk).1.1), fun i j u u' hij hu hu' k hk hk' => ?_⟩
  · rcases ho.2 with h2 | ⟨g, cap, cur, rfl, _, r⟩
    · exact .inl h2
    · exact .inr ⟨g, cap, cur, rfl, hlb g rfl, r⟩
  · obtain ⟨hi1, _⟩ := List.getElem?_eq_some_iff.1 hu
    obtain ⟨hj1, _⟩ := List.getElem?_eq_some_iff.1 hu'
    rw [hl] at hi1 hj1
    have h1 := ((el i _ u (List.getElem?_eq_getElem hi1) hu).1 k hk).2
    have h2 := ((el j _ u' (List.getElem?_eq_getElem hj1) hu').1 k hk').2
    exact hij (h1.symm.trans h2)
/-- What a call has made, with all that it leads to. -/
theorem of_made {e t : Nat} (h : (Kd.slice t (Kd.int .i64)).S e w1 lo (fun _ => True) v m) : ∃ vs, Mx e t w1 lo w1.heap.size v m vs := of_S (Kd.S_mono (Kd.S_bound h) (fun k hk => ⟨hk.2.1, hk.2.2.1⟩ : ∀ k, _ → lo ≤ k ∧ k < w1.heap.size)) (fun k hk => hk.2)
open Classical in
/-- Into the print's word. -/
theorem Mx.S (h : Mx e t w lo hi v m vs) (het : e ≠ t) : (Kd.slice t (Kd.int .i64)).S e w lo (fun k => k < hi) v m := by
  refine ⟨fun k => if hq : ∃ (i : Nat) (u : Value), vs[i]? = some u ∧ u.ownBlock = some k then Classical.choose hq else 0, h.top, vs, by rw [List.length_zipIdx]; exact h.own, ?_, fun j p hj => ?_⟩
  · rw [List.length_zipIdx, h.len]; exact (Nat.mul_one _).symm
  · rw [List.getElem?_zipIdx, Nat.zero_add] at hj
    obtain ⟨x, hx, rfl⟩ := Option.map_eq_some_iff.1 hj
    obtain ⟨hjl, _⟩ := List.getElem?_eq_some_iff.1 hx
    obtain ⟨u, hu⟩ := h.at_ hjl
    refine ⟨u, ?_, ?_⟩
    · show (vs.drop (j * 1)).take 1 = [u]
      rw [Nat.mul_one, List.take_one, List.head?_drop, hu]; rfl
    · have hR := h.row j x u hx hu
      refine Kd.R_mono (Kd.R_tight rfl hR) (fun k hk => ⟨⟨hR.1 k hk.symm, h.apart het hx hu k hk.symm⟩, ?_⟩)
      have hq : ∃ (i : Nat) (u : Value), vs[i]? = some u ∧ u.ownBlock = some k := ⟨j, u, hu, hk.symm⟩
      show (if hq : ∃ (i : Nat) (u : Value), vs[i]? = some u ∧ u.ownBlock = some k then Classical.choose hq else 0) = j
      rw [dif_pos hq]
      obtain ⟨u', hu', hk'⟩ := Classical.choose_spec hq
      by_cases hne : Classical.choose hq = j
      · exact hne
      · exact absurd hk.symm (h.ne _ _ u' u hne hu' hu k hk')
theorem Mx.C (h : Mx e t w lo hi v m vs) (het : e ≠ t) : ∃ A c, v = .slice A m.length c ∧ m.length ≤ c ∧ (Kd.slice t (Kd.int .i64)).C w A m.length m := Kd.R_reads (Kd.S_R (h.S het))
theorem Mx.C' {A : Option Addr} {n c : Nat} (h : Mx e t w lo hi (.slice A n c) m vs) (het : e ≠ t) : n = m.length ∧ n ≤ c ∧ (Kd.slice t (Kd.int .i64)).C w A m.length m := Kd.R_reads' (Kd.S_R (h.S het))
theorem row_moved {lo hi : Nat} {u : Value} {x : List Int} (h : (Kd.int .i64).R t w lo (fun k => k < hi) u x) (hm : ∀ k, u.ownBlock = some k → k < w.heap.size → w1.heap[k]? = w.heap[k]?) : (Kd.int .i64).R t w1 lo (fun k => k < hi) u x :=
  Kd.R_mono (Kd.R_step (Kd.R_tight rfl h) (fun k hk hlt => hm k hk.symm hlt)) (fun k hk => h.1 k hk.symm)
theorem row_lo {lo hi : Nat} {u : Value} {x : List Int} (h : (Kd.int .i64).R t w lo (fun k => k < hi) u x) (k : Nat) (hk : u.ownBlock = some k) : lo ≤ k ∧ k < hi ∧ k < w.heap.size := ⟨Kd.R_base h k hk, h.1 k hk, Kd.R_lt h k hk⟩
/-- A row whose block is known lies where that block lies. -/
theorem row_base {b lo hi : Nat} {ok : Nat → Prop} {u : Value} {x : List Int} (h : (Kd.int .i64).R t w b ok u x) (hk : ∀ k, u.ownBlock = some k → lo ≤ k ∧ k < hi) : (Kd.int .i64).R t w lo (fun k => k < hi) u x := by
  obtain ⟨_, inner, ho, hr⟩ := h
  refine ⟨fun k h => (hk k h).2, inner, ?_, hr⟩
  refine ⟨ho.1, ?_⟩
  rcases ho.2 with h2 | ⟨g, cap, cur, rfl, _, r⟩
  · exact .inl h2
  · exact .inr ⟨g, cap, cur, rfl, (hk g rfl).1, r⟩
theorem Mx.lo_ (h : Mx e t w lo hi v m vs) (k : Nat) (hk : v.ownBlock = some k) : lo ≤ k ∧ k < hi ∧ k < w.heap.size := ⟨own_base h.own k hk, h.top k hk, own_lt h.own k hk⟩
/-- What lies in its blocks is as it was. -/
theorem Mx.moved (h : Mx e t w lo hi v m vs) (hm : ∀ k, lo ≤ k → k < hi → k < w.heap.size → w1.heap[k]? = w.heap[k]?) : Mx e t w1 lo hi v m vs :=
  ⟨own_move h.own (fun k hk => hm k (h.lo_ k hk).1 (h.lo_ k hk).2.1 (h.lo_ k hk).2.2), h.top,
    fun i x u hx hu => row_moved (h.row i x u hx hu) (fun k hk hlt => hm k (row_lo (h.row i x u hx hu) k hk).1 (row_lo (h.row i x u hx hu) k hk).2.1 hlt), h.ne⟩
theorem Mx.below (h : Mx e t w lo hi v m vs) (hb : Below w.heap.size w w1) : Mx e t w1 lo hi v m vs := h.moved (fun k _ _ hk => hb.block k hk)
theorem Mx.only {lo' hi' : Nat} (h : Mx e t w lo hi v m vs) (ho : Only lo' hi' w w1) (hd : hi ≤ lo' ∨ hi' ≤ lo) : Mx e t w1 lo hi v m vs := h.moved (fun k h0 h1 hk => ho.block k hk (by omega))
theorem Mx.widen {lo' hi' : Nat} (h : Mx e t w lo hi v m vs) (hl : lo' ≤ lo) (hh : hi ≤ hi') : Mx e t w lo' hi' v m vs :=
  ⟨own_weaken h.own hl, fun k hk => Nat.lt_of_lt_of_le (h.top k hk) hh, fun i x u hx hu => Kd.R_mono (Kd.R_lower (h.row i x u hx hu) hl) (fun k hk => Nat.lt_of_lt_of_le hk hh), h.ne⟩
/-- A row has been written: the others are as they were. -/
theorem Mx.put (h : Mx e t w lo hi v m vs) (het : e ≠ t) {i : Nat} {u : Value} {x' : List Int} (hu : vs[i]? = some u) (hk : ∀ k, k < w.heap.size → some k ≠ u.ownBlock → w1.heap[k]? = w.heap[k]?)
    (hR : (Kd.int .i64).R t w1 lo (fun k => k < hi) u x') : Mx e t w1 lo hi v (m.set i x') vs := by
  have hil : i < m.length := by rw [← h.len]; exact (List.getElem?_eq_some_iff.1 hu).1
  refine ⟨?_, h.top, fun j x u' hx hu' => ?_, h.ne⟩
  · rw [List.length_set]
    exact own_move h.own (fun k hkv => hk k (own_lt h.own k hkv) (fun he => h.apart het (List.getElem?_eq_getElem hil) hu k he.symm hkv.symm))
  · by_cases hij : i = j
    · subst hij
      rw [List.getElem?_set_self hil] at hx
      injection hx with hx
      subst hx
      rw [hu] at hu'
      injection hu' with hu'
      subst hu'
      exact hR
    · rw [List.getElem?_set_ne hij] at hx
      exact row_moved (h.row j x u' hx hu') (fun k hkv hlt => hk k hlt (fun he => h.ne i j u u' hij hu hu' k he.symm hkv))
/-- Its cells. -/
theorem Mx.cells (h : Mx e t w lo hi v m vs) (hp : 0 < m.length) : ∃ g cap, v = .slice (some ⟨g, 0, none⟩) m.length cap ∧ lo ≤ g ∧ g < hi ∧ g < w.heap.size ∧ m.length ≤ cap ∧
    ∀ i u, vs[i]? = some u → w.cell? ⟨g, i, none⟩ = some u ∧ w.frozen? ⟨g, i, none⟩ = false := by
  have hown := h.own
  rcases hown.2 with ⟨_, h1⟩ | ⟨g, cap, cur, rfl, hb, hh, hc, hm, hs, hx⟩
  · omega
  · refine ⟨g, cap, rfl, hb, h.top g rfl, own_lt h.own g rfl, hc, fun i u hu => ⟨?_, ?_⟩⟩
    · have := hown.cells (g := g) rfl i u hu
      rwa [add_plain] at this
    · unfold World.frozen?
      rw [hh]
      simp
theorem Mx.cellg {g n cap i : Nat} {u : Value} (h : Mx e t w lo hi (.slice (some ⟨g, 0, none⟩) n cap) m vs) (hu : vs[i]? = some u) : w.cell? ⟨g, i, none⟩ = some u ∧ w.frozen? ⟨g, i, none⟩ = false ∧ lo ≤ g ∧ g < w.heap.size := by
  have hil : i < m.length := by rw [← h.len]; exact (List.getElem?_eq_some_iff.1 hu).1
  obtain ⟨g2, cap2, hv, h1, h2, h3, h4, h5⟩ := h.cells (by omega)
  injection hv with hv _ _
  injection hv with hv
  injection hv with hv
  subst hv
  exact ⟨(h5 i u hu).1, (h5 i u hu).2, h1, h3⟩
/-- Two rows have changed places. -/
theorem Mx.swap {g cap a b : Nat} {xa xb : List Int} {ua ub : Value} (h : Mx e t w lo hi (.slice (some ⟨g, 0, none⟩) m.length cap) m vs) (hty : e ≠ t) (ha : m[a]? = some xa) (hb : m[b]? = some xb) (hua : vs[a]? = some ua) (hub : vs[b]? = some ub) :
    Mx e t ((w.setCell ⟨g, a, none⟩ ub).setCell ⟨g, b, none⟩ ua) lo hi (.slice (some ⟨g, 0, none⟩) m.length cap) ((m.set a xb).set b xa) ((vs.set a ub).set b ua) ∧ Only g (g + 1) w ((w.setCell ⟨g, a, none⟩ ub).setCell ⟨g, b, none⟩ ua) := by
  have hal : a < m.length := (List.getElem?_eq_some_iff.1 ha).1
  have hbl : b < m.length := (List.getElem?_eq_some_iff.1 hb).1
  have hav : a < vs.length := (List.getElem?_eq_some_iff.1 hua).1
  have hbv : b < vs.length := (List.getElem?_eq_some_iff.1 hub).1
  have s1 := h.own.stored a ub
  have s2 := s1.1.stored b ua
  have hbk : ∀ k, k ≠ g → ((w.setCell ⟨g, a, none⟩ ub).setCell ⟨g, b, none⟩ ua).heap[k]? = w.heap[k]? := fun k hk =>
    (Below.heap_setCell _ ⟨g, b, none⟩ ua k hk).trans (Below.heap_setCell w ⟨g, a, none⟩ ub k hk)
  have het : ∀ (i : Nat) (x : List Int) (u : Value), m[i]? = some x → vs[i]? = some u → ∀ k, u.ownBlock = some k → k ≠ g := fun i x u hx hu k hk he => h.apart hty hx hu k hk (by rw [he]; rfl)
  -- where a row of the new order stood
  have ex : ∀ (j : Nat) (x : List Int) (u : Value), ((m.set a xb).set b xa)[j]? = some x → ((vs.set a ub).set b ua)[j]? = some u → ∃ i : Nat, m[i]? = some x ∧ vs[i]? = some u ∧ i = if j = b then a else if j = a then b else j := by
    intro j x u hx hu
    by_cases hjb : j = b
    · subst hjb
      rw [List.getElem?_set_self (by rw [List.length_set]; exact hbl)] at hx
      rw [List.getElem?_set_self (by rw [List.length_set]; exact hbv)] at hu
      injection hx with hx
      injection hu with hu
      exact ⟨a, by rw [ha, hx], by rw [hua, hu], by rw [if_pos rfl]⟩
    · rw [List.getElem?_set_ne (Ne.symm hjb)] at hx hu
      by_cases hja : j = a
      · subst hja
        rw [List.getElem?_set_self hal] at hx
        rw [List.getElem?_set_self hav] at hu
        injection hx with hx
        injection hu with hu
        exact ⟨b, by rw [hb, hx], by rw [hub, hu], by rw [if_neg hjb, if_pos rfl]⟩
      · rw [List.getElem?_set_ne (Ne.symm hja)] at hx hu
        exact ⟨j, hx, hu, by rw [if_neg hjb, if_neg hja]⟩
  have exu : ∀ (j : Nat) (u : Value), ((vs.set a ub).set b ua)[j]? = some u → ∃ x, ((m.set a xb).set b xa)[j]? = some x := fun j u hu =>
    ⟨_, List.getElem?_eq_getElem (by have := (List.getElem?_eq_some_iff.1 hu).1; simp only [List.length_set] at this ⊢; rw [← h.len]; exact this)⟩
  refine ⟨⟨by simp only [List.length_set]; exact s2.1, h.top, fun j x u hx hu => ?_, fun i j u u' hij hu hu' => ?_⟩, ⟨rfl, rfl, rfl, by simp [World.setCell], fun k _ hk => hbk k (by omega)⟩⟩
  · obtain ⟨i, hx, hu, _⟩ := ex j x u hx hu
    exact row_moved (h.row i x u hx hu) (fun k hk _ => hbk k (het i x u hx hu k hk))
  · obtain ⟨x, hx⟩ := exu i u hu
    obtain ⟨x', hx'⟩ := exu j u' hu'
    obtain ⟨i0, _, h0, e0⟩ := ex i x u hx hu
    obtain ⟨j0, _, h1, e1⟩ := ex j x' u' hx' hu'
    refine h.ne i0 j0 u u' (fun he => hij ?_) h0 h1
    rw [e0, e1] at he
    (repeat' split at he) <;> omega
/-- A row has been put to a place: it shares no memory with the others. -/
theorem Mx.place' {g cap i : Nat} {x' : List Int} {u' : Value} (h : Mx e t w lo hi (.slice (some ⟨g, 0, none⟩) m.length cap) m vs) (het : e ≠ t) (hil : i < m.length) (hR : (Kd.int .i64).R t w lo (fun k => k < hi) u' x')
    (hne : ∀ (j : Nat) (u : Value), i ≠ j → vs[j]? = some u → NeRow u' u) :
    Mx e t (w.setCell ⟨g, i, none⟩ u') lo hi (.slice (some ⟨g, 0, none⟩) m.length cap) (m.set i x') (vs.set i u') ∧ Only g (g + 1) w (w.setCell ⟨g, i, none⟩ u') := by
  have hiv : i < vs.length := by rw [h.len]; exact hil
  have s1 := h.own.stored i u'
  have hbk : ∀ k, k ≠ g → (w.setCell ⟨g, i, none⟩ u').heap[k]? = w.heap[k]? := fun k hk => Below.heap_setCell w ⟨g, i, none⟩ u' k hk
  have hg' : ∀ k, u'.ownBlock = some k → k ≠ g := by
    intro k hk he
    subst he
    have ho := Kd.own_of_R hR
    rcases own_type_ne h.own ho het with h1 | h1
    · cases h1
    · exact h1 (by rw [hk]; rfl)
  refine ⟨⟨by rw [List.length_set]; exact s1.1, h.top, fun j x u hx hu => ?_, fun a b u u2 hab hu hu2 => ?_⟩, ⟨rfl, rfl, rfl, by simp [World.setCell], fun k _ hk => hbk k (by omega)⟩⟩
  · by_cases hij : i = j
    · subst hij
      rw [List.getElem?_set_self hil] at hx
      rw [List.getElem?_set_self hiv] at hu
      injection hx with hx
      injection hu with hu
      subst hx hu
      exact row_moved hR (fun k hk _ => hbk k (hg' k hk))
    · rw [List.getElem?_set_ne hij] at hx hu
      exact row_moved (h.row j x u hx hu) (fun k hk _ => hbk k (fun he => h.apart het hx hu k hk (by rw [he]; rfl)))
  · by_cases ha : i = a
    · subst ha
      rw [List.getElem?_set_self hiv] at hu
      rw [List.getElem?_set_ne hab] at hu2
      injection hu with hu
      subst hu
      exact hne b u2 hab hu2
    · rw [List.getElem?_set_ne ha] at hu
      by_cases hb : i = b
      · subst hb
        rw [List.getElem?_set_self hiv] at hu2
        injection hu2 with hu2
        subst hu2
        exact ne_symm (hne a u ha hu)
      · rw [List.getElem?_set_ne hb] at hu2
        exact h.ne a b u u2 hab hu hu2
theorem Mx.place {g cap i : Nat} {x' : List Int} {u' : Value} (h : Mx e t w lo hi (.slice (some ⟨g, 0, none⟩) m.length cap) m vs) (het : e ≠ t) (hil : i < m.length) (hR : (Kd.int .i64).R t w lo (fun k => k < hi) u' x')
    (hne : ∀ (j : Nat) (u : Value), vs[j]? = some u → NeRow u' u) :
    Mx e t (w.setCell ⟨g, i, none⟩ u') lo hi (.slice (some ⟨g, 0, none⟩) m.length cap) (m.set i x') (vs.set i u') ∧ Only g (g + 1) w (w.setCell ⟨g, i, none⟩ u') := h.place' het hil hR (fun j u _ hu => hne j u hu)
/-- What was made since is no row of an elder one. -/
theorem Mx.new {W : World} {ok : Nat → Prop} {u' : Value} {x' : List Int} (h : Mx e t W lo hi v m vs) (hR : (Kd.int .i64).R t w W.heap.size ok u' x') : ∀ (j : Nat) (u : Value), vs[j]? = some u → NeRow u' u := by
  intro j u hu k hk hk'
  have hj : j < m.length := by rw [← h.len]; exact (List.getElem?_eq_some_iff.1 hu).1
  have h1 := row_lo (h.row j _ u (List.getElem?_eq_getElem hj) hu) k hk'
  have h2 := Kd.R_base hR k hk
  omega
/-- A row of a list of rows that is read. -/
theorem rows_at {w : World} {A : Option Addr} {n : Nat} {E : TypeId} {xs : List (List Int)} (h : Kd.C (Kd.slice E (Kd.int .i64)) w A n xs) (i : Nat) (hi : i < n) (hx : i < xs.length) :
    ∃ ad A0 c0, A = some ad ∧ w.cell? (ad.add i) = some (.slice A0 (xs[i]).length c0) ∧ (xs[i]).length ≤ c0 ∧ (Kd.int .i64).C w A0 (xs[i]).length xs[i] := by
  obtain ⟨ad, c, e, _, hK, hc0⟩ := Kd.C_get h ([] : List Int) (i : Int) (by omega) (by omega)
  have hc : ∀ j u, c[j]? = some u → w.cell? (ad.add ((i : Int).toNat * 1 + j)) = some u := hc0
  have e1 : xs.getD (i : Int).toNat ([] : List Int) = xs[i] := by
    rw [Int.toNat_natCast, List.getD_eq_getElem?_getD, List.getElem?_eq_getElem hx]; rfl
  rw [e1] at hK
  obtain ⟨A0, c0, rfl, l0, g0⟩ := hK
  exact ⟨ad, A0, c0, e, by have hq := hc 0 _ rfl; rwa [Nat.mul_one, Nat.add_zero, Int.toNat_natCast] at hq, l0, g0⟩
/-- What a call has made, as a row. -/
theorem row_made {W : World} {u : Value} {x : List Int} (h : (Kd.int .i64).R t w W.heap.size (fun _ => True) u x) {lo : Nat} (hl : lo ≤ W.heap.size) : (Kd.int .i64).R t w lo (fun k => k < w.heap.size) u x :=
  row_base h (fun k hk => ⟨Nat.le_trans hl (Kd.R_base h k hk), Kd.R_lt h k hk⟩)
/-- n rows that are nil. -/
theorem Mx.nils (W : World) (lo n : Nat) (hl : lo ≤ W.heap.size) (hn : n ≤ 9223372036854775807) : Mx e t (W.alloc (.cells (madeCells #[.slice none 0 0] n) e)) lo (W.heap.size + 1) (.slice (some ⟨W.heap.size, 0, none⟩) n n) (List.replicate n []) (List.replicate n (.slice none 0 0)) := by
  have ho := own_made_of (enc := fun v : Value => v) (d := .slice none 0 0) W lo e n hl hn
  have he : encs (fun v : Value => v) (List.replicate n (.slice none 0 0)) = List.replicate n (Value.slice none 0 0) := List.map_id' _
  rw [he] at ho
  refine ⟨by rw [List.length_replicate]; exact ho, fun k hk => ?_, fun i x u hx hu => ?_, fun i j u u' _ hu hu' => ?_⟩
  · have : W.heap.size = k := by simpa [Value.ownBlock] using hk
    omega
  · have h1 := (List.mem_replicate.1 (List.mem_of_getElem? hx)).2
    have h2 := (List.mem_replicate.1 (List.mem_of_getElem? hu)).2
    subst h1 h2
    exact Kd.R_nil _ _ _ _ _
  · have h2 := (List.mem_replicate.1 (List.mem_of_getElem? hu)).2
    subst h2
    exact ne_nil u'
end
end Go.Proofs.Ytldlldfoaicjcaa.Mx
