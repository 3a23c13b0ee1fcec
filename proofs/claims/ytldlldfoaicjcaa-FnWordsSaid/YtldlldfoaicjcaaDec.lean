/-
  Decoding words of the code, no program in sight: what a decoder makes of a word, and that it finds a word of the code back out of one that differs in few places. Conditions are typed at each lemma.
-/
import Derived.Test.YtldlldfoaicjcaaEnc
import Derived.Test.YtldlldfoaicjcaaMat
set_option linter.unusedVariables false
namespace Go.Proofs.Ytldlldfoaicjcaa.Dec
open Go.Proofs.Ytldlldfoaicjcaa.Gf Go.Proofs.Ytldlldfoaicjcaa.Gfx Go.Proofs.Ytldlldfoaicjcaa.Lin Go.Proofs.Ytldlldfoaicjcaa.Root Go.Proofs.Ytldlldfoaicjcaa.Poly Go.Proofs.Ytldlldfoaicjcaa.Pev Go.Proofs.Ytldlldfoaicjcaa.Enc Go.Proofs.Ytldlldfoaicjcaa.Elim Go.Proofs.Ytldlldfoaicjcaa.Mat
attribute [local irreducible] gm gi

/-- The powers of points: row k, column i is the point of place i to the k. -/
def vrow (ps : List Nat) (k : Nat) : List Nat := ps.map fun p => pw 2 (p * k)
def vm (ps : List Nat) : List (List Nat) := (List.range ps.length).map (vrow ps)
theorem vrow_length (ps : List Nat) (k : Nat) : (vrow ps k).length = ps.length := List.length_map _
theorem vrow_Bs (ps : List Nat) (k : Nat) : Bs (vrow ps k) := fun x hx => by
  obtain ⟨p, _, rfl⟩ := List.mem_map.1 hx
  exact pw_lt _
theorem vm_length (ps : List Nat) : (vm ps).length = ps.length := by simp [vm]
theorem vm_MB (ps : List Nat) : MB' ps.length (vm ps) := fun r hr => by
  obtain ⟨k, _, rfl⟩ := List.mem_map.1 hr
  exact ⟨vrow_length ps k, vrow_Bs ps k⟩
theorem vm_getD (ps : List Nat) {k : Nat} (hk : k < ps.length) : (vm ps).getD k [] = vrow ps k := by
  unfold vm
  rw [List.getD_eq_getElem?_getD, List.getElem?_map, List.getElem?_range hk]; rfl
theorem vm_fn (ps : List Nat) {k j : Nat} (hk : k < ps.length) (hj : j < ps.length) : fn (vm ps) k j = pw (pw 2 (ps.getD j 0)) k := by
  unfold fn
  rw [vm_getD ps hk]
  unfold vrow
  rw [List.getD_eq_getElem?_getD, List.getElem?_map, List.getElem?_eq_getElem hj, pw_mul (by decide), List.getD_eq_getElem?_getD, List.getElem?_eq_getElem hj]; rfl
/-- A sum over a list, and over its places. -/
theorem ls_xs (f : Nat × Nat → Nat) : ∀ (l : List (Nat × Nat)), ls f l = xs l.length (fun j => f (l.getD j (0, 0)))
  | [] => rfl
  | a :: l => by
    rw [List.length_cons, xs_succ]
    show f a ^^^ ls f l = _
    rw [ls_xs f l]; rfl
/-- Points with numbers. -/
def pts (ps : List Nat) (x : Nat → Nat) : List (Nat × Nat) := (List.range ps.length).map fun j => (pw 2 (ps.getD j 0), x j)
theorem pts_length (ps : List Nat) (x : Nat → Nat) : (pts ps x).length = ps.length := by simp [pts]
theorem pts_PB (ps : List Nat) {x : Nat → Nat} (hx : ∀ j, x j < 256) : PB (pts ps x) := fun a ha => by
  obtain ⟨j, _, rfl⟩ := List.mem_map.1 ha
  exact ⟨pw_lt _, hx j⟩
theorem range_getD (ps : List Nat) : (List.range ps.length).map (fun j => ps.getD j 0) = ps := by
  apply List.ext_getElem (by simp)
  intro i h1 h2
  simp [List.getElem?_eq_getElem h2]
theorem pts_fst (ps : List Nat) (x : Nat → Nat) : (pts ps x).map (·.1) = ps.map fun p => pw 2 p := by
  unfold pts
  rw [List.map_map]
  conv => rhs; rw [← range_getD ps]
  rw [List.map_map]; rfl
theorem pts_dot (ps : List Nat) (x : Nat → Nat) {k : Nat} (hx : ∀ j, x j < 256) (hk : k < ps.length) : ls (fun a => gm a.2 (pw a.1 k)) (pts ps x) = dot ps.length (fn (vm ps) k) x := by
  rw [ls_xs, pts_length]
  refine xs_congr fun j hj => ?_
  have e : (pts ps x).getD j (0, 0) = (pw 2 (ps.getD j 0), x j) := by
    unfold pts
    rw [List.getD_eq_getElem?_getD, List.getElem?_map, List.getElem?_range hj]; rfl
  rw [e, vm_fn ps hk hj]
  exact gm_comm (hx j) (pw_lt _)
/-- The powers of points that are not the same can be inverted. -/
theorem vm_inv {ps : List Nat} (hn : ps.Nodup) (hb : ∀ p ∈ ps, p < 255) : ∃ S, inv (vm ps) = some S := by
  by_cases hr : rank (vm ps).length (vm ps) < (vm ps).length
  · exfalso
    rw [vm_length] at hr
    obtain ⟨v, h1, ⟨j, hj, h2⟩, h3⟩ := rank_kernel (vm_MB ps) hr
    rw [vm_length] at h3
    have hv := vander (pts ps v) (pts_PB ps h1) (by rw [pts_fst]; exact nodup_pw ps hn hb) (fun k hk => by
      rw [pts_length] at hk
      rw [pts_dot ps v h1 hk]
      exact h3 k hk)
    exact h2 (hv (pw 2 (ps.getD j 0), v j) (List.mem_map.2 ⟨j, List.mem_range.2 hj, rfl⟩))
  · exact ⟨_, by unfold inv; rw [if_neg hr]⟩
/-- What answers the powers' equations. -/
theorem vm_solve {ps : List Nat} {S : List (List Nat)} (hS : inv (vm ps) = some S) {x : List Nat} (hx : Bs x) (hxl : x.length = ps.length) {s : List Nat} (hs : Bs s) (hsl : s.length = ps.length)
    (h : ∀ k, k < ps.length → s.getD k 0 = ls (fun a => gm a.2 (pw a.1 k)) (pts ps fun j => x.getD j 0)) : colM S s = x := by
  have hm := inv_MB (vm_MB ps) (vm_length ps) hS
  have hi := (inv_iff (vm_MB ps) (vm_length ps) hS (fun j => x.getD j 0) (fun j => s.getD j 0) (fun j => getD_lt hx j) (fun j => getD_lt hs j)).1 (fun k hk => by
    rw [← pts_dot ps _ (fun j => getD_lt hx j) hk]
    exact (h k hk).symm)
  apply List.ext_getElem (by rw [colM_length, hm.2, hxl])
  intro i h1 h2
  have e1 := colM_getD S s (i := i) (by rw [colM_length] at h1; exact h1)
  have hil : i < ps.length := by omega
  rw [dotL_dot _ _ (by rw [(hm.1.get (i := i) (by omega)).1, hsl]), hsl] at e1
  have e2 := e1.trans (hi i hil)
  rw [List.getD_eq_getElem?_getD, List.getElem?_eq_getElem h1, List.getD_eq_getElem?_getD, List.getElem?_eq_getElem h2] at e2
  exact e2
/-- The numbers added at places. -/
def fixL : List Nat → List Nat → List Nat → List Nat
  | w, [], _ => w
  | w, _ :: _, [] => w
  | w, p :: ps, x :: v => fixL (w.set p (w.getD p 0 ^^^ x)) ps v
theorem fixL_length : ∀ (ps v w : List Nat), (fixL w ps v).length = w.length
  | [], _, _ => by unfold fixL; rfl
  | _ :: _, [], _ => by unfold fixL; rfl
  | p :: ps, x :: v, w => by unfold fixL; rw [fixL_length ps v]; exact List.length_set ..
theorem fixL_Bs : ∀ (ps : List Nat) {v w : List Nat}, Bs v → Bs w → Bs (fixL w ps v)
  | [], _, _, _, h => by unfold fixL; exact h
  | _ :: _, [], _, _, h => by unfold fixL; exact h
  | p :: ps, x :: v, w, hv, h => by unfold fixL; exact fixL_Bs ps hv.tail (AllB.set h _ (xor_byte (getD_lt h _) hv.head))
theorem fixL_getD : ∀ (ps : List Nat) (f : Nat → Nat) (w : List Nat) (i : Nat), ps.Nodup → (∀ p ∈ ps, p < w.length) → (fixL w ps (ps.map f)).getD i 0 = if i ∈ ps then w.getD i 0 ^^^ f i else w.getD i 0
  | [], f, w, i, _, _ => by simp [fixL]
  | p :: ps, f, w, i, hn, hb => by
    rw [List.nodup_cons] at hn
    rw [List.map_cons]
    unfold fixL
    have hp := hb p List.mem_cons_self
    rw [fixL_getD ps f _ i hn.2 (fun q hq => by rw [List.length_set]; exact hb q (List.mem_cons_of_mem _ hq)), getD_set _ _ _ _ hp]
    by_cases e : i = p
    · subst e
      rw [if_neg hn.1, if_pos rfl, if_pos List.mem_cons_self]
    · rw [if_neg e]
      by_cases e2 : i ∈ ps
      · rw [if_pos e2, if_pos (List.mem_cons_of_mem _ e2)]
      · rw [if_neg e2, if_neg (fun h => (List.mem_cons.1 h).elim e e2)]
theorem fixL_snoc : ∀ (ps v w : List Nat) (p x : Nat), ps.length = v.length → fixL w (ps ++ [p]) (v ++ [x]) = (fixL w ps v).set p ((fixL w ps v).getD p 0 ^^^ x)
  | [], [], _, _, _, _ => by simp [fixL]
  | [], _ :: _, _, _, _, h => by cases h
  | _ :: _, [], _, _, _, h => by cases h
  | q :: ps, y :: v, w, p, x, h => by
    rw [List.cons_append, List.cons_append]
    unfold fixL
    exact fixL_snoc ps v _ p x (by simpa using h)
theorem fixL_step (w ps v : List Nat) {i : Nat} (hl : ps.length = v.length) (hi : i < ps.length) : (fixL w (ps.take i) (v.take i)).set (ps.getD i 0) ((fixL w (ps.take i) (v.take i)).getD (ps.getD i 0) 0 ^^^ v.getD i 0) = fixL w (ps.take (i + 1)) (v.take (i + 1)) := by
  rw [List.take_succ_eq_append_getElem hi, List.take_succ_eq_append_getElem (show i < v.length by omega), fixL_snoc _ _ _ _ _ (by rw [List.length_take, List.length_take, hl]), List.getD_eq_getElem?_getD (l := ps), List.getElem?_eq_getElem hi, List.getD_eq_getElem?_getD (l := v), List.getElem?_eq_getElem (show i < v.length by omega)]; rfl
theorem fixL_zero (w ps v : List Nat) : fixL w (ps.take 0) (v.take 0) = w := by simp [fixL]
theorem getD_ext {a b : List Nat} (hl : a.length = b.length) (h : ∀ i, i < a.length → a.getD i 0 = b.getD i 0) : a = b := by
  apply List.ext_getElem hl
  intro i h1 h2
  have := h i h1
  rwa [List.getD_eq_getElem?_getD, List.getElem?_eq_getElem h1, List.getD_eq_getElem?_getD, List.getElem?_eq_getElem h2] at this
theorem difs_nil {a b : List Nat} (hl : a.length = b.length) (h : difs a b = []) : a = b := getD_ext hl fun i hi => by
  apply Classical.byContradiction
  intro hne
  have : i ∈ difs a b := mem_difs.2 ⟨hi, hne⟩
  rw [h] at this
  cases this
theorem difs_self (a : List Nat) : difs a a = [] := by
  unfold difs
  rw [List.filter_eq_nil_iff]
  intro i _
  simp
/-- What was added, taken off again. -/
theorem fix_errs {a b : List Nat} (ha : Bs a) (hb : Bs b) (hl : a.length = b.length) : fixL a (difs a b) ((errs a b).map (·.2)) = b := by
  unfold errs
  rw [List.map_map]
  refine getD_ext (by rw [fixL_length, hl]) fun i hi => ?_
  rw [fixL_length] at hi
  rw [fixL_getD (difs a b) _ a i (difs_nodup a b) (fun p hp => (mem_difs.1 hp).1)]
  by_cases e : i ∈ difs a b
  · rw [if_pos e]
    show a.getD i 0 ^^^ (a.getD i 0 ^^^ b.getD i 0) = _
    rw [← Nat.xor_assoc, Nat.xor_self, Nat.zero_xor]
  · rw [if_neg e]
    apply Classical.byContradiction
    intro hne
    exact e (mem_difs.2 ⟨hi, hne⟩)

/-- The places whose inverted points are roots. -/
def plc (c : List Nat) (n : Nat) : List Nat := (List.range n).filter fun p => pe c (gi (pw 2 p)) == 0
theorem plc_nodup (c : List Nat) (n : Nat) : (plc c n).Nodup := List.Pairwise.filter _ List.nodup_range
theorem mem_plc {c : List Nat} {n p : Nat} : p ∈ plc c n ↔ p < n ∧ pe c (gi (pw 2 p)) = 0 := by
  unfold plc
  rw [List.mem_filter, List.mem_range]
  simp
theorem plc_length (c : List Nat) (n : Nat) : (plc c n).length ≤ n := by
  have := List.length_filter_le (fun p => pe c (gi (pw 2 p)) == 0) (List.range n)
  rw [List.length_range] at this
  exact this
/-- What is added at the places, if the equations have an answer. -/
def chg (s ps : List Nat) : Option (List Nat) := (inv (vm ps)).map fun S => colM S (s.take ps.length)
/-- What a decoder answers. -/
def decL (w : List Nat) (t : Nat) : Option (List Nat × Nat) :=
  if zer (syl w (2 * t)) = true then some (w, 0)
  else if 1 ≤ (plc (Bm.loc (syl w (2 * t))) w.length).length ∧ (plc (Bm.loc (syl w (2 * t))) w.length).length + 1 = (Bm.loc (syl w (2 * t))).length ∧ (plc (Bm.loc (syl w (2 * t))) w.length).length ≤ t then
    (chg (syl w (2 * t)) (plc (Bm.loc (syl w (2 * t))) w.length)).bind fun v =>
      if zer (syl (fixL w (plc (Bm.loc (syl w (2 * t))) w.length) v) (2 * t)) = true then some (fixL w (plc (Bm.loc (syl w (2 * t))) w.length) v, (v.filter (· != 0)).length) else none
  else none
theorem chg_props {s ps v : List Nat} (h : chg s ps = some v) : v.length = ps.length ∧ Bs v := by
  unfold chg at h
  cases e : inv (vm ps) with
  | none => rw [e] at h; cases h
  | some S =>
    rw [e] at h
    injection h with h
    subst h
    have hm := inv_MB (vm_MB ps) (vm_length ps) e
    exact ⟨by rw [colM_length, hm.2], colM_bytes hm.1 _⟩
theorem decL_props {w : List Nat} (hw : Bs w) {t : Nat} {o : List Nat} {n : Nat} (h : decL w t = some (o, n)) : Bs o ∧ o.length = w.length ∧ n ≤ t ∧ zer (syl o (2 * t)) = true := by
  unfold decL at h
  split at h
  · rename_i hz
    injection h with h
    injection h with h1 h2
    subst h1 h2
    exact ⟨hw, rfl, Nat.zero_le _, hz⟩
  split at h
  · rename_i hc
    rw [Option.bind_eq_some_iff] at h
    obtain ⟨v, hv, h⟩ := h
    split at h
    · rename_i hz
      injection h with h
      injection h with h1 h2
      subst h1 h2
      obtain ⟨hl, hb⟩ := chg_props hv
      exact ⟨fixL_Bs _ hb hw, fixL_length _ _ _, by have := List.length_filter_le (· != 0) v; omega, hz⟩
    · cases h
  · cases h
/-- A word of the code is found back. -/
theorem dec_back {a b : List Nat} {t : Nat} (ha : Bs a) (hb : Bs b) (hl : a.length = b.length) (hal : a.length ≤ 255) (hw : ∀ k, k < 2 * t → pe b (pw 2 k) = 0) (hd : (difs a b).length ≤ t) : decL a t = some (b, (difs a b).length) := by
  have hsyn : ∀ k, k < 2 * t → pe a (pw 2 k) = ls (fun x => gm x.2 (pw x.1 k)) (errs a b) := fun k hk => by
    rw [errs_syn ha hb hl k, hw k hk, Nat.xor_zero]
  unfold decL
  by_cases hz : zer (syl a (2 * t)) = true
  · rw [if_pos hz]
    have hnil : difs a b = [] := by
      apply Classical.byContradiction
      intro hne
      obtain ⟨i, hi⟩ := List.exists_mem_of_ne_nil _ hne
      have := far ha hb hl hal (zer_syl.1 hz) hw ⟨i, mem_difs.1 hi⟩
      omega
    rw [hnil, difs_nil hl hnil]; rfl
  · rw [if_neg hz]
    have hpos : 1 ≤ (difs a b).length := by
      apply Nat.lt_of_not_le
      intro h0
      have hnil : difs a b = [] := List.length_eq_zero_iff.1 (by omega)
      have := difs_nil hl hnil
      subst this
      exact hz (zer_syl.2 hw)
    obtain ⟨h1, h2⟩ := Bm.roots_of (s := syl a (2 * t)) (errs_PB ha hb) errs_pt errs_ne (errs_nodup hal) (fun k hk => by
      rw [syl_length] at hk
      rw [syl_getD a hk, hsyn k hk]; rfl) (by rw [errs_length, syl_length]; omega)
    have hpl : plc (Bm.loc (syl a (2 * t))) a.length = difs a b := by
      unfold plc difs
      refine List.filter_congr fun p hp => ?_
      rw [List.mem_range] at hp
      have h3 := h2 (pw 2 p) (pw_lt p) (pw_ne (by decide) (by decide) p)
      rw [Bool.eq_iff_iff, beq_iff_eq, h3, bne_iff_ne]
      constructor
      · intro hm
        obtain ⟨x, hx, e⟩ := List.mem_map.1 hm
        obtain ⟨q, hq, rfl⟩ := List.mem_map.1 hx
        have hq' := mem_difs.1 hq
        have : q = p := pw2_inj (by omega) (by omega) e
        subst this
        exact hq'.2
      · intro hne
        exact List.mem_map.2 ⟨_, List.mem_map.2 ⟨p, mem_difs.2 ⟨hp, hne⟩, rfl⟩, rfl⟩
    rw [hpl, if_pos ⟨hpos, by rw [h1, errs_length], hd⟩]
    obtain ⟨S, hS⟩ := vm_inv (difs_nodup a b) (fun p hp => by have := (mem_difs.1 hp).1; omega)
    have hx : Bs ((errs a b).map (·.2)) := fun x hx => by
      obtain ⟨y, hy, rfl⟩ := List.mem_map.1 hx
      exact (errs_PB ha hb y hy).2
    have hpts : pts (difs a b) (fun j => ((errs a b).map (·.2)).getD j 0) = errs a b := by
      unfold pts errs
      apply List.ext_getElem (by simp)
      intro i q1 q2
      simp only [List.length_map, List.length_range] at q1 q2
      simp [List.getElem?_eq_getElem q2]
    have hsol := vm_solve hS hx (by rw [List.length_map, errs_length]) (s := (syl a (2 * t)).take (difs a b).length) (AllB.take (syl_Bs ha _) _) (by rw [List.length_take, syl_length]; omega) (fun k hk => by
      rw [hpts, ← hsyn k (by omega), getD_take, if_pos hk, syl_getD a (by omega)])
    have hc : chg (syl a (2 * t)) (difs a b) = some ((errs a b).map (·.2)) := by
      unfold chg
      rw [hS, Option.map_some, hsol]
    rw [hc, Option.bind_some, fix_errs ha hb hl, if_pos (zer_syl.2 hw)]
    have hall : ((errs a b).map (·.2)).filter (· != 0) = (errs a b).map (·.2) := by
      rw [List.filter_eq_self]
      intro x hx
      obtain ⟨y, hy, rfl⟩ := List.mem_map.1 hx
      simpa using errs_ne y hy
    rw [hall, List.length_map, errs_length]
theorem filter_one {p q : Nat → Bool} {i : Nat} (h : ∀ j, j ≠ i → q j = true → p j = true) : ∀ (L : List Nat), L.Nodup → (L.filter q).length ≤ (L.filter p).length + (if i ∈ L then 1 else 0)
  | [], _ => by simp
  | x :: L, hn => by
    rw [List.nodup_cons] at hn
    have ih := filter_one h L hn.2
    by_cases e : x = i
    · subst e
      rw [if_neg hn.1] at ih
      rw [if_pos List.mem_cons_self, List.filter_cons, List.filter_cons]
      split <;> split <;> (try simp only [List.length_cons]) <;> omega
    · have e2 : (i ∈ x :: L) = (i ∈ L) := by
        rw [List.mem_cons]
        exact propext ⟨fun h => h.resolve_left (fun h => e h.symm), .inr⟩
      rw [List.filter_cons, List.filter_cons]
      simp only [e2]
      by_cases hq : q x = true
      · rw [if_pos hq, if_pos (h x e hq), List.length_cons, List.length_cons]; omega
      · rw [if_neg hq]
        split <;> (try simp only [List.length_cons]) <;> omega
/-- One number written makes one place more at most. -/
theorem difs_set (a b : List Nat) (i v : Nat) : (difs (a.set i v) b).length ≤ (difs a b).length + 1 := by
  unfold difs
  rw [List.length_set]
  refine Nat.le_trans (filter_one (i := i) (p := fun j => a.getD j 0 != b.getD j 0) (fun j hj hq => ?_) _ List.nodup_range) (by split <;> omega)
  have : (a.set i v).getD j 0 = a.getD j 0 := by
    rw [List.getD_eq_getElem?_getD, List.getElem?_set_ne (Ne.symm hj), List.getD_eq_getElem?_getD]
  rwa [this] at hq
theorem fixL_congr : ∀ (ps v w w' : List Nat) (j : Nat), (∀ p ∈ ps, p < w.length) → w.length = w'.length → w.getD j 0 = w'.getD j 0 → (fixL w ps v).getD j 0 = (fixL w' ps v).getD j 0
  | [], _, _, _, _, _, _, h => by unfold fixL; exact h
  | _ :: _, [], _, _, _, _, _, h => by unfold fixL; exact h
  | p :: ps, x :: v, w, w', j, hb, hl, h => by
    unfold fixL
    have hp := hb p List.mem_cons_self
    refine fixL_congr ps v _ _ j (fun q hq => by rw [List.length_set]; exact hb q (List.mem_cons_of_mem _ hq)) (by rw [List.length_set, List.length_set, hl]) ?_
    rw [getD_set _ _ _ _ hp, getD_set _ _ _ _ (by omega)]
    by_cases e : j = p
    · subst e; rw [if_pos rfl, if_pos rfl, h]
    · rw [if_neg e, if_neg e, h]
theorem fixL_ne : ∀ (ps v w : List Nat) (j : Nat), (∀ p ∈ ps, p < w.length) → j ∉ ps → (fixL w ps v).getD j 0 = w.getD j 0
  | [], _, _, _, _, _ => by unfold fixL; rfl
  | _ :: _, [], _, _, _, _ => by unfold fixL; rfl
  | p :: ps, x :: v, w, j, hb, hj => by
    unfold fixL
    have hp := hb p List.mem_cons_self
    rw [fixL_ne ps v _ j (fun q hq => by rw [List.length_set]; exact hb q (List.mem_cons_of_mem _ hq)) (fun h => hj (List.mem_cons_of_mem _ h)), getD_set _ _ _ _ hp, if_neg (fun h => hj (by rw [h]; exact List.mem_cons_self))]
theorem filter_two {q q' : Nat → Bool} {p : Nat} (h : ∀ j, j ≠ p → q j = q' j) (hp : q' p = false) : ∀ (L : List Nat), L.Nodup → (L.filter q).length = (L.filter q').length + (if p ∈ L ∧ q p = true then 1 else 0)
  | [], _ => by simp
  | x :: L, hn => by
    rw [List.nodup_cons] at hn
    have ih := filter_two h hp L hn.2
    by_cases e : x = p
    · subst e
      rw [if_neg (fun h => hn.1 h.1)] at ih
      rw [List.filter_cons, List.filter_cons, hp]
      simp only [Bool.false_eq_true, if_false]
      by_cases hq : q x = true
      · rw [if_pos hq, if_pos ⟨List.mem_cons_self, hq⟩, List.length_cons, ih]
      · rw [if_neg hq, if_neg (fun h => hq h.2), ih]
    · have e2 : (p ∈ x :: L) = (p ∈ L) := by
        rw [List.mem_cons]
        exact propext ⟨fun h => h.resolve_left (fun h => e h.symm), .inr⟩
      rw [List.filter_cons, List.filter_cons, h x e]
      simp only [e2]
      by_cases hq : q' x = true
      · rw [if_pos hq, if_pos hq, List.length_cons, List.length_cons, ih]; omega
      · rw [if_neg hq, if_neg hq, ih]
/-- As many places changed as numbers that are not 0. -/
theorem difs_fix : ∀ (ps v w : List Nat), ps.Nodup → (∀ p ∈ ps, p < w.length) → v.length = ps.length → (difs (fixL w ps v) w).length = (v.filter (· != 0)).length
  | [], v, w, _, _, hv => by
    have : v = [] := List.length_eq_zero_iff.1 hv
    subst this
    unfold fixL
    rw [difs_self]; rfl
  | _ :: _, [], _, _, _, hv => by cases hv
  | p :: ps, x :: v, w, hn, hb, hv => by
    rw [List.nodup_cons] at hn
    have hp := hb p List.mem_cons_self
    have hb' : ∀ q ∈ ps, q < w.length := fun q hq => hb q (List.mem_cons_of_mem _ hq)
    have ih := difs_fix ps v w hn.2 hb' (by simpa using hv)
    have e1 : ∀ j, (fixL w (p :: ps) (x :: v)).getD j 0 = if j = p then w.getD p 0 ^^^ x else (fixL w ps v).getD j 0 := fun j => by
      show (fixL (w.set p (w.getD p 0 ^^^ x)) ps v).getD j 0 = _
      have hbs : ∀ q ∈ ps, q < (w.set p (w.getD p 0 ^^^ x)).length := fun q hq => by rw [List.length_set]; exact hb' q hq
      by_cases e : j = p
      · subst e
        rw [if_pos rfl, fixL_ne ps v _ j hbs hn.1, getD_set _ _ _ _ hp, if_pos rfl]
      · rw [if_neg e]
        exact fixL_congr ps v _ _ j hbs (by rw [List.length_set]) (by rw [getD_set _ _ _ _ hp, if_neg e])
    have e2 := filter_two (p := p) (q := fun j => (fixL w (p :: ps) (x :: v)).getD j 0 != w.getD j 0) (q' := fun j => (fixL w ps v).getD j 0 != w.getD j 0) (fun j hj => by
      show ((fixL w (p :: ps) (x :: v)).getD j 0 != w.getD j 0) = _
      rw [e1 j, if_neg hj]) (by
      show ((fixL w ps v).getD p 0 != w.getD p 0) = false
      rw [fixL_ne ps v w p hb' hn.1, bne_self_eq_false]) (List.range w.length) List.nodup_range
    have e3 : (difs (fixL w (p :: ps) (x :: v)) w).length = (difs (fixL w ps v) w).length + (if p ∈ List.range w.length ∧ ((fixL w (p :: ps) (x :: v)).getD p 0 != w.getD p 0) = true then 1 else 0) := by
      unfold difs
      rw [fixL_length, fixL_length]
      exact e2
    rw [e3, ih, e1 p, if_pos rfl, List.filter_cons]
    have hm : p ∈ List.range w.length := List.mem_range.2 hp
    by_cases hx : x = 0
    · subst hx
      simp
    · have h1 : (w.getD p 0 ^^^ x != w.getD p 0) = true := by
        rw [bne_iff_ne]
        intro h
        apply hx
        have : w.getD p 0 ^^^ (w.getD p 0 ^^^ x) = 0 := by rw [h, Nat.xor_self]
        rwa [← Nat.xor_assoc, Nat.xor_self, Nat.zero_xor] at this
      rw [if_pos ⟨hm, h1⟩, if_pos (by simpa using hx), List.length_cons]
end Go.Proofs.Ytldlldfoaicjcaa.Dec
