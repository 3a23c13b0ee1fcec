/-
  MATRICES AS LISTS OF ROWS of natural numbers over the plain field of 256 elements: sums and multiples of rows, a step of the elimination, the elimination whole, the inverse; what the one side's and the other side's way of it come to. No program in sight. Conditions are typed at each lemma.
-/
import Derived.Test.YtldlldfoaicjcaaElim
import Derived.Test.YtldlldfoaicjcaaPev
set_option linter.unusedVariables false
namespace Go.Proofs.Ytldlldfoaicjcaa.Mat
open Go.Proofs.Ytldlldfoaicjcaa.Gf Go.Proofs.Ytldlldfoaicjcaa.Lin Go.Proofs.Ytldlldfoaicjcaa.Root Go.Proofs.Ytldlldfoaicjcaa.Elim Go.Proofs.Ytldlldfoaicjcaa.Pev
attribute [local irreducible] gm gi

/-- f times a row, added to a row. -/
def radd (f : Nat) (r o : List Nat) : List Nat := List.zipWith (fun x y => x ^^^ gm f y) r o
def rscale (f : Nat) (r : List Nat) : List Nat := r.map fun x => gm x f
/-- As the loop does it: i places are done. -/
def raddTo (f : Nat) (r o : List Nat) (i : Nat) : List Nat := radd f (r.take i) (o.take i) ++ r.drop i
def rscaleTo (f : Nat) (r : List Nat) (i : Nat) : List Nat := rscale f (r.take i) ++ r.drop i
theorem radd_length (f : Nat) {r o : List Nat} (h : r.length = o.length) : (radd f r o).length = r.length := by unfold radd; rw [List.length_zipWith]; omega
theorem rscale_length (f : Nat) (r : List Nat) : (rscale f r).length = r.length := by unfold rscale; rw [List.length_map]
theorem radd_bytes {f : Nat} (hf : f < 256) {r o : List Nat} (hr : Bs r) : Bs (radd f r o) := by
  intro x hx
  unfold radd at hx
  rw [List.mem_iff_getElem] at hx
  obtain ⟨i, hi, rfl⟩ := hx
  rw [List.getElem_zipWith]
  rw [List.length_zipWith] at hi
  exact xor_byte (hr _ (List.getElem_mem (by omega))) (gm_lt _ hf)
theorem rscale_bytes (f : Nat) {r : List Nat} (hr : Bs r) : Bs (rscale f r) := fun x hx => by
  obtain ⟨y, hy, rfl⟩ := List.mem_map.1 hx
  exact gm_lt _ (hr y hy)
theorem rscale_getD (f : Nat) (r : List Nat) (j : Nat) : (rscale f r).getD j 0 = gm (r.getD j 0) f := by
  unfold rscale
  simp only [List.getD_eq_getElem?_getD, List.getElem?_map]
  cases h : r[j]? with
  | none => simp [zero_gm]
  | some v => simp
theorem radd_nul : ∀ {r o : List Nat}, r.length = o.length → radd 0 r o = r
  | [], _, _ => by simp [radd]
  | x :: r, y :: o, h => by
    have ih := radd_nul (show r.length = o.length by simpa using h)
    unfold radd at ih ⊢
    rw [List.zipWith_cons_cons, ih, zero_gm, Nat.xor_zero]
  | _ :: _, [], h => by cases h
theorem radd_getD {f : Nat} {r o : List Nat} (h : r.length = o.length) (j : Nat) : (radd f r o).getD j 0 = r.getD j 0 ^^^ gm f (o.getD j 0) := by
  unfold radd
  simp only [List.getD_eq_getElem?_getD, List.getElem?_zipWith]
  by_cases hj : j < r.length
  · rw [List.getElem?_eq_getElem hj, List.getElem?_eq_getElem (by omega : j < o.length)]; rfl
  · rw [List.getElem?_eq_none (by omega : r.length ≤ j), List.getElem?_eq_none (by omega : o.length ≤ j)]
    simp [gm_zero]
theorem raddTo_zero (f : Nat) (r o : List Nat) : raddTo f r o 0 = r := by simp [raddTo, radd]
theorem raddTo_all {f : Nat} {r o : List Nat} (h : r.length = o.length) : raddTo f r o r.length = radd f r o := by
  unfold raddTo
  rw [List.take_length, h, List.take_length, ← h, List.drop_length, List.append_nil]
theorem raddTo_length {f : Nat} {r o : List Nat} (h : r.length = o.length) (i : Nat) : (raddTo f r o i).length = r.length := by
  unfold raddTo radd
  simp only [List.length_append, List.length_zipWith, List.length_take, List.length_drop]
  omega
theorem raddTo_at {f : Nat} {r o : List Nat} (h : r.length = o.length) {i : Nat} (hi : i < r.length) : (raddTo f r o i).getD i 0 = r.getD i 0 := by
  unfold raddTo radd
  rw [List.getD_eq_getElem?_getD, List.getD_eq_getElem?_getD, List.getElem?_append_right (by simp only [List.length_zipWith, List.length_take]; omega), List.getElem?_drop]
  simp only [List.length_zipWith, List.length_take]
  congr 2; omega
theorem raddTo_succ {f : Nat} {r o : List Nat} (h : r.length = o.length) {i : Nat} (hi : i < r.length) : (raddTo f r o i).set i (r.getD i 0 ^^^ gm f (o.getD i 0)) = raddTo f r o (i + 1) := by
  have ho : i < o.length := by omega
  unfold raddTo radd
  have hl : (List.zipWith (fun x y => x ^^^ gm f y) (r.take i) (o.take i)).length = i := by simp only [List.length_zipWith, List.length_take]; omega
  rw [List.set_append_right _ _ (by omega), hl, Nat.sub_self, List.drop_eq_getElem_cons hi, List.set_cons_zero, List.take_succ_eq_append_getElem hi, List.take_succ_eq_append_getElem ho, List.zipWith_append (by simp only [List.length_take]; omega), List.append_assoc]
  simp [List.getD_eq_getElem?_getD, List.getElem?_eq_getElem hi, List.getElem?_eq_getElem ho]
theorem rscaleTo_zero (f : Nat) (r : List Nat) : rscaleTo f r 0 = r := by simp [rscaleTo, rscale]
theorem rscaleTo_all (f : Nat) (r : List Nat) : rscaleTo f r r.length = rscale f r := by simp [rscaleTo]
theorem rscaleTo_length (f : Nat) (r : List Nat) (i : Nat) : (rscaleTo f r i).length = r.length := by
  unfold rscaleTo rscale
  simp only [List.length_append, List.length_map, List.length_take, List.length_drop]
  omega
theorem rscaleTo_at (f : Nat) {r : List Nat} {i : Nat} (hi : i < r.length) : (rscaleTo f r i).getD i 0 = r.getD i 0 := by
  unfold rscaleTo rscale
  rw [List.getD_eq_getElem?_getD, List.getD_eq_getElem?_getD, List.getElem?_append_right (by simp only [List.length_map, List.length_take]; omega), List.getElem?_drop]
  simp only [List.length_map, List.length_take]
  congr 2; omega
theorem rscaleTo_succ (f : Nat) {r : List Nat} {i : Nat} (hi : i < r.length) : (rscaleTo f r i).set i (gm (r.getD i 0) f) = rscaleTo f r (i + 1) := by
  unfold rscaleTo rscale
  have hl : ((r.take i).map fun x => gm x f).length = i := by simp only [List.length_map, List.length_take]; omega
  rw [List.set_append_right _ _ (by omega), hl, Nat.sub_self, List.drop_eq_getElem_cons hi, List.set_cons_zero, List.take_succ_eq_append_getElem hi, List.map_append, List.append_assoc]
  simp [List.getD_eq_getElem?_getD, List.getElem?_eq_getElem hi]

/-- Rows of c bytes. -/
def MB' (c : Nat) (m : List (List Nat)) : Prop := ∀ r ∈ m, r.length = c ∧ Bs r
theorem MB'.get {c : Nat} {m : List (List Nat)} (h : MB' c m) {i : Nat} (hi : i < m.length) : (m.getD i []).length = c ∧ Bs (m.getD i []) := by
  rw [List.getD_eq_getElem?_getD, List.getElem?_eq_getElem hi]
  exact h _ (List.getElem_mem hi)
theorem MB'.set {c : Nat} {m : List (List Nat)} (h : MB' c m) (i : Nat) {r : List Nat} (hr : r.length = c ∧ Bs r) : MB' c (m.set i r) := fun x hx => by
  rcases List.mem_or_eq_of_mem_set hx with h1 | h1
  · exact h x h1
  · rw [h1]; exact hr
theorem MB'.bytes {c : Nat} {m : List (List Nat)} (h : MB' c m) (i : Nat) : Bs (m.getD i []) := by
  by_cases hi : i < m.length
  · exact (h.get hi).2
  · rw [List.getD_eq_getElem?_getD, List.getElem?_eq_none (by omega)]; exact Bs.nil
def swp (m : List (List Nat)) (a p : Nat) : List (List Nat) := (m.set a (m.getD p [])).set p (m.getD a [])
theorem swp_length (m : List (List Nat)) (a p : Nat) : (swp m a p).length = m.length := by simp [swp]
theorem swp_MB {c : Nat} {m : List (List Nat)} (h : MB' c m) {a p : Nat} (ha : a < m.length) (hp : p < m.length) : MB' c (swp m a p) := (h.set a (h.get hp)).set p (h.get ha)
theorem getD_setL (m : List (List Nat)) (i j : Nat) (r : List Nat) (h : i < m.length) : (m.set i r).getD j [] = if j = i then r else m.getD j [] := by
  rw [List.getD_eq_getElem?_getD, List.getD_eq_getElem?_getD]
  by_cases e : j = i
  · rw [if_pos e, e, List.getElem?_set_self h]; rfl
  · rw [if_neg e, List.getElem?_set_ne (Ne.symm e)]
theorem set_self (m : List (List Nat)) (i : Nat) : m.set i (m.getD i []) = m := by
  apply List.ext_getElem?
  intro j
  by_cases h : i = j
  · subst h
    by_cases hi : i < m.length
    · rw [List.getElem?_set_self hi, List.getD_eq_getElem?_getD, List.getElem?_eq_getElem hi]; rfl
    · rw [List.getElem?_eq_none (by rw [List.length_set]; omega), List.getElem?_eq_none (by omega)]
  · rw [List.getElem?_set_ne h]
theorem swp_at {m : List (List Nat)} {a p : Nat} (ha : a < m.length) (hp : p < m.length) (i : Nat) : (swp m a p).getD i [] = m.getD (if i = a then p else if i = p then a else i) [] := by
  unfold swp
  rw [getD_setL _ _ _ _ (by rw [List.length_set]; exact hp), getD_setL _ _ _ _ ha]
  by_cases e1 : i = a
  · rw [if_pos e1, if_pos e1]
    split
    · rename_i e2; rw [← e1, e2]
    · rfl
  · rw [if_neg e1, if_neg e1]
    split <;> rfl
/-- What row i (of factor f) becomes when the row top of row a is taken from it. -/
def erow (top : List Nat) (a i f : Nat) (r : List Nat) : List Nat := if i = a then r else radd f r top
/-- All rows, numbered from i on, with their factors. -/
def er (top : List Nat) (a : Nat) : Nat → List Nat → List (List Nat) → List (List Nat)
  | i, f :: fs, r :: m => erow top a i f r :: er top a (i + 1) fs m
  | _, _, _ => []
theorem er_length (top : List Nat) (a : Nat) : ∀ (i : Nat) {fs : List Nat} {m : List (List Nat)}, fs.length = m.length → (er top a i fs m).length = m.length
  | _, [], [], _ => rfl
  | i, f :: fs, r :: m, h => by
    simp only [er, List.length_cons, er_length top a (i + 1) (show fs.length = m.length by simpa using h)]
  | _, [], _ :: _, h => by cases h
  | _, _ :: _, [], h => by cases h
theorem erow_MB {c : Nat} {top : List Nat} (ht : top.length = c) {a i f : Nat} (hf : f < 256) {r : List Nat} (hr : r.length = c ∧ Bs r) : (erow top a i f r).length = c ∧ Bs (erow top a i f r) := by
  unfold erow
  split
  · exact hr
  · exact ⟨by rw [radd_length _ (by rw [hr.1, ht])]; exact hr.1, radd_bytes hf hr.2⟩
theorem er_MB {c : Nat} {top : List Nat} (ht : top.length = c) {a : Nat} : ∀ (i : Nat) {fs : List Nat} {m : List (List Nat)}, Bs fs → MB' c m → MB' c (er top a i fs m)
  | _, [], _, _, _ => fun r hr => by cases hr
  | _, _ :: _, [], _, _ => fun r hr => by cases hr
  | i, f :: fs, r :: m, hf, h => fun x hx => by
    rcases List.mem_cons.1 hx with h1 | h1
    · rw [h1]; exact erow_MB ht hf.head (h r List.mem_cons_self)
    · exact er_MB ht (i + 1) hf.tail (fun y hy => h y (List.mem_cons_of_mem _ hy)) x h1
theorem er_at {top : List Nat} {a : Nat} : ∀ (i j : Nat) {fs : List Nat} {m : List (List Nat)}, fs.length = m.length → j < m.length → (er top a i fs m).getD j [] = erow top a (i + j) (fs.getD j 0) (m.getD j [])
  | i, 0, f :: fs, r :: m, _, _ => by simp [er]
  | i, j + 1, f :: fs, r :: m, hl, h => by
    have := er_at (top := top) (a := a) (i + 1) j (show fs.length = m.length by simpa using hl) (by simpa using h)
    simp only [er, List.getD_cons_succ, this, show i + 1 + j = i + (j + 1) by omega]
  | _, _, [], [], _, h => by cases h
  | _, _, [], _ :: _, h, _ => by cases h
  | _, _, _ :: _, [], h, _ => by cases h
/-- As the loop does it: i rows are done. -/
def erT (top : List Nat) (a : Nat) (fs : List Nat) (m : List (List Nat)) (i : Nat) : List (List Nat) := er top a 0 (fs.take i) (m.take i) ++ m.drop i
theorem erT_zero (top : List Nat) (a : Nat) (fs : List Nat) (m : List (List Nat)) : erT top a fs m 0 = m := by simp [erT, er]
theorem erT_all {top : List Nat} {a : Nat} {fs : List Nat} {m : List (List Nat)} (h : fs.length = m.length) : erT top a fs m m.length = er top a 0 fs m := by
  unfold erT
  rw [List.take_length, ← h, List.take_length, h, List.drop_length, List.append_nil]
theorem er_snoc (top : List Nat) (a : Nat) : ∀ (i : Nat) {fs : List Nat} {m : List (List Nat)} (f : Nat) (r : List Nat), fs.length = m.length → er top a i (fs ++ [f]) (m ++ [r]) = er top a i fs m ++ [erow top a (i + m.length) f r]
  | i, [], [], f, r, _ => by simp [er]
  | i, g :: fs, q :: m, f, r, h => by
    have := er_snoc top a (i + 1) f r (show fs.length = m.length by simpa using h)
    simp only [List.cons_append, er, this, List.length_cons, show i + 1 + m.length = i + (m.length + 1) by omega]
  | _, [], _ :: _, _, _, h => by cases h
  | _, _ :: _, [], _, _, h => by cases h
theorem erT_length {top : List Nat} {a : Nat} {fs : List Nat} {m : List (List Nat)} (h : fs.length = m.length) (i : Nat) : (erT top a fs m i).length = m.length := by
  unfold erT
  rw [List.length_append, er_length _ _ _ (by simp only [List.length_take]; omega), ← List.length_append, List.take_append_drop]
theorem erT_at {top : List Nat} {a : Nat} {fs : List Nat} {m : List (List Nat)} (h : fs.length = m.length) {i j : Nat} (hij : i ≤ j) (hj : j < m.length) : (erT top a fs m i)[j]? = some (m.getD j []) := by
  unfold erT
  have hl : (er top a 0 (fs.take i) (m.take i)).length = i := by rw [er_length _ _ _ (by simp only [List.length_take]; omega), List.length_take]; omega
  rw [List.getElem?_append_right (by omega), hl, List.getElem?_drop, show i + (j - i) = j by omega, List.getElem?_eq_getElem hj, List.getD_eq_getElem?_getD, List.getElem?_eq_getElem hj]; rfl
theorem erT_succ {top : List Nat} {a : Nat} {fs : List Nat} {m : List (List Nat)} (h : fs.length = m.length) {i : Nat} (hi : i < m.length) : (erT top a fs m i).set i (erow top a i (fs.getD i 0) (m.getD i [])) = erT top a fs m (i + 1) := by
  have hf : i < fs.length := by omega
  unfold erT
  have hl : (er top a 0 (fs.take i) (m.take i)).length = i := by rw [er_length _ _ _ (by simp only [List.length_take]; omega), List.length_take]; omega
  rw [List.set_append_right _ _ (by omega), hl, Nat.sub_self, List.drop_eq_getElem_cons hi, List.set_cons_zero, List.take_succ_eq_append_getElem hi, List.take_succ_eq_append_getElem hf, er_snoc _ _ _ _ _ (by simp only [List.length_take]; omega), List.append_assoc]
  simp only [List.getD_eq_getElem?_getD, List.getElem?_eq_getElem hi, List.getElem?_eq_getElem hf, Option.getD_some, List.length_take, List.singleton_append, Nat.zero_add, Nat.min_eq_left (Nat.le_of_lt hi)]
theorem erT_top {top : List Nat} {a : Nat} {fs : List Nat} {m : List (List Nat)} (h : fs.length = m.length) (i : Nat) (ha : a < m.length) : (erT top a fs m i).getD a [] = m.getD a [] := by
  by_cases hi : i ≤ a
  · rw [List.getD_eq_getElem?_getD, erT_at h hi ha]; rfl
  · have hl : (er top a 0 (fs.take i) (m.take i)).length = min i m.length := by rw [er_length _ _ _ (by simp only [List.length_take]; omega), List.length_take]
    unfold erT
    rw [List.getD_eq_getElem?_getD, List.getElem?_append_left (by omega), ← List.getD_eq_getElem?_getD, er_at 0 a (by simp only [List.length_take]; omega) (by simp only [List.length_take]; omega), Nat.zero_add]
    unfold erow
    rw [if_pos rfl, List.getD_eq_getElem?_getD, List.getElem?_take, if_pos (by omega), List.getD_eq_getElem?_getD]
/-- A column. -/
def col (k : Nat) (m : List (List Nat)) : List Nat := m.map fun r => r.getD k 0
theorem col_length (k : Nat) (m : List (List Nat)) : (col k m).length = m.length := by simp [col]
theorem col_at (k : Nat) (m : List (List Nat)) (i : Nat) : (col k m).getD i 0 = (m.getD i []).getD k 0 := by
  unfold col
  simp only [List.getD_eq_getElem?_getD, List.getElem?_map]
  cases m[i]? with
  | none => simp
  | some r => simp
theorem col_bytes {c : Nat} {m : List (List Nat)} (h : MB' c m) (k : Nat) : Bs (col k m) := fun x hx => by
  obtain ⟨r, hr, rfl⟩ := List.mem_map.1 hx
  exact getD_lt (h r hr).2 k
/-- Where from here on a row holds something at k. -/
def pv (k : Nat) : List (List Nat) → Option Nat
  | [] => none
  | r :: m => if r.getD k 0 ≠ 0 then some 0 else (pv k m).map (· + 1)
theorem pv_none {k : Nat} : ∀ {m : List (List Nat)}, pv k m = none → ∀ i, (m.getD i []).getD k 0 = 0
  | [], _, i => by simp
  | r :: m, h, i => by
    unfold pv at h
    split at h
    · cases h
    · rename_i h0
      cases i with
      | zero => simpa using h0
      | succ i => exact pv_none (Option.map_eq_none_iff.1 h) i
theorem pv_some {k : Nat} : ∀ {m : List (List Nat)} {i : Nat}, pv k m = some i → i < m.length ∧ (m.getD i []).getD k 0 ≠ 0
  | [], _, h => by cases h
  | r :: m, i, h => by
    unfold pv at h
    split at h
    · rename_i h0
      injection h with h
      subst h
      exact ⟨by simp, h0⟩
    · obtain ⟨j, hj, rfl⟩ := Option.map_eq_some_iff.1 h
      have := pv_some hj
      exact ⟨by simpa using this.1, this.2⟩
/-- The row that the others are lessened by, of the numbers of S. -/
def top (S : List (List Nat)) (a k : Nat) (r : List Nat) : List Nat := rscale (gi ((S.getD a []).getD k 0)) r
/-- A step: rows a and p change places, row a is made 1 at k and taken from the others. -/
def est (m : List (List Nat)) (a p k : Nat) : List (List Nat) :=
  er (top (swp m a p) a k ((swp m a p).getD a [])) a 0 (col k (swp m a p)) ((swp m a p).set a (top (swp m a p) a k ((swp m a p).getD a [])))
/-- .. of a matrix beside it, with the first one's numbers. -/
def est2 (m s : List (List Nat)) (a p k : Nat) : List (List Nat) :=
  er (top (swp m a p) a k ((swp s a p).getD a [])) a 0 (col k (swp m a p)) ((swp s a p).set a (top (swp m a p) a k ((swp s a p).getD a [])))
theorem est_length (m : List (List Nat)) (a p k : Nat) : (est m a p k).length = m.length := by unfold est; rw [er_length _ _ _ (by rw [col_length, List.length_set]), List.length_set, swp_length]
theorem est2_length {m s : List (List Nat)} (h : s.length = m.length) (a p k : Nat) : (est2 m s a p k).length = m.length := by unfold est2; rw [er_length _ _ _ (by rw [col_length, List.length_set, swp_length, swp_length, h]), List.length_set, swp_length, h]
theorem est2_MB {c d : Nat} {m s : List (List Nat)} (h : MB' c m) (hs : MB' d s) (hl : s.length = m.length) {a p : Nat} (k : Nat) (ha : a < m.length) (hp : p < m.length) : MB' d (est2 m s a p k) := by
  have hm := swp_MB h ha hp
  have hs := swp_MB hs (hl ▸ ha) (hl ▸ hp)
  have hrow := hs.get (i := a) (by rw [swp_length, hl]; exact ha)
  have hr : (top (swp m a p) a k ((swp s a p).getD a [])).length = d ∧ Bs (top (swp m a p) a k ((swp s a p).getD a [])) := ⟨by unfold top; rw [rscale_length]; exact hrow.1, rscale_bytes _ hrow.2⟩
  exact er_MB hr.1 0 (col_bytes hm k) (hs.set a hr)
theorem est_MB {c : Nat} {m : List (List Nat)} (h : MB' c m) {a p : Nat} (k : Nat) (ha : a < m.length) (hp : p < m.length) : MB' c (est m a p k) := est2_MB h h rfl k ha hp
/-- Two places of a matrix. -/
def fn (m : List (List Nat)) (i j : Nat) : Nat := (m.getD i []).getD j 0
theorem fn_B {c : Nat} {m : List (List Nat)} (h : MB' c m) (n : Nat) : MB n c (fn m) := fun i j _ _ => getD_lt (h.bytes i) j
theorem est_fn {c : Nat} {m : List (List Nat)} (h : MB' c m) {a p k : Nat} (ha : a < m.length) (hp : p < m.length) {i : Nat} (hi : i < m.length) (j : Nat) : fn (est m a p k) i j = fstep (fn m) a p k i j := by
  have hs := swp_MB h ha hp
  have hsl : (swp m a p).length = m.length := swp_length m a p
  have hrow := hs.get (i := a) (by rw [hsl]; exact ha)
  have hx : ∀ i' j', sw (fn m) a p i' j' = ((swp m a p).getD i' []).getD j' 0 := fun i' j' => by rw [swp_at ha hp]; rfl
  unfold fstep
  rw [hx, hx, hx, hx]
  unfold fn est
  rw [er_at 0 i (by rw [col_length, List.length_set]) (by rw [List.length_set, hsl]; exact hi), Nat.zero_add, getD_setL _ _ _ _ (by rw [hsl]; exact ha), col_at]
  unfold erow
  by_cases e : i = a
  · rw [if_pos e, if_pos e, if_pos e]; unfold top; rw [rscale_getD]
  · have hri := hs.get (i := i) (by rw [hsl]; exact hi)
    rw [if_neg e, if_neg e, if_neg e, radd_getD (by unfold top; rw [rscale_length, hrow.1, hri.1])]
    unfold top
    rw [rscale_getD]
/-- The elimination: d columns from k on, r rows are done. -/
def sv : Nat → Nat → Nat → List (List Nat) → List (List Nat) × Nat
  | 0, _, r, m => (m, r)
  | d + 1, k, r, m =>
    match pv k (m.drop r) with
    | none => sv d (k + 1) r m
    | some i => if r + 1 = m.length then (est m r (r + i) k, r + 1) else sv d (k + 1) (r + 1) (est m r (r + i) k)
theorem sv_length : ∀ (d k r : Nat) (m : List (List Nat)), (sv d k r m).1.length = m.length
  | 0, _, _, _ => rfl
  | d + 1, k, r, m => by
    unfold sv
    split
    · exact sv_length d _ _ m
    · split
      · exact est_length ..
      · rw [sv_length d]; exact est_length ..
theorem sv_MB {c : Nat} : ∀ (d k r : Nat) {m : List (List Nat)}, MB' c m → MB' c (sv d k r m).1
  | 0, _, _, _, h => h
  | d + 1, k, r, m, h => by
    unfold sv
    split
    · exact sv_MB d _ _ h
    · rename_i i hi
      have hp := pv_some hi
      rw [List.length_drop] at hp
      have he := est_MB h k (a := r) (p := r + i) (by omega) (by omega)
      split
      · exact he
      · exact sv_MB d _ _ he
theorem sv_le : ∀ (d k r : Nat) (m : List (List Nat)), r ≤ (sv d k r m).2 ∧ (sv d k r m).2 ≤ r + d
  | 0, _, _, _ => ⟨Nat.le_refl _, Nat.le_refl _⟩
  | d + 1, k, r, m => by
    unfold sv
    split
    · have := sv_le d (k + 1) r m; omega
    · rename_i i hi
      split
      · show r ≤ r + 1 ∧ r + 1 ≤ r + (d + 1); omega
      · have := sv_le d (k + 1) (r + 1) (est m r (r + i) k); omega
theorem sv_rank_le : ∀ (d k r : Nat) (m : List (List Nat)), r ≤ m.length → (sv d k r m).2 ≤ m.length
  | 0, _, _, _, h => h
  | d + 1, k, r, m, h => by
    unfold sv
    split
    · exact sv_rank_le d _ _ m h
    · rename_i i hi
      have hp := pv_some hi
      rw [List.length_drop] at hp
      split
      · show r + 1 ≤ _; omega
      · have := sv_rank_le d (k + 1) (r + 1) (est m r (r + i) k) (by rw [est_length]; omega)
        rwa [est_length] at this

/-- Two matrices side by side. -/
def bes (a b : List (List Nat)) : List (List Nat) := List.zipWith (· ++ ·) a b
theorem bes_length {a b : List (List Nat)} (h : a.length = b.length) : (bes a b).length = a.length := by unfold bes; rw [List.length_zipWith]; omega
theorem bes_at {a b : List (List Nat)} (h : a.length = b.length) (i : Nat) : (bes a b).getD i [] = a.getD i [] ++ b.getD i [] := by
  unfold bes
  simp only [List.getD_eq_getElem?_getD, List.getElem?_zipWith]
  by_cases hi : i < a.length
  · rw [List.getElem?_eq_getElem hi, List.getElem?_eq_getElem (by omega : i < b.length)]; rfl
  · rw [List.getElem?_eq_none (by omega : a.length ≤ i), List.getElem?_eq_none (by omega : b.length ≤ i)]; rfl
theorem MB'.tail {c : Nat} {r : List Nat} {m : List (List Nat)} (h : MB' c (r :: m)) : MB' c m := fun y hy => h y (List.mem_cons_of_mem _ hy)
theorem bes_MB {c d : Nat} : ∀ {a b : List (List Nat)}, MB' c a → MB' d b → MB' (c + d) (bes a b)
  | [], _, _, _ => fun r hr => by cases hr
  | _ :: _, [], _, _ => fun r hr => by cases hr
  | r :: a, q :: b, ha, hb => fun x hx => by
    rcases List.mem_cons.1 (show x ∈ (r ++ q) :: bes a b from hx) with h1 | h1
    · have h2 := ha r List.mem_cons_self
      have h3 := hb q List.mem_cons_self
      rw [h1]
      exact ⟨by rw [List.length_append, h2.1, h3.1], fun y hy => (List.mem_append.1 hy).elim (h2.2 y) (h3.2 y)⟩
    · exact bes_MB ha.tail hb.tail x h1
theorem bes_set {a b : List (List Nat)} (h : a.length = b.length) (i : Nat) (r q : List Nat) : (bes a b).set i (r ++ q) = bes (a.set i r) (b.set i q) := by
  unfold bes
  apply List.ext_getElem?
  intro j
  simp only [List.getElem?_set, List.getElem?_zipWith, List.length_zipWith]
  by_cases e : i = j
  · subst e
    by_cases hi : i < a.length
    · rw [if_pos rfl, if_pos rfl, if_pos rfl, if_pos (by omega), if_pos hi, if_pos (by omega)]
    · rw [if_pos rfl, if_pos rfl, if_pos rfl, if_neg (by omega), if_neg hi]
  · rw [if_neg e, if_neg e, if_neg e]
theorem bes_swp {m s : List (List Nat)} (h : m.length = s.length) (a p : Nat) : swp (bes m s) a p = bes (swp m a p) (swp s a p) := by
  unfold swp
  rw [bes_at h, bes_at h, bes_set h, bes_set (by simp only [List.length_set]; exact h)]
theorem getD_app_left {r q : List Nat} {k : Nat} (h : k < r.length) : (r ++ q).getD k 0 = r.getD k 0 := by rw [getD_app, if_pos h]
theorem bes_col {c k : Nat} (hk : k < c) : ∀ {m s : List (List Nat)}, MB' c m → m.length = s.length → col k (bes m s) = col k m
  | [], [], _, _ => rfl
  | r :: m, q :: s, h, hl => by
    show (r ++ q).getD k 0 :: col k (bes m s) = r.getD k 0 :: col k m
    rw [bes_col hk h.tail (by simpa using hl), getD_app_left (by rw [(h r List.mem_cons_self).1]; exact hk)]
  | [], _ :: _, _, h => by cases h
  | _ :: _, [], _, h => by cases h
theorem bes_er {c : Nat} {t1 : List Nat} (ht : t1.length = c) (t2 : List Nat) (a : Nat) : ∀ (i : Nat) {fs : List Nat} {m s : List (List Nat)}, MB' c m → er (t1 ++ t2) a i fs (bes m s) = bes (er t1 a i fs m) (er t2 a i fs s)
  | i, [], m, s, _ => by simp [er, bes]
  | i, f :: fs, [], s, _ => by simp [er, bes]
  | i, f :: fs, r :: m, [], _ => by simp [er, bes]
  | i, f :: fs, r :: m, q :: s, h => by
    show erow (t1 ++ t2) a i f (r ++ q) :: er (t1 ++ t2) a (i + 1) fs (bes m s) = (erow t1 a i f r ++ erow t2 a i f q) :: bes (er t1 a (i + 1) fs m) (er t2 a (i + 1) fs s)
    rw [bes_er ht t2 a (i + 1) h.tail]
    congr 1
    unfold erow
    split
    · rfl
    · unfold radd
      exact List.zipWith_append (by rw [(h r List.mem_cons_self).1, ht])
theorem bes_est {c : Nat} {m s : List (List Nat)} (h : MB' c m) (hl : m.length = s.length) {a p k : Nat} (ha : a < m.length) (hp : p < m.length) (hk : k < c) : est (bes m s) a p k = bes (est m a p k) (est2 m s a p k) := by
  have hs := swp_MB h ha hp
  have hl2 : (swp m a p).length = (swp s a p).length := by rw [swp_length, swp_length, hl]
  have hrow := hs.get (i := a) (by rw [swp_length]; exact ha)
  unfold est est2
  rw [bes_swp hl, bes_at hl2, bes_col hk hs hl2]
  have e : top (bes (swp m a p) (swp s a p)) a k ((swp m a p).getD a [] ++ (swp s a p).getD a []) = top (swp m a p) a k ((swp m a p).getD a []) ++ top (swp m a p) a k ((swp s a p).getD a []) := by
    unfold top
    rw [bes_at hl2, getD_app_left (by rw [hrow.1]; exact hk)]
    unfold rscale
    rw [List.map_append]
  have htl : (top (swp m a p) a k ((swp m a p).getD a [])).length = c := by unfold top; rw [rscale_length]; exact hrow.1
  rw [e, bes_set hl2, bes_er htl _ a 0 (hs.set a ⟨htl, by unfold top; exact rscale_bytes _ hrow.2⟩)]
theorem bes_pv {c k : Nat} (hk : k < c) : ∀ {m s : List (List Nat)}, MB' c m → m.length = s.length → pv k (bes m s) = pv k m
  | [], [], _, _ => rfl
  | r :: m, q :: s, h, hl => by
    have e : (r ++ q).getD k 0 = r.getD k 0 := getD_app_left (by rw [(h r List.mem_cons_self).1]; exact hk)
    show (if (r ++ q).getD k 0 ≠ 0 then some 0 else (pv k (bes m s)).map (· + 1)) = if r.getD k 0 ≠ 0 then some 0 else (pv k m).map (· + 1)
    rw [bes_pv hk h.tail (by simpa using hl), e]
  | [], _ :: _, _, h => by cases h
  | _ :: _, [], _, h => by cases h
theorem bes_drop (m s : List (List Nat)) (r : Nat) : (bes m s).drop r = bes (m.drop r) (s.drop r) := by unfold bes; rw [List.drop_zipWith]
theorem MB'.drop {c : Nat} {m : List (List Nat)} (h : MB' c m) (r : Nat) : MB' c (m.drop r) := fun x hx => h x (List.mem_of_mem_drop hx)
/-- The elimination of two matrices, by the first one's columns. -/
def sv2 : Nat → Nat → Nat → List (List Nat) → List (List Nat) → List (List Nat)
  | 0, _, _, _, s => s
  | d + 1, k, r, m, s =>
    match pv k (m.drop r) with
    | none => sv2 d (k + 1) r m s
    | some i => if r + 1 = m.length then est2 m s r (r + i) k else sv2 d (k + 1) (r + 1) (est m r (r + i) k) (est2 m s r (r + i) k)
theorem bes_sv {c : Nat} : ∀ (d k r : Nat) {m s : List (List Nat)}, MB' c m → m.length = s.length → k + d ≤ c → sv d k r (bes m s) = (bes (sv d k r m).1 (sv2 d k r m s), (sv d k r m).2)
  | 0, _, _, _, _, _, _, _ => rfl
  | d + 1, k, r, m, s, h, hl, hk => by
    have hpv : pv k ((bes m s).drop r) = pv k (m.drop r) := by rw [bes_drop, bes_pv (by omega) (h.drop r) (by simp only [List.length_drop]; omega)]
    unfold sv sv2
    rw [hpv]
    cases hp : pv k (m.drop r) with
    | none => exact bes_sv d (k + 1) r h hl (by omega)
    | some i =>
      have hi := pv_some hp
      rw [List.length_drop] at hi
      have he := bes_est h hl (a := r) (p := r + i) (k := k) (by omega) (by omega) (by omega)
      dsimp only
      rw [bes_length hl, he]
      by_cases hr : r + 1 = m.length
      · rw [if_pos hr, if_pos hr, if_pos hr]
      · rw [if_neg hr, if_neg hr, if_neg hr]
        exact bes_sv d (k + 1) (r + 1) (est_MB h k (by omega) (by omega)) (by rw [est_length, est2_length hl.symm]) (by omega)
theorem sv2_length : ∀ (d k r : Nat) {m s : List (List Nat)}, s.length = m.length → (sv2 d k r m s).length = m.length
  | 0, _, _, _, _, h => h
  | d + 1, k, r, m, s, h => by
    unfold sv2
    split
    · exact sv2_length d _ _ h
    · split
      · exact est2_length h ..
      · rw [sv2_length d _ _ (by rw [est_length, est2_length h])]; exact est_length ..
theorem sv2_MB {c b : Nat} : ∀ (d k r : Nat) {m s : List (List Nat)}, MB' c m → MB' b s → s.length = m.length → MB' b (sv2 d k r m s)
  | 0, _, _, _, _, _, h, _ => h
  | d + 1, k, r, m, s, hm, hs, h => by
    unfold sv2
    split
    · exact sv2_MB d _ _ hm hs h
    · rename_i i hi
      have hp := pv_some hi
      rw [List.length_drop] at hp
      have he := est2_MB hm hs h k (a := r) (p := r + i) (by omega) (by omega)
      split
      · exact he
      · exact sv2_MB d _ _ (est_MB hm k (by omega) (by omega)) he (by rw [est_length, est2_length h])

/-- Reduced rows, and the same solutions. -/
theorem red_congr {n k r : Nat} {M M' : Nat → Nat → Nat} {p : Nat → Nat} (h : Red n k r M p) (e : ∀ i j, i < n → M' i j = M i j) : Red n k r M' p :=
  ⟨h.rn, h.lt, h.up, fun i j hi hj => by rw [e i _ hi]; exact h.one i j hi hj, fun i j hr hi hj => by rw [e i j hi]; exact h.low i j hr hi hj⟩
theorem K_congr {n c : Nat} {M M' : Nat → Nat → Nat} (e : ∀ i j, i < n → M' i j = M i j) (v : Nat → Nat) : K n c M' v ↔ K n c M v :=
  ⟨fun h i hi => by rw [← h i hi]; exact xs_congr fun j _ => by rw [e i j hi], fun h i hi => by rw [← h i hi]; exact xs_congr fun j _ => by rw [e i j hi]⟩
theorem getD_dropL (m : List (List Nat)) (r i : Nat) : (m.drop r).getD i [] = m.getD (r + i) [] := by
  rw [List.getD_eq_getElem?_getD, List.getElem?_drop, ← List.getD_eq_getElem?_getD]
theorem sv_red {n c : Nat} : ∀ (d k r : Nat) {m : List (List Nat)} {p : Nat → Nat}, MB' c m → m.length = n → k + d ≤ c → Red n k r (fn m) p →
    (∃ p', Red n (k + d) (sv d k r m).2 (fn (sv d k r m).1) p') ∧ ∀ v : Nat → Nat, (∀ j, v j < 256) → (K n c (fn (sv d k r m).1) v ↔ K n c (fn m) v)
  | 0, k, r, m, p, _, _, _, h => ⟨⟨p, h⟩, fun _ _ => Iff.rfl⟩
  | d + 1, k, r, m, p, hm, hn, hk, h => by
    unfold sv
    split
    · rename_i hp
      have hz : ∀ i, r ≤ i → i < n → fn m i k = 0 := fun i hi _ => by
        have := pv_none hp (i - r)
        rw [getD_dropL, show r + (i - r) = i by omega] at this
        exact this
      have := sv_red d (k + 1) r hm hn (by omega) (red_none h hz)
      rwa [show k + 1 + d = k + (d + 1) by omega] at this
    · rename_i i hp
      have hi := pv_some hp
      rw [List.length_drop] at hi
      have h0 : fn m (r + i) k ≠ 0 := by
        have := hi.2
        rw [getD_dropL] at this
        exact this
      have hB := fn_B hm n
      have e : ∀ i' j, i' < n → fn (est m r (r + i) k) i' j = fstep (fn m) r (r + i) k i' j := fun i' j hi' => est_fn hm (a := r) (p := r + i) (k := k) (by omega) (by omega) (i := i') (by rw [hn]; exact hi') j
      have hR := red_congr (red_some hB h (q := r + i) (by omega) (by omega) (by omega) h0) e
      have hKK := fun v hv => (K_congr (c := c) e v).trans (fstep_K hB (a := r) (p := r + i) (k := k) (by omega) (by omega) (by omega) h0 (v := v) hv)
      split
      · rename_i hr
        exact ⟨⟨_, by rw [hr, hn] at hR ⊢; exact red_full hR (by omega)⟩, hKK⟩
      · have := sv_red d (k + 1) (r + 1) (est_MB hm k (by omega) (by omega)) (by rw [est_length]; exact hn) (by omega) hR
        rw [show k + 1 + d = k + (d + 1) by omega] at this
        exact ⟨this.1, fun v hv => (this.2 v hv).trans (hKK v hv)⟩
/-- The rank of rows of c columns. -/
def rank (c : Nat) (m : List (List Nat)) : Nat := (sv c 0 0 m).2
theorem rank_red {c : Nat} {m : List (List Nat)} (h : MB' c m) : ∃ p, Red m.length c (rank c m) (fn (sv c 0 0 m).1) p := by
  obtain ⟨⟨p, hp⟩, _⟩ := sv_red c 0 0 h rfl (by omega) (red0 _ _)
  rw [Nat.zero_add] at hp
  exact ⟨p, hp⟩
theorem rank_K {c : Nat} {m : List (List Nat)} (h : MB' c m) (v : Nat → Nat) (hv : ∀ j, v j < 256) : K m.length c (fn (sv c 0 0 m).1) v ↔ K m.length c (fn m) v := (sv_red c 0 0 h rfl (by omega) (red0 _ _)).2 v hv
/-- r functionals, the common zeros of which solve: the rank is no more than r. -/
theorem rank_le {c r : Nat} {m : List (List Nat)} (h : MB' c m) {F : Nat → Nat → Nat} (hF : ∀ i j, i < r → j < c → F i j < 256) (hk : ∀ v : Nat → Nat, (∀ j, v j < 256) → (∀ i, i < r → dot c (F i) v = 0) → K m.length c (fn m) v) : rank c m ≤ r := by
  obtain ⟨p, hp⟩ := rank_red h
  exact red_rank (fn_B (sv_MB c 0 0 h) _) hp hF (fun v hv hz => (rank_K h v hv).2 (hk v hv hz))
/-- Not of full rank: something but 0 solves. -/
theorem rank_kernel {c : Nat} {m : List (List Nat)} (h : MB' c m) (hr : rank c m < c) : ∃ v : Nat → Nat, (∀ j, v j < 256) ∧ (∃ j, j < c ∧ v j ≠ 0) ∧ K m.length c (fn m) v := by
  obtain ⟨p, hp⟩ := rank_red h
  obtain ⟨v, h1, h2, h3⟩ := red_kernel (fn_B (sv_MB c 0 0 h) _) hp hr
  exact ⟨v, h1, h2, (rank_K h v h1).1 h3⟩
/-- The rows that tell what the rank's rows do. -/
theorem rank_rows {c : Nat} {m : List (List Nat)} (h : MB' c m) {v : Nat → Nat} (hv : ∀ j, v j < 256) (hz : ∀ i, i < rank c m → dot c (fn (sv c 0 0 m).1 i) v = 0) : K m.length c (fn m) v := by
  obtain ⟨p, hp⟩ := rank_red h
  exact (rank_K h v hv).1 (red_K hp hz)
/-- The unit matrix. -/
def idM (n : Nat) : List (List Nat) := (List.range n).map fun i => (List.replicate n 0).set i 1
theorem idM_length (n : Nat) : (idM n).length = n := by simp [idM]
theorem idM_MB (n : Nat) : MB' n (idM n) := fun r hr => by
  obtain ⟨i, _, rfl⟩ := List.mem_map.1 hr
  refine ⟨by simp, fun x hx => ?_⟩
  rcases List.mem_or_eq_of_mem_set hx with h | h
  · rw [(List.mem_replicate.1 h).2]; decide
  · rw [h]; decide
theorem idM_fn {n i j : Nat} (hi : i < n) (hj : j < n) : fn (idM n) i j = unit i j := by
  unfold fn idM unit
  rw [List.getD_eq_getElem?_getD (l := List.map _ _), List.getElem?_map, List.getElem?_range hi]
  show ((List.replicate n 0).set i 1).getD j 0 = _
  rw [getD_set _ _ _ _ (by rw [List.length_replicate]; exact hi), getD_zeros]
  by_cases e : j = i
  · rw [if_pos e, if_pos e.symm]
  · rw [if_neg e, if_neg (Ne.symm e)]
/-- The inverse, if all columns have a row of their own. -/
def inv (m : List (List Nat)) : Option (List (List Nat)) := if rank m.length m < m.length then none else some (sv2 m.length 0 0 m (idM m.length))
theorem inv_MB {n : Nat} {m b : List (List Nat)} (h : MB' n m) (hn : m.length = n) (e : inv m = some b) : MB' n b ∧ b.length = n := by
  unfold inv at e
  split at e
  · cases e
  · injection e with e
    subst e
    rw [hn]
    exact ⟨sv2_MB _ _ _ h (idM_MB n) (by rw [idM_length, hn]), by rw [sv2_length _ _ _ (by rw [idM_length, hn]), hn]⟩
/-- The inverse undoes. -/
theorem inv_iff {n : Nat} {m b : List (List Nat)} (h : MB' n m) (hn : m.length = n) (e : inv m = some b) :
    ∀ x y : Nat → Nat, (∀ j, x j < 256) → (∀ j, y j < 256) → ((∀ i, i < n → dot n (fn m i) x = y i) ↔ (∀ i, i < n → dot n (fn b i) y = x i)) := by
  unfold inv at e
  split at e
  · cases e
  rename_i hrk
  injection e with e
  subst e
  rw [hn] at hrk ⊢
  have hid := idM_MB n
  have hil := idM_length n
  have hbl : (bes m (idM n)).length = n := by rw [bes_length (by rw [hn, hil]), hn]
  have hbM : MB' (n + n) (bes m (idM n)) := bes_MB h hid
  have hsv := bes_sv n 0 0 h (s := idM n) (by rw [hn, hil]) (by omega)
  obtain ⟨p, hp⟩ := rank_red h
  have hrn : rank n m = n := by have := hp.rn; omega
  rw [hn, hrn] at hp
  have hid2 := red_id hp
  have hR : ∀ i j, i < n → j < n → fn (sv n 0 0 m).1 i j = unit i j := fun i j hi hj => by
    have := hp.one i j hi hj
    rw [hid2 j hj] at this
    exact this
  have hKK := (sv_red n 0 0 hbM hbl (by omega) (red0 _ _)).2
  rw [hsv] at hKK
  have hl1 : (sv n 0 0 m).1.length = n := by rw [sv_length, hn]
  have hl2 : (sv2 n 0 0 m (idM n)).length = n := by rw [sv2_length _ _ _ (by rw [hil, hn]), hn]
  have sd : ∀ {a b : List (List Nat)}, MB' n a → a.length = n → b.length = n → ∀ i j, i < n → fn (bes a b) i j = side n (fn a) (fn b) i j := fun {a b} ha hal hbl' i j hi => by
    unfold fn side
    rw [bes_at (by omega), getD_app, (ha.get (i := i) (by omega)).1]
  refine inverse (R := fn (sv n 0 0 m).1) (fun i j hi hj => hR i j hi hj) (fun v hv => ?_)
  rw [← K_congr (sd (sv_MB n 0 0 h) hl1 hl2) v, hKK v hv, K_congr (sd h hn hil) v]
  refine ⟨fun hz i hi => ?_, fun hz i hi => ?_⟩
  · rw [← hz i hi]; exact xs_congr fun j hj => by
      unfold side
      split
      · rfl
      · rw [idM_fn hi (by omega)]
  · rw [← hz i hi]; exact xs_congr fun j hj => by
      unfold side
      split
      · rfl
      · rw [idM_fn hi (by omega)]
/-- The product of two matrices. -/
def mulRow (c : Nat) (r : List Nat) (b : List (List Nat)) : List Nat := go (List.replicate c 0) r b
where go : List Nat → List Nat → List (List Nat) → List Nat
  | acc, f :: fs, q :: m => go (radd f acc q) fs m
  | acc, _, _ => acc
def mulM (c : Nat) (a b : List (List Nat)) : List (List Nat) := a.map fun r => mulRow c r b
theorem go_length {c : Nat} : ∀ (acc fs : List Nat) (m : List (List Nat)), acc.length = c → MB' c m → (mulRow.go acc fs m).length = c
  | acc, f :: fs, q :: m, h, hm => by
    unfold mulRow.go
    exact go_length _ fs m (by rw [radd_length _ (by rw [h, (hm q List.mem_cons_self).1])]; exact h) hm.tail
  | acc, [], m, h, _ => by unfold mulRow.go; exact h
  | acc, f :: fs, [], h, _ => by unfold mulRow.go; exact h
theorem go_bytes {c : Nat} : ∀ (acc fs : List Nat) (m : List (List Nat)), Bs acc → Bs fs → Bs (mulRow.go acc fs m)
  | acc, f :: fs, q :: m, h, hf => by
    unfold mulRow.go
    exact go_bytes (c := c) _ fs m (radd_bytes hf.head h) hf.tail
  | acc, [], m, h, _ => by unfold mulRow.go; exact h
  | acc, f :: fs, [], h, _ => by unfold mulRow.go; exact h
theorem go_getD {c : Nat} (j : Nat) : ∀ (acc fs : List Nat) (m : List (List Nat)), acc.length = c → MB' c m → fs.length = m.length → (mulRow.go acc fs m).getD j 0 = acc.getD j 0 ^^^ xs m.length (fun t => gm (fs.getD t 0) ((m.getD t []).getD j 0))
  | acc, f :: fs, q :: m, h, hm, hl => by
    have hq := (hm q List.mem_cons_self).1
    unfold mulRow.go
    rw [go_getD j _ fs m (by rw [radd_length _ (by rw [h, hq])]; exact h) hm.tail (by simpa using hl), radd_getD (by rw [h, hq]), List.length_cons, xs_succ, Nat.xor_assoc]
    rfl
  | acc, [], [], h, _, _ => by unfold mulRow.go; rw [show ([] : List (List Nat)).length = 0 from rfl]; exact (Nat.xor_zero _).symm
  | acc, [], _ :: _, _, _, h => by cases h
  | acc, f :: fs, [], _, _, h => by cases h
theorem mulM_length (c : Nat) (a b : List (List Nat)) : (mulM c a b).length = a.length := by simp [mulM]
theorem mulM_MB {c n : Nat} {a b : List (List Nat)} (ha : MB' n a) (hb : MB' c b) : MB' c (mulM c a b) := fun x hx => by
  obtain ⟨r, hr, rfl⟩ := List.mem_map.1 hx
  exact ⟨go_length _ _ _ (by simp) hb, go_bytes (c := c) _ _ _ (fun y hy => by rw [(List.mem_replicate.1 hy).2]; decide) (ha r hr).2⟩
theorem mulM_fn {c n : Nat} {a b : List (List Nat)} (ha : MB' n a) (hb : MB' c b) (hn : b.length = n) {i : Nat} (hi : i < a.length) (j : Nat) : fn (mulM c a b) i j = prod n (fn a) (fn b) i j := by
  have hr := ha.get hi
  have e : (mulM c a b).getD i [] = mulRow c (a.getD i []) b := by
    unfold mulM
    rw [List.getD_eq_getElem?_getD, List.getElem?_map, List.getD_eq_getElem?_getD, List.getElem?_eq_getElem hi]; rfl
  show ((mulM c a b).getD i []).getD j 0 = _
  rw [e]
  unfold mulRow
  rw [go_getD (c := c) j _ _ _ (by simp) hb (by rw [hr.1, hn]), getD_zeros, Nat.zero_xor, hn]
  rfl
/-- A matrix times a column. -/
def dotL : List Nat → List Nat → Nat
  | f :: fs, x :: v => gm f x ^^^ dotL fs v
  | _, _ => 0
def colM (m : List (List Nat)) (v : List Nat) : List Nat := m.map fun r => dotL r v
theorem dotL_lt : ∀ (fs v : List Nat), Bs fs → dotL fs v < 256
  | f :: fs, x :: v, h => xor_byte (gm_lt _ h.head) (dotL_lt fs v h.tail)
  | [], _, _ => by unfold dotL; decide
  | _ :: _, [], _ => by unfold dotL; decide
theorem dotL_dot : ∀ (fs v : List Nat), fs.length = v.length → dotL fs v = dot v.length (fun j => fs.getD j 0) (fun j => v.getD j 0)
  | f :: fs, x :: v, h => by
    unfold dotL dot
    rw [List.length_cons, xs_succ, dotL_dot fs v (by simpa using h)]
    rfl
  | [], [], _ => rfl
  | [], _ :: _, h => by cases h
  | _ :: _, [], h => by cases h
theorem colM_length (m : List (List Nat)) (v : List Nat) : (colM m v).length = m.length := by simp [colM]
theorem colM_bytes {c : Nat} {m : List (List Nat)} (h : MB' c m) (v : List Nat) : Bs (colM m v) := fun x hx => by
  obtain ⟨r, hr, rfl⟩ := List.mem_map.1 hx
  exact dotL_lt _ _ (h r hr).2
theorem colM_getD (m : List (List Nat)) (v : List Nat) {i : Nat} (hi : i < m.length) : (colM m v).getD i 0 = dotL (m.getD i []) v := by
  unfold colM
  rw [List.getD_eq_getElem?_getD, List.getElem?_map, List.getD_eq_getElem?_getD, List.getElem?_eq_getElem hi]; rfl
end Go.Proofs.Ytldlldfoaicjcaa.Mat
