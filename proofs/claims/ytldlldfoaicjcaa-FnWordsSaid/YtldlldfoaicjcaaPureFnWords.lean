/- A message's word with few places spoilt is decoded back, and what has been decoded is a word: the walk of the law. No conditions beyond the row's own. -/
import Derived.Test.YtldlldfoaicjcaaPreFnWords
import Derived.Test.YtldlldfoaicjcaaMFnWordsx13
import Derived.Test.YtldlldfoaicjcaaMFnWordsx0
import Derived.Test.YtldlldfoaicjcaaMFnWordsx1
import Derived.Test.YtldlldfoaicjcaaMFnWordsx2
import Derived.Test.YtldlldfoaicjcaaMFnWordsx3
import Derived.Test.YtldlldfoaicjcaaMFnWordsx4
import Derived.Test.YtldlldfoaicjcaaMFnWordsx5
import Derived.Test.YtldlldfoaicjcaaMFnWordsx6
import Derived.Test.YtldlldfoaicjcaaMFnWordsx7
import Derived.Test.YtldlldfoaicjcaaMFnWordsx8
import Derived.Test.YtldlldfoaicjcaaMFnWordsx9
import Derived.Test.YtldlldfoaicjcaaMFnWordsx10
import Derived.Test.YtldlldfoaicjcaaMFnWordsx11
import Derived.Test.YtldlldfoaicjcaaMFnWordsx12
import Derived.Test.YtldlldfoaicjcaaBit
import Derived.Test.YtldlldfoaicjcaaPoly
import Derived.Test.YtldlldfoaicjcaaMat
import Derived.Test.YtldlldfoaicjcaaLin
import Derived.Test.YtldlldfoaicjcaaRoot
import Derived.Test.YtldlldfoaicjcaaPev
import Derived.Test.YtldlldfoaicjcaaBm
import Derived.Test.YtldlldfoaicjcaaMx
import Derived.Test.YtldlldfoaicjcaaEnv
import Derived.Test.YtldlldfoaicjcaaEnc
import Derived.Test.YtldlldfoaicjcaaDec
import Derived.RegionTactic
import Derived.ChangeAlike
import Derived.BigRegion
import Derived.StillTailTactics
set_option linter.unusedVariables false
set_option linter.unusedSimpArgs false
namespace Go.Proofs.Ytldlldfoaicjcaa.Pure
open Go.RowKit Go.Proofs.Ytldlldfoaicjcaa Go.Proofs.Ytldlldfoaicjcaa.MFnWords Go.Proofs.YtldlldfoaicjcaaW.PrintWords Go.Proofs.YtldlldfoaicjcaaW.PrintLast Go.Proofs.Ytldlldfoaicjcaa.Bit
def gj : Nat → Nat → List (List Nat) → List (List Nat) → Option (List (List Nat))
 | 0, _, _, s => some s
 | d + 1, k, m, s => match Mat.pv k (m.drop k) with
  | none => none
  | some _ => gj d (k + 1) (clr1 m k k) (clr2 m s k k)
theorem gj_sv : ∀ (d k : Nat) (m s : List (List Nat)), k + d = m.length → gj d k m s = if (Mat.sv d k k m).2 < m.length then none else some (Mat.sv2 d k k m s)
 | 0, k, m, s, h => by
  show some s = if k < m.length then none else some s
  rw [if_neg (by omega)]
 | d + 1, k, m, s, h => by
  cases hp : Mat.pv k (m.drop k) with
  | none =>
   have h9 := Mat.sv_le d (k + 1) k m
   have e1 : Mat.sv (d + 1) k k m = Mat.sv d (k + 1) k m := by conv => lhs; unfold Mat.sv; rw [hp]
   have e3 : gj (d + 1) k m s = none := by unfold gj; rw [hp]
   rw [e3, e1, if_pos (by omega)]
  | some p =>
   have e1 : Mat.sv (d + 1) k k m = if k + 1 = m.length then (Mat.est m k (k + p) k, k + 1) else Mat.sv d (k + 1) (k + 1) (Mat.est m k (k + p) k) := by conv => lhs; unfold Mat.sv; rw [hp]
   have e2 : Mat.sv2 (d + 1) k k m s = if k + 1 = m.length then Mat.est2 m s k (k + p) k else Mat.sv2 d (k + 1) (k + 1) (Mat.est m k (k + p) k) (Mat.est2 m s k (k + p) k) := by conv => lhs; unfold Mat.sv2; rw [hp]
   have e3 : gj (d + 1) k m s = gj d (k + 1) (Mat.est m k (k + p) k) (Mat.est2 m s k (k + p) k) := by conv => lhs; unfold gj clr1 clr2; rw [hp]
   by_cases hk : k + 1 = m.length
   ·rw [if_pos hk] at e1 e2
    rw [e3, e1, e2, if_neg (by show ¬ k + 1 < m.length; omega)]
    obtain rfl : d = 0 := by omega
    rfl
   ·rw [if_neg hk] at e1 e2
    have ih := gj_sv d (k + 1) (Mat.est m k (k + p) k) (Mat.est2 m s k (k + p) k) (by rw [Mat.est_length]; omega)
    rw [Mat.est_length] at ih
    rw [e3, e1, e2, ih]
theorem gj_inv (m : List (List Nat)) : gj m.length 0 m (Mat.idM m.length) = Mat.inv m := gj_sv m.length 0 m (Mat.idM m.length) (by omega)
theorem clr1_MB {c : Nat} {m : List (List Nat)} (h : Mat.MB' c m) (r k : Nat) (hr : r < m.length) : Mat.MB' c (clr1 m r k) := by
 unfold clr1
 cases hp : Mat.pv k (m.drop r) with
 | none => exact h
 | some p =>
  have h9 := (Mat.pv_some hp).1
  rw [List.length_drop] at h9
  exact Mat.est_MB h k hr (by omega)
theorem clr1_length (m : List (List Nat)) (r k : Nat) : (clr1 m r k).length = m.length := by
 unfold clr1
 split
 ·rfl
 ·exact Mat.est_length ..
theorem clr2_MB {c d : Nat} {m s : List (List Nat)} (h : Mat.MB' c m) (hs : Mat.MB' d s) (hl : s.length = m.length) (r k : Nat) (hr : r < m.length) : Mat.MB' d (clr2 m s r k) := by
 unfold clr2
 cases hp : Mat.pv k (m.drop r) with
 | none => exact hs
 | some p =>
  have h9 := (Mat.pv_some hp).1
  rw [List.length_drop] at h9
  exact Mat.est2_MB h hs hl k hr (by omega)
theorem clr2_length {m s : List (List Nat)} (hl : s.length = m.length) (r k : Nat) : (clr2 m s r k).length = m.length := by
 unfold clr2
 split
 ·exact hl
 ·rw [Mat.est2_length hl]
def invW (m : List (List Nat)) : List (List Int) × Bool := match Mat.inv m with
 | none => ([], false)
 | some s => (upM s, true)

theorem idL_up (n : Nat) : idL n n = upM (Mat.idM n) := by
 unfold idL idR upM Mat.idM
 rw [List.map_map]
 refine List.map_congr_left fun i _ => ?_
 show _ = Poly.up ((List.replicate n 0).set i 1)
 rw [← Poly.up_set, ← Poly.up_zeros]; rfl

theorem infoR : (Try.prog.info? 23).map (fun i => (i.zero, i.size, i.bytes)) = some (some (.slice none 0 0), 1, 24) := by kernel_rfl

theorem pv_fidx {k : Nat} : ∀ (M : List (List Nat)) (i : Int), fidx (fun row : List Int => rd row (k : Int) != 0) (upM M) i = match Mat.pv k M with | none => -1 | some j => i + (j : Int)
 | [], i => rfl
 | r :: M, i => by
  have ih := pv_fidx (k := k) M (i + 1)
  have eU : Mat.pv k (r :: M) = if r.getD k 0 ≠ 0 then some 0 else (Mat.pv k M).map (· + 1) := rfl
  have e : (rd (Poly.up r) (k : Int) != 0) = decide (r.getD k 0 ≠ 0) := by
   rw [Poly.rd_up, Bool.eq_iff_iff, bne_iff_ne, decide_eq_true_eq]; omega
  show (if (rd (Poly.up r) (k : Int) != 0) = true then i else fidx _ (upM M) (i + 1)) = _
  rw [e, ih, eU]
  by_cases h : r.getD k 0 ≠ 0
  ·rw [decide_eq_true h, if_pos rfl, if_pos h]; simp
  ·rw [decide_eq_false h, if_neg (by decide), if_neg h]
   cases Mat.pv k M with
   | none => rfl
   | some j => show i + 1 + (j : Int) = i + ((j + 1 : Nat) : Int); omega

set_option maxHeartbeats 4000000 in
theorem scan_solved_idx (p : List Int → Bool) (k0 : Value) (A : Option Addr) (c : Nat) (l : List (List Int)) (w : World) (hr : Kd.C (Kd.slice 3 (Kd.int .i64)) w A l.length l) (hc : l.length ≤ c) (hone : ∀ (q : Nat) (A1 : Option Addr) (c1 : Nat) (x : List Int), x ∈ l → (Kd.int .i64).C (w.drewN q) A1 x.length x → x.length ≤ c1 → Calls Try.prog 171 #[.slice A1 x.length c1, k0] (w.drewN q) fun e w' => e = .returned (.bool (p x)) ∧ ∃ q', w' = (w.drewN q).drewN q') :
  Calls Try.prog 170 #[.slice A l.length c, .func (.func 171) #[] #[k0]] w fun e w' => e = .returned (.int .i64 (fidx p l 0)) ∧ Drawn0 w w' := by
 have hn : l.length ≤ 9223372036854775807 := hr.2.1
 have HR := Aside0.mk hr
 have HC := Aside0.mk hc
 have HO := Aside0.mk hone
 clear hr hc hone
 have eg : ∀ args w, (callFunc 171 args).run Try.prog w = .ok (.enter 171 args) w := enters_of Try.func171 (by kernel_rfl) rfl
 go_enter Try.func170, Try.ntmps170
 go_wp2
 go_loopg [5, 8] l.length (fun gg _ s8 wr => ∃ kk q : Nat, kk ≤ l.length ∧ l.length - kk ≤ gg ∧ s8 = .int .i64 kk ∧ wr = w.drewN q ∧ Aside0 (fidx p (l.drop kk) kk = fidx p l 0))
 case atStart => exact ⟨0, 0, Nat.zero_le _, by omega, rfl, rfl, ⟨rfl⟩⟩
 case round =>
  obtain ⟨kk, q, hkk, hg, rfl, rfl, E⟩ := hrel
  by_cases hlt : kk < l.length
  ·have hltz : (kk : Int) < (l.length : Int) := by omega
   obtain ⟨ad, A1, c1, ea, hx, hl1, hi⟩ := Mx.rows_at HR.out kk hlt hlt
   cases ea
   have E2 := Aside0.mk (List.drop_eq_getElem_cons hlt)
   have ED := E.out
   rw [E2.out, fidx_cons] at ED
   have hcall := HO.out q A1 c1 l[kk] (List.getElem_mem hlt) (Kd.C_drewN hi q) hl1
   clear hi
   generalize l[kk] = y at hx hl1 hcall ED
   cases hq : p y with
   | true =>
    rw [if_pos hq] at ED
    have ED' := Aside0.mk ED
    clear ED
    rw [hq] at hcall
    go_wp2_with (go_at_fn 171; refine hcall.mono ?_; rintro e w' ⟨rfl, q', rfl⟩)
    go_ret
    exact ⟨congrArg (fun z => Ending.returned (Value.int .i64 z)) ED'.out, ⟨_, rfl⟩⟩
   | false =>
    rw [if_neg (by rw [hq]; decide)] at ED
    have ED' := Aside0.mk ED
    clear ED
    rw [hq] at hcall
    go_wp2_with (go_at_fn 171; refine hcall.mono ?_; rintro e w' ⟨rfl, q', rfl⟩)
    go_roundg (l.length - (kk + 1))
    case measure => omega
    case rel => exact ⟨kk + 1, _, by omega, by omega, by go_num, rfl, ⟨by rw [← ED'.out]; congr 1⟩⟩
  ·have : kk = l.length := by omega
   subst this
   go_wp2
   go_ret
   refine ⟨?_, ⟨q, rfl⟩⟩
   have := E.out
   rw [List.drop_length] at this
   rw [← this]
   rfl

set_option maxHeartbeats 4000000 in
theorem impl_solved_one (g k : Nat) (A : Option Addr) (c : Nat) (row : List Int) (w : World) (hg : w.cell? ⟨g, 0, none⟩ = some (.int .i64 (k : Int))) (hk : k < row.length) (hr : (Kd.int .i64).C w A row.length row) :
  Calls Try.prog 171 #[.slice A row.length c, .pointer (some ⟨g, 0, none⟩)] w fun e w' => e = .returned (.bool (rd row (k : Int) != 0)) ∧ ∃ q', w' = w.drewN q' := by
 obtain ⟨ad, rfl, hx⟩ := Kd.at_int hr (k : Int) (by omega) (by omega)
 rw [Int.toNat_natCast] at hx
 have p1 : ((k : Int) < (row.length : Int)) = True := eq_true (by omega)
 have p2 : (k < row.length) = True := eq_true hk
 have p3 : (0 ≤ (k : Int)) = True := eq_true (by omega)
 generalize rd row (k : Int) = x at hx ⊢
 clear hr hk
 by_cases h : x = 0
 ·subst h
  go_enter Try.func171, Try.ntmps171
  go_wp2
  go_ret
  exact ⟨rfl, 0, rfl⟩
 ·have q1 : (x != 0) = true := bne_iff_ne.mpr h
  have q2 : (x == 0) = false := beq_eq_false_iff_ne.mpr h
  rw [q1]
  clear h
  go_enter Try.func171, Try.ntmps171
  go_wp2
  go_ret
  exact ⟨rfl, 0, rfl⟩
def T_so12 : Bool × List (List Nat × List Nat) := (true, [([], []), ([], []), ([0, 1], [0, 1]), ([2], [2]), ([], []), ([], []), ([], []), ([5, 6], [5, 6]), ([7], [7]), ([], []), ([8, 9], [8, 9]), ([10], [10]), ([], []), ([11, 12], [11, 12]), ([3, 4, 0, 1, 2, 3, 4, 5, 6, 7, 8, 9, 10, 11, 12, 13], [3, 4]), ([14, 13, 13, 0, 1, 2, 3, 4, 5, 6, 7, 8, 9, 10, 11, 12, 13], [13, 14])])
def B_so12 : List Nat := [0, 0, 3, 7, 0, 0, 0, 96, 224, 0, 992, 2016, 0, 8160, 16383, 32767]
theorem tab_so12 : rtab .any (opsOf Try.f96 12) = T_so12 := by kernel_rfl
theorem bits_so12 : waitsOk T_so12.2 B_so12 = true := by kernel_rfl
def T_so22 : Bool × List (List Nat × List Nat) := (true, [([], []), ([], []), ([0, 1], [0, 1]), ([2], [2]), ([], []), ([], []), ([], []), ([5, 6], [5, 6]), ([7], [7]), ([], []), ([8, 9], [8, 9]), ([10], [10]), ([4, 11], [4, 11]), ([3, 12], [3, 12]), ([0, 1, 0, 1, 2, 3, 4, 5, 6, 7, 8, 9, 10, 11, 12, 13], [0, 1]), ([14, 13, 12, 0, 1, 2, 3, 4, 5, 6, 7, 8, 9, 10, 11, 12, 13], [13, 14])])
def B_so22 : List Nat := [0, 0, 3, 7, 0, 0, 0, 96, 224, 0, 992, 2016, 4080, 8191, 16383, 32767]
theorem tab_so22 : rtab .any (opsOf Try.f96 22) = T_so22 := by kernel_rfl
theorem bits_so22 : waitsOk T_so22.2 B_so22 = true := by kernel_rfl
set_option maxHeartbeats 16000000 in
set_option maxRecDepth 100000 in
theorem solved_e {w0 w : World} {L : List (Value × Env.It)} (E : Env.Env 23 3 w0 w L) (j : Nat) {A : Option Addr} {c : Nat} {m : List (List Nat)} (hj : L[j]? = some (.slice A m.length c, .mat (upM m))) {cc : Nat} (hm : Mat.MB' cc m) (d : Nat) (hd : d ≤ cc) (hc : cc ≤ 100) (h0 : 0 < m.length) (hl : m.length ≤ 100) :
  Calls Try.prog 96 #[.slice A m.length c, .int .i64 (d : Int)] w fun e w' => e = .returned (.int .i64 (((Mat.sv d 0 0 m).2 : Nat) : Int)) ∧ Env.Env 23 3 w0 w' (L.set j (.slice A m.length c, .mat (upM (Mat.sv d 0 0 m).1))) := by
 obtain ⟨n, hn⟩ : ∃ n, n = m.length := ⟨_, rfl⟩
 rw [← hn] at hj h0 hl ⊢
 have hcap := E.cap (by decide) j hj
 obtain ⟨g, _, _, hA, _⟩ := E.mrow (by decide) hj (i := 0) (by rw [upM_length]; omega)
 subst hA
 have HJ := Aside0.mk hj
 have HM := Aside0.mk hm
 have HN := Aside0.mk hn
 have HD := Aside0.mk (show d ≤ cc ∧ cc ≤ 100 ∧ n ≤ 100 ∧ n ≤ c from ⟨hd, hc, hl, hcap⟩)
 have HX : ∀ M : List (List Nat), (L.set j (.slice (some ⟨g, 0, none⟩) n c, .mat (upM M)))[j]? = some (.slice (some ⟨g, 0, none⟩) n c, .mat (upM M)) := fun M => Env.set_at hj
 have HXX := Aside0.mk HX
 have E0 : Env.Env 23 3 w0 w (L.set j (.slice (some ⟨g, 0, none⟩) n c, .mat (upM m))) := by
  have : L.set j (.slice (some ⟨g, 0, none⟩) n c, .mat (upM m)) = L := by
   apply List.ext_getElem?
   intro i
   by_cases h : j = i
   ·subst h; rw [Env.set_at hj, hj]
   ·rw [List.getElem?_set_ne h]
  rw [this]; exact E
 have HE := Aside0.mk E0
 have d100 : (d : Int) ≤ 100 := by omega
 clear E E0 HX hj hm hn hd hc hl hcap
 go_enter Try.func96, Try.ntmps96
 go_wp2
 go_loopg [5, 15] d (fun gg s5 s15 wr => ∃ (k r : Nat) (M : List (List Nat)), k ≤ d ∧ d - k ≤ gg ∧ s15 = .int .i64 k ∧ s5 = .int .i64 r ∧ r < n ∧ Aside0 (M.length = n ∧ Mat.MB' cc M ∧ r ≤ k ∧ Mat.sv (d - k) k r M = Mat.sv d 0 0 m) ∧ Aside0 (Env.Env 23 3 w0 wr (L.set j (.slice (some ⟨g, 0, none⟩) n c, .mat (upM M)))))
 case atStart => exact ⟨0, 0, m, Nat.zero_le _, by omega, rfl, rfl, h0, ⟨HN.out.symm, HM.out, Nat.le_refl _, rfl⟩, HE⟩
 case round =>
  clear HE HJ
  obtain ⟨k, r, M, hk', hg', rfl, rfl, hrn, HMM, ENV⟩ := hrel
  by_cases hlt : k < d
  ·have k0 : (0 : Int) ≤ (k : Int) := by omega
   have k1 : (k : Int) < 100 := by omega
   have r0 : (0 : Int) ≤ (r : Int) := by omega
   have r1 : (r : Int) < 100 := by have := HD.out; omega
   have p1 : decide ((k : Int) < (d : Int)) = true := decide_eq_true (by omega)
   have p2 : decide (k < d) = true := decide_eq_true hlt
   obtain ⟨i0, hi0, _, hsz, _⟩ := info_parts infoR
   have hcut := cut_from (P := Try.prog) 22 23 .i64 Try.underlying22 hi0 1 hsz (some ⟨g, 0, none⟩) n c (r : Int) r0 (by omega)
   clear hi0 hsz
   have hMl : (M.drop r).length = n - r := by rw [List.length_drop, HMM.out.1]
   have hcr : ¬ c = r := by have := HD.out; omega
   have hE1 := ENV.out.box (k : Int)
   have hC1 := Kd.C_drop (m := r) (hE1.C (by decide) (j + 1) (HXX.out M)) (by rw [upM_length, HMM.out.1]; omega) (by rw [upM_length, HMM.out.1]; exact HD.out.2.2.2)
   rw [if_neg hcr] at hC1
   have eA : (some (⟨g, 0, none⟩ : Addr)).map (·.add (r * (Kd.slice 3 (Kd.int .i64)).sz)) = some ⟨g, r, none⟩ := by
    show some ((⟨g, 0, none⟩ : Addr).add (r * 1)) = _
    rw [Nat.mul_one, add_plain]
   have eD : (upM M).drop r = upM (M.drop r) := by unfold upM; rw [List.map_drop]
   rw [eA, eD] at hC1
   have hscan := scan_solved_idx (fun row : List Int => rd row (k : Int) != 0) (.pointer (some ⟨wr.heap.size, 0, none⟩)) (some ⟨g, r, none⟩) (c - r) (upM (M.drop r)) _ hC1 (by rw [upM_length, hMl]; have := HD.out; omega) (fun q A1 c1 x hx hxC hxc => impl_solved_one wr.heap.size k A1 c1 x _ ((blk_cell (blk_new wr _) 0).trans rfl) (by
    obtain ⟨y, hy, rfl⟩ := List.mem_map.1 hx
    have h8 := (HMM.out.2.1 y (List.mem_of_mem_drop hy)).1
    have h9 := HD.out
    rw [Poly.up_length]; omega) hxC)
   rw [pv_fidx, upM_length, hMl] at hscan
   have c1 : (c = r) = False := eq_false hcr
   have HE1 := Aside0.mk hE1
   clear hC1 eA eD hE1 hMl hcr
   cases hpv : Mat.pv k (M.drop r) with
   | none =>
    rw [hpv] at hscan
    have hsv : Mat.sv (d - (k + 1)) (k + 1) r M = Mat.sv d 0 0 m := by
     rw [← HMM.out.2.2.2, show d - k = (d - (k + 1)) + 1 by omega]
     conv => rhs; unfold Mat.sv
     rw [hpv]
    have HSV := Aside0.mk hsv
    clear hsv hpv
    change Calls _ _ _ _ fun e w' => e = Ending.returned (.int .i64 (-1)) ∧ Drawn0 _ w' at hscan
    go_wp2_with fail
    refine hscan.mono ?_
    rintro e w1 ⟨rfl, hd1⟩
    have HEW := Aside0.mk (HE1.out.below hd1.below)
    clear hscan HE1 hd1 hcut c1 ENV
    generalize wr.heap.size = gk at HEW ⊢
    go_wp2
    go_roundg (d - (k + 1))
    case measure => omega
    case rel => exact ⟨k + 1, r, M, by omega, by omega, by go_num, rfl, hrn, ⟨HMM.out.1, HMM.out.2.1, by have := HMM.out.2.2.1; omega, HSV.out⟩, ⟨HEW.out.tail⟩⟩
   | some p =>
    rw [hpv] at hscan
    have hps := Mat.pv_some hpv
    rw [List.length_drop, HMM.out.1] at hps
    have hpn : r + p < n := by omega
    have q2 : decide ((p : Int) < 0) = false := decide_eq_false (by omega)
    have pp0 : (0 : Int) ≤ (p : Int) := by omega
    have pp1 : (p : Int) < 100 := by have := HD.out; omega
    have HPV := Aside0.mk hpv
    have HPS := Aside0.mk hps
    clear hpv hps
    have hscan2 : Calls Try.prog 170 #[.slice (some ⟨g, r, none⟩) (n - r) (c - r), .func (.func 171) #[] #[.pointer (some ⟨wr.heap.size, 0, none⟩)]] (wr.alloc (.cells #[.int .i64 (k : Int)] 3 (0, 0))) fun e w' => e = Ending.returned (.int .i64 (p : Int)) ∧ Drawn0 (wr.alloc (.cells #[.int .i64 (k : Int)] 3 (0, 0))) w' := hscan.mono fun e w' ⟨h1, h2⟩ => ⟨h1.trans (by show Ending.returned (.int .i64 (0 + (p : Int))) = _; rw [Int.zero_add]), h2⟩
    clear hscan
    rename _ => hscan
    go_wp2_with fail
    refine hscan.mono ?_
    rintro e w1 ⟨rfl, hd1⟩
    have HEW := Aside0.mk (HE1.out.below hd1.below)
    clear hscan HE1 hd1 hcut c1 ENV
    generalize wr.heap.size = gk at HEW ⊢
    -- the rows change places
    obtain ⟨LX, hLX⟩ : ∃ LX : List (List Nat) → List (Value × Env.It), LX = fun Z => (.slice (some ⟨gk, 0, none⟩) 1 1, .row [(k : Int)]) :: L.set j (.slice (some ⟨g, 0, none⟩) n c, .mat (upM Z)) := ⟨_, rfl⟩
    have HL1 := Aside0.mk (show ∀ Z, (LX Z)[j + 1]? = some (.slice (some ⟨g, 0, none⟩) n c, .mat (upM Z)) from fun Z => by rw [hLX]; exact HXX.out Z)
    have HL2 := Aside0.mk (show ∀ Y Z, (LX Y).set (j + 1) (.slice (some ⟨g, 0, none⟩) n c, .mat (upM Z)) = LX Z from fun Y Z => by rw [hLX]; show (_ :: _) = (_ :: _); rw [List.set_set])
    have HL3 := Aside0.mk (show ∀ Z, (LX Z)[0]? = some (.slice (some ⟨gk, 0, none⟩) 1 1, .row [(k : Int)]) from fun Z => by rw [hLX]; rfl)
    have HL4 := Aside0.mk (show ∀ Z (W : World), Env.Env 23 3 w0 W (LX Z) → Env.Env 23 3 w0 W (L.set j (.slice (some ⟨g, 0, none⟩) n c, .mat (upM Z))) from fun Z W h => by rw [hLX] at h; exact h.tail)
    replace HEW := Aside0.mk (show Env.Env 23 3 w0 w1 (LX M) from by rw [hLX]; exact HEW.out)
    clear hLX
    obtain ⟨g', Aa, ca, Ab, cb, hA', hca, hfa, hcb, hfb, hsw⟩ := HEW.out.mswap (by decide) (HL1.out M) (a := r) (b := r + p) (by rw [upM_length, HMM.out.1]; exact hrn) (by rw [upM_length, HMM.out.1]; exact hpn)
    injection hA' with hA'
    injection hA' with hA'
    subst hA'
    rw [upM_getD] at hca
    rw [upM_getD] at hcb
    rw [upM_getD, upM_getD, upM_set, upM_set, HL2.out] at hsw
    obtain ⟨M1, hM1⟩ : ∃ M1, M1 = Mat.swp M r (r + p) := ⟨_, rfl⟩
    have HSW := Aside0.mk (show Env.Env 23 3 w0 _ (LX M1) from by rw [hM1]; exact hsw)
    have HM1 := Aside0.mk hM1
    have HB1 := Aside0.mk (show M1.length = n ∧ Mat.MB' cc M1 from by rw [hM1, Mat.swp_length, HMM.out.1]; exact ⟨rfl, Mat.swp_MB HMM.out.2.1 (by rw [HMM.out.1]; exact hrn) (by rw [HMM.out.1]; exact hpn)⟩)
    generalize M.getD r [] = ra at hca HSW
    generalize M.getD (r + p) [] = rb at hcb HSW
    have i1 : ((r : Int) < (n : Int)) = True := eq_true (by omega)
    have i2 : (((r : Int) + (p : Int)) < (n : Int)) = True := eq_true (by omega)
    have i3 : (0 ≤ (r : Int) + (p : Int)) = True := eq_true (by omega)
    have i4 : (r < n) = True := eq_true hrn
    have i5 : (r + p < n) = True := eq_true hpn
    have hcb2 : (w1.setCell ⟨g, r, none⟩ (.slice Ab (Poly.up rb).length cb)).cell? ⟨g, r + p, none⟩ = some (.slice Ab (Poly.up rb).length cb) := Env.cell_both hcb
    clear hsw hM1
    go_wp2_with fail
    go_region
    have hE2 := HSW.out.below (below_drew (Below.refl _ _))
    generalize ((w1.setCell ⟨g, r, none⟩ (.slice Ab (Poly.up rb).length cb)).setCell ⟨g, r + p, none⟩ (.slice Aa (Poly.up ra).length ca)).drew = w2 at hE2 ⊢
    clear HSW hca hfa hcb hfb hcb2 HEW i2 i3 i5 pp0 pp1 q2 hpn
    -- the number by which the row is divided
    have HR1 := Aside0.mk (HB1.out.2.get (i := r) (by rw [HB1.out.1]; exact hrn))
    obtain ⟨R1, hR1⟩ : ∃ R1, R1 = M1.getD r [] := ⟨_, rfl⟩
    have HER := Aside0.mk hR1
    have HRL := Aside0.mk (show R1.length = cc ∧ Poly.AllB R1 from by rw [hR1]; exact HR1.out)
    have kR : k < (Poly.up R1).length := by rw [Poly.up_length, HRL.out.1]; have := HD.out; omega
    obtain ⟨g', gu, cu, hA', hh1, _, hx1, _, _⟩ := hE2.mput2 (by decide) (HL1.out M1) (i := r) (q := k) (by rw [upM_length, HB1.out.1]; exact hrn) (by rw [upM_getD, ← hR1]; exact kR)
    injection hA' with hA'
    injection hA' with hA'
    subst hA'
    rw [upM_getD, ← hR1] at hh1 hx1
    rw [Poly.rd_up] at hx1
    have hbx := hE2.boxed 0 (HL3.out M1)
    obtain ⟨x, hx⟩ : ∃ x, x = R1.getD k 0 := ⟨_, rfl⟩
    have HXE := Aside0.mk hx
    have hxb : x < 256 := by rw [hx]; exact Poly.AllB.get HRL.out.2 k
    rw [← hx] at hx1
    have j1 : ((k : Int) < ((Poly.up R1).length : Int)) = True := eq_true (by omega)
    have j2 : (k < (Poly.up R1).length) = True := eq_true kR
    obtain ⟨K1, h1⟩ := (impl_inverse_ev x hxb).rounds
    have HK1 := Aside0.mk h1
    have HE2 := Aside0.mk hE2
    clear hR1 hx hxb kR h1 hE2
    go_wp2_with fail
    go_still_tail 7, (by kernel_rfl)
    change wpList _ _ _ _ _ (w2.drewN 1)
    go_wp2_with fail
    refine (impl_inverse.calls K1 (x : Int) _ _ HK1.out).mono ?_
    rintro e w3 ⟨rfl, hd3⟩
    have HE3 := Aside0.mk ((HE2.out.drewN 1).below hd3.below)
    clear hd3 HE2 HK1 hh1 hx1 hbx j1 j2
    -- the row is divided
    obtain ⟨f, hf⟩ : ∃ f, f = Gf.gi x := ⟨_, rfl⟩
    have HFE := Aside0.mk hf
    have hfb : f < 256 := by rw [hf]; exact Gf.gi_lt x
    rw [← hf]
    have hrl : (Poly.up R1).length = cc := by rw [Poly.up_length, HRL.out.1]
    obtain ⟨g', Au, cu, hA', hh3, _, _, _, _, _, _⟩ := HE3.out.mrow (by decide) (HL1.out M1) (i := r) (by rw [upM_length, HB1.out.1]; exact hrn)
    injection hA' with hA'
    injection hA' with hA'
    subst hA'
    rw [upM_getD, ← HER.out, hrl] at hh3
    have HS0 := Aside0.mk (show Env.Env 23 3 w0 w3 (LX (M1.set r (Mat.rscaleTo f R1 0))) from by rw [Mat.rscaleTo_zero, HER.out, Mat.set_self]; exact HE3.out)
    clear hf HE3
    go_wp2
    go_loopg [56] cc (fun gg s56 wq => ∃ i : Nat, i ≤ cc ∧ cc - i ≤ gg ∧ s56 = .int .i64 i ∧ Aside0 (Env.Env 23 3 w0 wq (LX (M1.set r (Mat.rscaleTo f R1 i)))))
    case atStart => exact ⟨0, Nat.zero_le _, by omega, rfl, HS0⟩
    case round =>
     clear HS0 hh3
     obtain ⟨i, hi', hgi, rfl, HSI⟩ := hrel
     by_cases hic : i < cc
     ·have c100 : (i : Int) < 100 := by have := HD.out; omega
      have c0 : (0 : Int) ≤ (i : Int) := by omega
      have hYl : (M1.set r (Mat.rscaleTo f R1 i)).length = n := by rw [List.length_set]; exact HB1.out.1
      have hYr : (M1.set r (Mat.rscaleTo f R1 i)).getD r [] = Mat.rscaleTo f R1 i := by rw [Mat.getD_setL _ _ _ _ (by rw [HB1.out.1]; exact hrn), if_pos rfl]
      have hrl2 : (Poly.up (Mat.rscaleTo f R1 i)).length = cc := by rw [Poly.up_length, Mat.rscaleTo_length, HRL.out.1]
      obtain ⟨g', gu, cu, hA', hh, _, hx, _, hput⟩ := (HSI.out.drewN 1).mput2 (by decide) (HL1.out _) (i := r) (q := i) (by rw [upM_length, hYl]; exact hrn) (by rw [upM_getD, hYr, hrl2]; exact hic)
      injection hA' with hA'
      injection hA' with hA'
      subst hA'
      rw [upM_getD, hYr, hrl2] at hh
      rw [upM_getD, hYr, Poly.rd_up, Mat.rscaleTo_at f (by rw [HRL.out.1]; exact hic)] at hx
      have hset : (upM (M1.set r (Mat.rscaleTo f R1 i))).set r ((Poly.up (Mat.rscaleTo f R1 i)).set i ((Gf.gm (R1.getD i 0) f : Nat) : Int)) = upM (M1.set r (Mat.rscaleTo f R1 (i + 1))) := by rw [Poly.up_set, Mat.rscaleTo_succ f (by rw [HRL.out.1]; exact hic), upM_set, List.set_set]
      have hput2 : ∀ W, Below (wr.drewN 1).heap.size (wr.drewN 1) W → (∃ v, W.cell? ⟨gu, i, none⟩ = some v) ∧ W.frozen? ⟨gu, i, none⟩ = false ∧ Env.Env 23 3 w0 (W.setCell ⟨gu, i, none⟩ (.int .i64 ((Gf.gm (R1.getD i 0) f : Nat) : Int))) (LX (M1.set r (Mat.rscaleTo f R1 (i + 1)))) := fun W hW => by
       have h8 := hput W hW
       have h9 := h8.2.2 ((Gf.gm (R1.getD i 0) f : Nat) : Int)
       rw [upM_getD, hYr, hset, HL2.out] at h9
       exact ⟨⟨_, h8.1⟩, h8.2.1, h9⟩
      have HP := Aside0.mk hput2
      have hxi : R1.getD i 0 < 256 := Poly.AllB.get HRL.out.2 i
      obtain ⟨K2, h2⟩ := (impl_mul_ev (R1.getD i 0) f hxi hfb).rounds
      have HK2 := Aside0.mk h2
      have hh0 : wr.drew.cell? ⟨g, r, none⟩ = some (.slice (some ⟨gu, 0, none⟩) cc cu) := hh
      have hx0 : wr.drew.cell? ⟨gu, i, none⟩ = some (.int .i64 ((R1.getD i 0 : Nat) : Int)) := hx
      have hpw : ∀ W, Below wr.drew.heap.size wr.drew W → (∃ v, W.cell? ⟨gu, i, none⟩ = some v) ∧ W.frozen? ⟨gu, i, none⟩ = false ∧ Env.Env 23 3 w0 (W.setCell ⟨gu, i, none⟩ (.int .i64 ((Gf.gm (R1.getD i 0) f : Nat) : Int))) (LX (M1.set r (Mat.rscaleTo f R1 (i + 1)))) := HP.out
      have HPW := Aside0.mk hpw
      have j1 : ((i : Int) < (cc : Int)) = True := eq_true (by omega)
      have j2 : (i < cc) = True := eq_true hic
      generalize R1.getD i 0 = y at hx hx0 HPW HP HK2 hput2 hpw
      clear hput hput2 hset hYl hYr hrl2 hxi h2 hh hx HP hpw
      go_wp2_with fail
      refine start_ (n := 16) (S := fun w' => w'.cell? ⟨g, r, none⟩ = some (.slice (some ⟨gu, 0, none⟩) cc cu) ∧ w'.cell? ⟨gu, i, none⟩ = some (.int .i64 (y : Int))) (ds := [15]) #[false, false, false, false, false, false, false, false, false, false, false, false, false, false, false, false] (by kernel_rfl) rfl rfl (⟨hh0, hx0⟩) (fun hHeld => ?_); refine with_tabW tab_so12 bits_so12 (fun HT_ HW_ => ?_)
      generalize wr.drew = w5 at HPW hh0 hx0 hHeld ⊢
      refine pure_ (i := 0) (N := some 59) (v := ?_) (a' := ?_) #[true, false, false, false, false, false, false, false, false, false, false, false, false, false, false, false] rfl rfl (any_of HT_.out (by kernel_rfl)) (fun _ _ _ h => h) (Or.inl ⟨by rfl, ?_⟩) ?_ ?_
      rotate_left; (intro w'; go_simp; with_reducible rfl); rotate_left; (simp only [Act.put, List.setIfInBounds_toArray, List.set_cons_zero, List.set_cons_succ, i64_w, i32_w]; rfl)
      refine pure_ (i := 1) (N := some 60) (v := ?_) (a' := ?_) #[true, true, false, false, false, false, false, false, false, false, false, false, false, false, false, false] rfl rfl (any_of HT_.out (by kernel_rfl)) (fun _ _ _ h => h) (Or.inl ⟨by rfl, ?_⟩) ?_ ?_
      rotate_left; (intro w'; go_simp; with_reducible rfl); rotate_left; (simp only [Act.put, List.setIfInBounds_toArray, List.set_cons_zero, List.set_cons_succ, i64_w, i32_w]; rfl)
      refine pure_ (i := 2) (N := some 61) (v := ?_) (a' := ?_) #[true, true, true, false, false, false, false, false, false, false, false, false, false, false, false, false] rfl rfl (any_of HT_.out (by kernel_rfl)) (fun _ _ _ h => h) (Or.inl ⟨by rfl, ?_⟩) ?_ ?_
      rotate_left; (intro w'; go_simp; with_reducible rfl); rotate_left; (simp only [Act.put, List.setIfInBounds_toArray, List.set_cons_zero, List.set_cons_succ, i64_w, i32_w]; rfl)
      refine pure_ (i := 4) (N := some 63) (v := ?_) (a' := ?_) #[true, true, true, false, true, false, false, false, false, false, false, false, false, false, false, false] rfl rfl (any_of HT_.out (by kernel_rfl)) (fun _ _ _ h => h) (Or.inl ⟨by rfl, ?_⟩) ?_ ?_
      rotate_left; (intro w'; go_simp; with_reducible rfl); rotate_left; (simp only [Act.put, List.setIfInBounds_toArray, List.set_cons_zero, List.set_cons_succ, i64_w, i32_w]; rfl)
      refine pure_ (i := 5) (N := some 64) (v := ?_) (a' := ?_) #[true, true, true, false, true, true, false, false, false, false, false, false, false, false, false, false] rfl rfl (any_of HT_.out (by kernel_rfl)) (fun _ _ _ h => h) (Or.inl ⟨by rfl, ?_⟩) ?_ ?_
      rotate_left; (intro w'; go_simp; with_reducible rfl); rotate_left; (simp only [Act.put, List.setIfInBounds_toArray, List.set_cons_zero, List.set_cons_succ, i64_w, i32_w]; rfl)
      refine pure_ (i := 6) (N := some 65) (v := ?_) (a' := ?_) #[true, true, true, false, true, true, true, false, false, false, false, false, false, false, false, false] rfl rfl (any_of HT_.out (by kernel_rfl)) (fun _ _ _ h => h) (Or.inl ⟨by rfl, ?_⟩) ?_ ?_
      rotate_left; (intro w'; go_simp; with_reducible rfl); rotate_left; (simp only [Act.put, List.setIfInBounds_toArray, List.set_cons_zero, List.set_cons_succ, i64_w, i32_w]; rfl)
      refine pure_ (i := 7) (N := some 66) (v := ?_) (a' := ?_) #[true, true, true, false, true, true, true, true, false, false, false, false, false, false, false, false] rfl rfl (any_of HT_.out (by kernel_rfl)) (fun _ _ _ h => h) (Or.inl ⟨by rfl, ?_⟩) ?_ ?_
      rotate_left; (intro w'; go_simp; with_reducible rfl); rotate_left; (simp only [Act.put, List.setIfInBounds_toArray, List.set_cons_zero, List.set_cons_succ, i64_w, i32_w]; rfl)
      refine pure_ (i := 9) (N := some 68) (v := ?_) (a' := ?_) #[true, true, true, false, true, true, true, true, false, true, false, false, false, false, false, false] rfl rfl (any_of HT_.out (by kernel_rfl)) (fun _ _ _ h => h) (Or.inl ⟨by rfl, ?_⟩) ?_ ?_
      rotate_left; (intro w'; go_simp; with_reducible rfl); rotate_left; (simp only [Act.put, List.setIfInBounds_toArray, List.set_cons_zero, List.set_cons_succ, i64_w, i32_w]; rfl)
      refine pure_ (i := 12) (N := some 71) (v := ?_) (a' := ?_) #[true, true, true, false, true, true, true, true, false, true, false, false, true, false, false, false] rfl rfl (any_of HT_.out (by kernel_rfl)) (fun _ _ _ h => h) (Or.inl ⟨by rfl, ?_⟩) ?_ ?_
      rotate_left; (intro w'; go_simp; with_reducible rfl); rotate_left; (simp only [Act.put, List.setIfInBounds_toArray, List.set_cons_zero, List.set_cons_succ, i64_w, i32_w]; rfl)
      refine take_ (i := 3) (N := some 62) (v := ?_) (a' := ?_) #[true, true, true, true, true, true, true, true, false, true, false, false, true, false, false, false] rfl rfl (take_ofW HT_.out HW_.out (by kernel_rfl)) (fun _ _ _ h => h) (Or.inl ⟨by rfl, ?_⟩) hHeld ?_ ?_
      rotate_left
      ·rintro w' ⟨s0, s1⟩
       go_simp
       with_reducible rfl
      rotate_left
      ·simp only [Act.put, List.setIfInBounds_toArray, List.set_cons_zero, List.set_cons_succ, i64_w, i32_w]
       rfl
      refine take_ (i := 8) (N := some 67) (v := ?_) (a' := ?_) #[true, true, true, true, true, true, true, true, true, true, false, false, true, false, false, false] rfl rfl (take_ofW HT_.out HW_.out (by kernel_rfl)) (fun _ _ _ h => h) (Or.inl ⟨by rfl, ?_⟩) hHeld ?_ ?_
      rotate_left
      ·rintro w' ⟨s0, s1⟩
       go_simp
       with_reducible rfl
      rotate_left
      ·simp only [Act.put, List.setIfInBounds_toArray, List.set_cons_zero, List.set_cons_succ, i64_w, i32_w]
       rfl
      refine pure_ (i := 10) (N := some 69) (v := ?_) (a' := ?_) #[true, true, true, true, true, true, true, true, true, true, true, false, true, false, false, false] rfl rfl (any_of HT_.out (by kernel_rfl)) (fun _ _ _ h => h) (Or.inl ⟨by rfl, ?_⟩) ?_ ?_
      rotate_left; (intro w'; go_simp; with_reducible rfl); rotate_left; (simp only [Act.put, List.setIfInBounds_toArray, List.set_cons_zero, List.set_cons_succ, i64_w, i32_w]; rfl)
      refine take_ (i := 11) (N := some 70) (v := ?_) (a' := ?_) #[true, true, true, true, true, true, true, true, true, true, true, true, true, false, false, false] rfl rfl (take_ofW HT_.out HW_.out (by kernel_rfl)) (fun _ _ _ h => h) (Or.inl ⟨by rfl, ?_⟩) hHeld ?_ ?_
      rotate_left
      ·rintro w' ⟨s0, s1⟩
       go_simp
       with_reducible rfl
      rotate_left
      ·simp only [Act.put, List.setIfInBounds_toArray, List.set_cons_zero, List.set_cons_succ, i64_w, i32_w]
       rfl
      refine one_ (i := 13) (N := some 72) #[true, true, true, true, true, true, true, true, true, true, true, true, true, true, false, false] rfl rfl (one_of HT_.out (by kernel_rfl)) (by decide) (fun K hK => ?_)
      refine goes_ Try.func128 (by kernel_rfl) rfl #[.int .i64 (y : Int), .int .i64 (f : Int)] (by rfl) rfl rfl (by (try simp only [List.map_toArray, List.map_cons, List.map_nil]); first | done | rfl | (simp only [List.length_drop, List.length_take]; rfl)) ?_
      refine (impl_mul.calls K2 (y : Int) (f : Int) _ _ HK2.out).mono ?_
      rintro e w4 ⟨rfl, hd4⟩
      refine ⟨_, rfl, ?_⟩
      obtain ⟨⟨v4, hv4⟩, hf4, hE4⟩ := HPW.out w4 hd4.below
      have HE4 := Aside0.mk hE4
      have hS4 := And.intro (pw_cell_below hd4.below hh0) (pw_cell_below hd4.below hx0)
      clear hE4 hd4 HPW HK2 hh0 hx0
      refine hK.out _ _ hS4 (fun hHeld => ?_)
      clear hK K hS4
      refine norm_ (a' := ?_) ?_ ?_
      rotate_left
      ·show Act.put _ (some 72) _ = _
       simp only [Act.put, List.setIfInBounds_toArray, List.set_cons_zero, List.set_cons_succ, i64_w, i32_w]
       rfl
      refine pure_ (i := 14) (N := some 73) (v := ?_) (a' := ?_) #[true, true, true, true, true, true, true, true, true, true, true, true, true, true, true, false] rfl rfl (any_of HT_.out (by kernel_rfl)) (fun _ _ _ h => h) (Or.inl ⟨by rfl, ?_⟩) ?_ ?_
      rotate_left; (intro w'; go_simp; with_reducible rfl); rotate_left; (simp only [Act.put, List.setIfInBounds_toArray, List.set_cons_zero, List.set_cons_succ, i64_w, i32_w]; rfl)
      refine last_ (i := 15) (N := none) #[true, true, true, true, true, true, true, true, true, true, true, true, true, true, true, true] rfl rfl (one_of HT_.out (by kernel_rfl)) (by decide) (fun K hK => ?_)
      refine skip_ (w1 := ?_) (by rfl) rfl ?_ ?_
      rotate_left
      ·go_simp
       rfl
      refine hK.out _ _ ?_
      clear hK K
      refine done_ (done_of HT_.out (by kernel_rfl)) ?_
      go_wp2
      go_roundg (cc - (i + 1))
      case measure => omega
      case rel => exact ⟨i + 1, by omega, by omega, by go_num, HE4⟩
     ·have hie : i = cc := by omega
      have hTL : Mat.rscaleTo f R1 i = Mat.rscale f R1 := by rw [hie, ← HRL.out.1, Mat.rscaleTo_all]
      have hE5 := HSI.out
      rw [hTL] at hE5
      obtain ⟨T, hT⟩ : ∃ T, T = Mat.rscale f R1 := ⟨_, rfl⟩
      have HTE := Aside0.mk hT
      rw [← hT] at hE5
      have HTL := Aside0.mk (show T.length = cc ∧ Poly.AllB T from by rw [hT]; exact ⟨by rw [Mat.rscale_length]; exact HRL.out.1, Mat.rscale_bytes _ HRL.out.2⟩)
      obtain ⟨C, hC⟩ : ∃ C, C = Mat.col k M1 := ⟨_, rfl⟩
      have HCE := Aside0.mk hC
      have HCB := Aside0.mk (show Poly.AllB C from by rw [hC]; exact Mat.col_bytes HB1.out.2 k)
      have HCA := Aside0.mk (show ∀ i, C.getD i 0 = (M1.getD i []).getD k 0 from fun i => by rw [hC]; exact Mat.col_at k M1 i)
      have HCL := Aside0.mk (show C.length = (M1.set r T).length from by rw [hC, Mat.col_length, List.length_set])
      have HNL := Aside0.mk (show (M1.set r T).length = n from by rw [List.length_set]; exact HB1.out.1)
      have HMR := Aside0.mk (show (M1.set r T).getD r [] = T from by rw [Mat.getD_setL _ _ _ _ (by rw [HB1.out.1]; exact hrn), if_pos rfl])
      have HMO := Aside0.mk (show ∀ i, ¬ i = r → (M1.set r T).getD i [] = M1.getD i [] from fun i hi => by rw [Mat.getD_setL _ _ _ _ (by rw [HB1.out.1]; exact hrn), if_neg hi])
      have HEZ := Aside0.mk (show Env.Env 23 3 w0 wr (LX (Mat.erT T r C (M1.set r T) 0)) from by rw [Mat.erT_zero]; exact hE5)
      have qie : ((cc : Int) < (cc : Int)) = False := eq_false (by omega)
      obtain rfl : cc = i := hie.symm
      clear hE5 hT hTL hC HSI hgi hfb hie
      go_wp2
      go_loopg [77] n (fun gg s77 wq => ∃ i : Nat, i ≤ n ∧ n - i ≤ gg ∧ s77 = .int .i64 i ∧ Aside0 (Env.Env 23 3 w0 wq (LX (Mat.erT T r C (M1.set r T) i))))
      case atStart => exact ⟨0, Nat.zero_le _, by omega, rfl, HEZ⟩
      case round =>
       clear HEZ
       obtain ⟨i, hi', hgi, rfl, HSI⟩ := hrel
       by_cases hin : i < n
       ·have z0 : (0 : Int) ≤ (i : Int) := by omega
        have z1 : (i : Int) < 100 := by have := HD.out; omega
        have hYl : (Mat.erT T r C (M1.set r T) i).length = n := by rw [Mat.erT_length HCL.out]; exact HNL.out
        have hYi : (Mat.erT T r C (M1.set r T) i).getD i [] = (M1.set r T).getD i [] := by
         rw [List.getD_eq_getElem?_getD, Mat.erT_at HCL.out (Nat.le_refl _) (by rw [HNL.out]; exact hin)]; rfl
        have hYr : (Mat.erT T r C (M1.set r T) i).getD r [] = T := by rw [Mat.erT_top HCL.out i (by rw [HNL.out]; exact hrn)]; exact HMR.out
        have hstep := Mat.erT_succ (top := T) (a := r) HCL.out (i := i) (by rw [HNL.out]; exact hin)
        have hkc : k < cc := by have := HD.out; omega
        have p3 : ((i : Int) < (n : Int)) = True := eq_true (by omega)
        have p4 : (i < n) = True := eq_true hin
        have p5 : ((k : Int) < (cc : Int)) = True := eq_true (by omega)
        have p6 : (k < cc) = True := eq_true hkc
        obtain ⟨Z, hZ⟩ : ∃ Z, Z = Mat.erT T r C (M1.set r T) i := ⟨_, rfl⟩
        have HZ := Aside0.mk hZ
        have hbx := HSI.out.boxed 0 (HL3.out _)
        rw [← hZ] at hYl hYi hYr hstep HSI
        by_cases hir : i = r
        ·have hRi : Z.getD i [] = T := by rw [hir]; exact hYr
         obtain ⟨g', gi, ci, hA', hh, _, hx, _, _⟩ := HSI.out.mput2 (by decide) (HL1.out _) (i := i) (q := k) (by rw [upM_length, hYl]; exact hin) (by rw [upM_getD, hRi, Poly.up_length, HTL.out.1]; exact hkc)
         injection hA' with hA'
         injection hA' with hA'
         subst hA'
         rw [upM_getD, hRi, Poly.up_length, HTL.out.1] at hh
         rw [upM_getD, hRi, Poly.rd_up] at hx
         have hst : Mat.erT T r C (M1.set r T) (i + 1) = Z := by rw [← hstep]; unfold Mat.erow; rw [if_pos hir, ← hYi]; exact Mat.set_self _ _
         have HST := Aside0.mk hst
         have e1 : ((i : Int) != (r : Int)) = false := by rw [hir]; simp
         have e2 : ((i : Int) == (r : Int)) = true := by rw [hir]; simp
         generalize T.getD k 0 = tk at hx
         clear hRi hst hstep hYr hYi hYl hZ hkc hir
         go_wp2_with fail
         go_loopg [88] cc (fun gg s88 wq => ∃ q : Nat, q ≤ cc ∧ cc - q ≤ gg ∧ s88 = .int .i64 q ∧ Aside0 (Env.Env 23 3 w0 wq (LX Z)))
         case atStart => exact ⟨0, Nat.zero_le _, by omega, rfl, HSI⟩
         case round =>
          clear HSI hh hx hbx
          obtain ⟨q, hq', hgq, rfl, HSQ⟩ := hrel
          have y0 : (0 : Int) ≤ (q : Int) := by omega
          have y1 : (q : Int) ≤ 100 := by have := HD.out; omega
          by_cases hqc : q < cc
          ·have j1 : ((q : Int) < (cc : Int)) = True := eq_true (by omega)
           go_wp2
           go_roundg (cc - (q + 1))
           case measure => omega
           case rel => exact ⟨q + 1, by omega, by omega, by go_num, HSQ⟩
          ·have j1 : ((q : Int) < (cc : Int)) = False := eq_false (by omega)
           go_wp2
           go_roundg (n - (i + 1))
           case measure => omega
           case rel => exact ⟨i + 1, by omega, by omega, by go_num, ⟨by rw [HST.out]; exact HSQ.out⟩⟩
        ·obtain ⟨R, hR⟩ : ∃ R, R = M1.getD i [] := ⟨_, rfl⟩
         have hRi : Z.getD i [] = R := by rw [hYi, hR]; exact HMO.out i hir
         have HRB := Aside0.mk (show R.length = cc ∧ Poly.AllB R from by rw [hR]; exact HB1.out.2.get (by rw [HB1.out.1]; exact hin))
         obtain ⟨y0, hy0⟩ : ∃ y0, y0 = R.getD k 0 := ⟨_, rfl⟩
         have HYB := Aside0.mk (show y0 < 256 from by rw [hy0]; exact Poly.AllB.get HRB.out.2 k)
         have HST := Aside0.mk (show Z.set i (Mat.radd y0 R T) = Mat.erT T r C (M1.set r T) (i + 1) from by rw [← hstep]; unfold Mat.erow; rw [if_neg hir, HMO.out i hir, HCA.out, ← hR, ← hy0])
         have HZI := Aside0.mk (show ∀ X, (Z.set i X).getD i [] = X from fun X => by rw [Mat.getD_setL _ _ _ _ (by rw [hYl]; exact hin), if_pos rfl])
         have HZR := Aside0.mk (show ∀ X, (Z.set i X).getD r [] = T from fun X => by rw [Mat.getD_setL _ _ _ _ (by rw [hYl]; exact hin), if_neg (fun h => hir h.symm)]; exact hYr)
         have HZL := Aside0.mk hYl
         obtain ⟨g', gi, ci, hA', hh, _, hx, _, _⟩ := HSI.out.mput2 (by decide) (HL1.out _) (i := i) (q := k) (by rw [upM_length, hYl]; exact hin) (by rw [upM_getD, hRi, Poly.up_length, HRB.out.1]; exact hkc)
         injection hA' with hA'
         injection hA' with hA'
         subst hA'
         rw [upM_getD, hRi, Poly.up_length, HRB.out.1] at hh
         rw [upM_getD, hRi, Poly.rd_up, ← hy0] at hx
         have HSI0 := Aside0.mk (show Env.Env 23 3 w0 wr (LX (Z.set i (Mat.raddTo y0 R T 0))) from by rw [Mat.raddTo_zero, ← hRi, Mat.set_self]; exact HSI.out)
         have HHK := Aside0.mk hh
         have e1 : ((i : Int) != (r : Int)) = true := by simp; omega
         have e2 : ((i : Int) == (r : Int)) = false := by simp; omega
         clear hRi hstep hYr hYi hYl hZ hkc HSI hy0 hR
         go_wp2_with fail
         go_loopg [88] cc (fun gg s88 wq => ∃ q : Nat, q ≤ cc ∧ cc - q ≤ gg ∧ s88 = .int .i64 q ∧ Aside0 (Env.Env 23 3 w0 wq (LX (Z.set i (Mat.raddTo y0 R T q)))) ∧ Aside0 (wq.cell? ⟨g, i, none⟩ = some (.slice (some ⟨gi, 0, none⟩) cc ci)))
         case atStart => exact ⟨0, Nat.zero_le _, by omega, rfl, HSI0, HHK⟩
         case round =>
          clear HSI0 HHK hh hx hbx
          obtain ⟨q, hq', hgq, rfl, HSQ, HHK⟩ := hrel
          have x0 : (0 : Int) ≤ (q : Int) := by omega
          have x1 : (q : Int) ≤ 100 := by have := HD.out; omega
          have hRT : R.length = T.length := by rw [HRB.out.1, HTL.out.1]
          by_cases hqc : q < cc
          ·have hqR : q < R.length := by rw [HRB.out.1]; exact hqc
           have hrl2 : (Poly.up (Mat.raddTo y0 R T q)).length = cc := by rw [Poly.up_length, Mat.raddTo_length hRT, HRB.out.1]
           have HQ := HSQ.out.drewN 1
           obtain ⟨g', gu, cu, hA', hh, _, hx, _, hput⟩ := HQ.mput2 (by decide) (HL1.out _) (i := i) (q := q) (by rw [upM_length, List.length_set, HZL.out]; exact hin) (by rw [upM_getD, HZI.out, hrl2]; exact hqc)
           injection hA' with hA'
           injection hA' with hA'
           subst hA'
           rw [upM_getD, HZI.out, hrl2] at hh
           have hne := HQ.mne (by decide) (HL1.out _) (i := i) (by rw [upM_length, List.length_set, HZL.out]; exact hin) hh
           have hk2 := hh.symm.trans HHK.out
           injection hk2 with hk2
           injection hk2 with hk3 _ hk4
           injection hk3 with hk3
           injection hk3 with hk3
           subst hk3 hk4
           rw [upM_getD, HZI.out, Poly.rd_up, Mat.raddTo_at hRT hqR] at hx
           obtain ⟨g', gt, ct, hA', ht, _, htx, _, _⟩ := HQ.mput2 (by decide) (HL1.out _) (i := r) (q := q) (by rw [upM_length, List.length_set, HZL.out]; exact hrn) (by rw [upM_getD, HZR.out, Poly.up_length, HTL.out.1]; exact hqc)
           injection hA' with hA'
           injection hA' with hA'
           subst hA'
           rw [upM_getD, HZR.out, Poly.up_length, HTL.out.1] at ht
           rw [upM_getD, HZR.out, Poly.rd_up] at htx
           have hyb : R.getD q 0 < 256 := Poly.AllB.get HRB.out.2 q
           have htb : T.getD q 0 < 256 := Poly.AllB.get HTL.out.2 q
           have hxr := xor_up hyb (Gf.gm_lt (T.getD q 0) HYB.out)
           have hset : (upM (Z.set i (Mat.raddTo y0 R T q))).set i ((Poly.up (Mat.raddTo y0 R T q)).set q (Go.bits .xor .i64 ((R.getD q 0 : Nat) : Int) ((Gf.gm y0 (T.getD q 0) : Nat) : Int))) = upM (Z.set i (Mat.raddTo y0 R T (q + 1))) := by rw [hxr, Poly.up_set, Mat.raddTo_succ hRT hqR, upM_set, List.set_set]
           have hput2 : ∀ W, Below wr.drew.heap.size wr.drew W → (∃ v, W.cell? ⟨gu, q, none⟩ = some v) ∧ W.frozen? ⟨gu, q, none⟩ = false ∧ Env.Env 23 3 w0 (W.setCell ⟨gu, q, none⟩ (.int .i64 (Go.bits .xor .i64 ((R.getD q 0 : Nat) : Int) ((Gf.gm y0 (T.getD q 0) : Nat) : Int)))) (LX (Z.set i (Mat.raddTo y0 R T (q + 1)))) ∧ (W.setCell ⟨gu, q, none⟩ (.int .i64 (Go.bits .xor .i64 ((R.getD q 0 : Nat) : Int) ((Gf.gm y0 (T.getD q 0) : Nat) : Int)))).cell? ⟨g, i, none⟩ = some (.slice (some ⟨gu, 0, none⟩) cc cu) := fun W hW => by
            have h8 := hput W hW
            have h9 := h8.2.2 (Go.bits .xor .i64 ((R.getD q 0 : Nat) : Int) ((Gf.gm y0 (T.getD q 0) : Nat) : Int))
            rw [upM_getD, HZI.out, hset, HL2.out] at h9
            exact ⟨⟨_, h8.1⟩, h8.2.1, h9, Env.cell_far (pw_cell_below hW hh) hne⟩
           have HPW := Aside0.mk hput2
           obtain ⟨K2, h2⟩ := (impl_mul_ev y0 (T.getD q 0) HYB.out htb).rounds
           have HK2 := Aside0.mk h2
           have hx0 : wr.drew.cell? ⟨gu, q, none⟩ = some (.int .i64 ((R.getD q 0 : Nat) : Int)) := hx
           have ht0 : wr.drew.cell? ⟨g, r, none⟩ = some (.slice (some ⟨gt, 0, none⟩) cc ct) := ht
           have htx0 : wr.drew.cell? ⟨gt, q, none⟩ = some (.int .i64 ((T.getD q 0 : Nat) : Int)) := htx
           have j1 : ((q : Int) < (cc : Int)) = True := eq_true (by omega)
           have j2 : (q < cc) = True := eq_true hqc
           generalize R.getD q 0 = y at hx0 HPW
           generalize T.getD q 0 = tq at htx0 HPW HK2
           clear hput hput2 hset hxr hyb htb h2 hh hx ht htx hne HQ hqR hrl2 hRT HHK HSQ
           go_wp2_with fail
           refine start_ (n := 16) (S := fun w' => w'.cell? ⟨gu, q, none⟩ = some (.int .i64 (y : Int)) ∧ w'.cell? ⟨g, r, none⟩ = some (.slice (some ⟨gt, 0, none⟩) cc ct) ∧ w'.cell? ⟨gt, q, none⟩ = some (.int .i64 (tq : Int))) (ds := [15]) #[false, false, false, false, false, false, false, false, false, false, false, false, false, false, false, false] (by kernel_rfl) rfl rfl (⟨hx0, ht0, htx0⟩) (fun hHeld => ?_); refine with_tabW tab_so22 bits_so22 (fun HT_ HW_ => ?_)
           generalize wr.drew = w5 at HPW hx0 ht0 htx0 hHeld ⊢
           refine pure_ (i := 0) (N := some 94) (v := ?_) (a' := ?_) #[true, false, false, false, false, false, false, false, false, false, false, false, false, false, false, false] rfl rfl (any_of HT_.out (by kernel_rfl)) (fun _ _ _ h => h) (Or.inl ⟨by rfl, ?_⟩) ?_ ?_
           rotate_left; (intro w'; go_simp; with_reducible rfl); rotate_left; (simp only [Act.put, List.setIfInBounds_toArray, List.set_cons_zero, List.set_cons_succ, i64_w, i32_w]; rfl)
           refine pure_ (i := 1) (N := some 95) (v := ?_) (a' := ?_) #[true, true, false, false, false, false, false, false, false, false, false, false, false, false, false, false] rfl rfl (any_of HT_.out (by kernel_rfl)) (fun _ _ _ h => h) (Or.inl ⟨by rfl, ?_⟩) ?_ ?_
           rotate_left; (intro w'; go_simp; with_reducible rfl); rotate_left; (simp only [Act.put, List.setIfInBounds_toArray, List.set_cons_zero, List.set_cons_succ, i64_w, i32_w]; rfl)
           refine pure_ (i := 2) (N := some 96) (v := ?_) (a' := ?_) #[true, true, true, false, false, false, false, false, false, false, false, false, false, false, false, false] rfl rfl (any_of HT_.out (by kernel_rfl)) (fun _ _ _ h => h) (Or.inl ⟨by rfl, ?_⟩) ?_ ?_
           rotate_left; (intro w'; go_simp; with_reducible rfl); rotate_left; (simp only [Act.put, List.setIfInBounds_toArray, List.set_cons_zero, List.set_cons_succ, i64_w, i32_w]; rfl)
           refine pure_ (i := 4) (N := some 98) (v := ?_) (a' := ?_) #[true, true, true, false, true, false, false, false, false, false, false, false, false, false, false, false] rfl rfl (any_of HT_.out (by kernel_rfl)) (fun _ _ _ h => h) (Or.inl ⟨by rfl, ?_⟩) ?_ ?_
           rotate_left; (intro w'; go_simp; with_reducible rfl); rotate_left; (simp only [Act.put, List.setIfInBounds_toArray, List.set_cons_zero, List.set_cons_succ, i64_w, i32_w]; rfl)
           refine pure_ (i := 5) (N := some 99) (v := ?_) (a' := ?_) #[true, true, true, false, true, true, false, false, false, false, false, false, false, false, false, false] rfl rfl (any_of HT_.out (by kernel_rfl)) (fun _ _ _ h => h) (Or.inl ⟨by rfl, ?_⟩) ?_ ?_
           rotate_left; (intro w'; go_simp; with_reducible rfl); rotate_left; (simp only [Act.put, List.setIfInBounds_toArray, List.set_cons_zero, List.set_cons_succ, i64_w, i32_w]; rfl)
           refine pure_ (i := 6) (N := some 100) (v := ?_) (a' := ?_) #[true, true, true, false, true, true, true, false, false, false, false, false, false, false, false, false] rfl rfl (any_of HT_.out (by kernel_rfl)) (fun _ _ _ h => h) (Or.inl ⟨by rfl, ?_⟩) ?_ ?_
           rotate_left; (intro w'; go_simp; with_reducible rfl); rotate_left; (simp only [Act.put, List.setIfInBounds_toArray, List.set_cons_zero, List.set_cons_succ, i64_w, i32_w]; rfl)
           refine pure_ (i := 7) (N := some 101) (v := ?_) (a' := ?_) #[true, true, true, false, true, true, true, true, false, false, false, false, false, false, false, false] rfl rfl (any_of HT_.out (by kernel_rfl)) (fun _ _ _ h => h) (Or.inl ⟨by rfl, ?_⟩) ?_ ?_
           rotate_left; (intro w'; go_simp; with_reducible rfl); rotate_left; (simp only [Act.put, List.setIfInBounds_toArray, List.set_cons_zero, List.set_cons_succ, i64_w, i32_w]; rfl)
           refine pure_ (i := 9) (N := some 103) (v := ?_) (a' := ?_) #[true, true, true, false, true, true, true, true, false, true, false, false, false, false, false, false] rfl rfl (any_of HT_.out (by kernel_rfl)) (fun _ _ _ h => h) (Or.inl ⟨by rfl, ?_⟩) ?_ ?_
           rotate_left; (intro w'; go_simp; with_reducible rfl); rotate_left; (simp only [Act.put, List.setIfInBounds_toArray, List.set_cons_zero, List.set_cons_succ, i64_w, i32_w]; rfl)
           refine take_ (i := 3) (N := some 97) (v := ?_) (a' := ?_) #[true, true, true, true, true, true, true, true, false, true, false, false, false, false, false, false] rfl rfl (take_ofW HT_.out HW_.out (by kernel_rfl)) (fun _ _ _ h => h) (Or.inl ⟨by rfl, ?_⟩) hHeld ?_ ?_
           rotate_left
           ·rintro w' ⟨s0, s1, s2⟩
            go_simp
            with_reducible rfl
           rotate_left
           ·simp only [Act.put, List.setIfInBounds_toArray, List.set_cons_zero, List.set_cons_succ, i64_w, i32_w]
            rfl
           refine take_ (i := 8) (N := some 102) (v := ?_) (a' := ?_) #[true, true, true, true, true, true, true, true, true, true, false, false, false, false, false, false] rfl rfl (take_ofW HT_.out HW_.out (by kernel_rfl)) (fun _ _ _ h => h) (Or.inl ⟨by rfl, ?_⟩) hHeld ?_ ?_
           rotate_left
           ·rintro w' ⟨s0, s1, s2⟩
            go_simp
            with_reducible rfl
           rotate_left
           ·simp only [Act.put, List.setIfInBounds_toArray, List.set_cons_zero, List.set_cons_succ, i64_w, i32_w]
            rfl
           refine pure_ (i := 10) (N := some 104) (v := ?_) (a' := ?_) #[true, true, true, true, true, true, true, true, true, true, true, false, false, false, false, false] rfl rfl (any_of HT_.out (by kernel_rfl)) (fun _ _ _ h => h) (Or.inl ⟨by rfl, ?_⟩) ?_ ?_
           rotate_left; (intro w'; go_simp; with_reducible rfl); rotate_left; (simp only [Act.put, List.setIfInBounds_toArray, List.set_cons_zero, List.set_cons_succ, i64_w, i32_w]; rfl)
           refine take_ (i := 11) (N := some 105) (v := ?_) (a' := ?_) #[true, true, true, true, true, true, true, true, true, true, true, true, false, false, false, false] rfl rfl (take_ofW HT_.out HW_.out (by kernel_rfl)) (fun _ _ _ h => h) (Or.inl ⟨by rfl, ?_⟩) hHeld ?_ ?_
           rotate_left
           ·rintro w' ⟨s0, s1, s2⟩
            go_simp
            with_reducible rfl
           rotate_left
           ·simp only [Act.put, List.setIfInBounds_toArray, List.set_cons_zero, List.set_cons_succ, i64_w, i32_w]
            rfl
           refine one_ (i := 12) (N := some 106) #[true, true, true, true, true, true, true, true, true, true, true, true, true, false, false, false] rfl rfl (one_of HT_.out (by kernel_rfl)) (by decide) (fun K hK => ?_)
           refine goes_ Try.func128 (by kernel_rfl) rfl #[.int .i64 (y0 : Int), .int .i64 (tq : Int)] (by rfl) rfl rfl (by (try simp only [List.map_toArray, List.map_cons, List.map_nil]); first | done | rfl | (simp only [List.length_drop, List.length_take]; rfl)) ?_
           refine (impl_mul.calls K2 (y0 : Int) (tq : Int) _ _ HK2.out).mono ?_
           rintro e w4 ⟨rfl, hd4⟩
           refine ⟨_, rfl, ?_⟩
           obtain ⟨⟨v4, hv4⟩, hf4, hE4, hC4⟩ := HPW.out w4 hd4.below
           have HE4 := Aside0.mk hE4
           have HC4 := Aside0.mk hC4
           have hS4 := And.intro (pw_cell_below hd4.below hx0) (And.intro (pw_cell_below hd4.below ht0) (pw_cell_below hd4.below htx0))
           clear hE4 hC4 hd4 HPW HK2 hx0 ht0 htx0
           refine hK.out _ _ hS4 (fun hHeld => ?_)
           clear hK K hS4
           refine norm_ (a' := ?_) ?_ ?_
           rotate_left
           ·show Act.put _ (some 106) _ = _
            simp only [Act.put, List.setIfInBounds_toArray, List.set_cons_zero, List.set_cons_succ, i64_w, i32_w]
            rfl
           refine pure_ (i := 13) (N := some 107) (v := ?_) (a' := ?_) #[true, true, true, true, true, true, true, true, true, true, true, true, true, true, false, false] rfl rfl (any_of HT_.out (by kernel_rfl)) (fun _ _ _ h => h) (Or.inl ⟨by rfl, ?_⟩) ?_ ?_
           rotate_left; (intro w'; go_simp; with_reducible rfl); rotate_left; (simp only [Act.put, List.setIfInBounds_toArray, List.set_cons_zero, List.set_cons_succ, i64_w, i32_w]; rfl)
           refine pure_ (i := 14) (N := some 108) (v := ?_) (a' := ?_) #[true, true, true, true, true, true, true, true, true, true, true, true, true, true, true, false] rfl rfl (any_of HT_.out (by kernel_rfl)) (fun _ _ _ h => h) (Or.inl ⟨by rfl, ?_⟩) ?_ ?_
           rotate_left; (intro w'; go_simp; with_reducible rfl); rotate_left; (simp only [Act.put, List.setIfInBounds_toArray, List.set_cons_zero, List.set_cons_succ, i64_w, i32_w]; rfl)
           refine last_ (i := 15) (N := none) #[true, true, true, true, true, true, true, true, true, true, true, true, true, true, true, true] rfl rfl (one_of HT_.out (by kernel_rfl)) (by decide) (fun K hK => ?_)
           refine skip_ (w1 := ?_) (by rfl) rfl ?_ ?_
           rotate_left
           ·go_simp
            rfl
           refine hK.out _ _ ?_
           clear hK K
           refine done_ (done_of HT_.out (by kernel_rfl)) ?_
           go_wp2
           go_roundg (cc - (q + 1))
           case measure => omega
           case rel => exact ⟨q + 1, by omega, by omega, by go_num, HE4, HC4⟩
          ·have j1 : ((q : Int) < (cc : Int)) = False := eq_false (by omega)
           have hqe : q = R.length := by rw [HRB.out.1]; omega
           have HE6 := Aside0.mk (show Env.Env 23 3 w0 wr (LX (Mat.erT T r C (M1.set r T) (i + 1))) from by
            have h9 := HSQ.out
            rw [hqe, Mat.raddTo_all hRT, HST.out] at h9
            exact h9)
           clear hqe hRT HSQ HHK
           go_wp2
           go_roundg (n - (i + 1))
           case measure => omega
           case rel => exact ⟨i + 1, by omega, by omega, by go_num, HE6⟩
       ·have hie : i = n := by omega
        have hest : Mat.erT T r C (M1.set r T) i = Mat.est M r (r + p) k := by
         rw [hie, ← HNL.out, Mat.erT_all HCL.out]
         unfold Mat.est
         rw [← HM1.out]
         unfold Mat.top
         rw [← HER.out, ← HXE.out, ← HFE.out, ← HTE.out, ← HCE.out]
        have hE7 := HL4.out _ _ HSI.out
        rw [hest] at hE7
        have HE7 := Aside0.mk hE7
        have hsvr := HMM.out.2.2.2
        rw [show d - k = (d - (k + 1)) + 1 by omega] at hsvr
        conv at hsvr => lhs; unfold Mat.sv
        rw [HPV.out] at hsvr
        dsimp only at hsvr
        rw [HMM.out.1] at hsvr
        have p1 : ((i : Int) < (n : Int)) = False := eq_false (by omega)
        have HPN := Aside0.mk (show r + p < n from by have := HPS.out; omega)
        clear hE7 hest HSI
        by_cases hr1 : r + 1 = n
        ·rw [if_pos hr1] at hsvr
         have HSV := Aside0.mk hsvr
         have e1 : ((r : Int) + 1 == (n : Int)) = true := by simp; omega
         have e2 : (((r + 1 : Nat) : Int) == (n : Int)) = true := by simp; omega
         clear hsvr
         go_wp2
         go_ret
         rw [← HSV.out]
         exact ⟨by go_num, HE7.out⟩
        ·rw [if_neg hr1] at hsvr
         have HSV := Aside0.mk hsvr
         have e1 : ((r : Int) + 1 == (n : Int)) = false := by simp; omega
         have e2 : (((r + 1 : Nat) : Int) == (n : Int)) = false := by simp; omega
         clear hsvr
         go_wp2
         go_roundg (d - (k + 1))
         case measure => omega
         case rel => exact ⟨k + 1, r + 1, Mat.est M r (r + p) k, by omega, by omega, by go_num, by go_num, by omega, ⟨by rw [Mat.est_length]; exact HMM.out.1, Mat.est_MB HMM.out.2.1 k (by rw [HMM.out.1]; exact hrn) (by rw [HMM.out.1]; exact HPN.out), by have := HMM.out.2.2.1; omega, HSV.out⟩, HE7⟩
  ·obtain rfl : k = d := by omega
   have hs := HMM.out.2.2.2
   rw [Nat.sub_self] at hs
   have HS := Aside0.mk (show Mat.sv k 0 0 m = (M, r) from hs.symm)
   have p1 : decide ((k : Int) < (k : Int)) = false := decide_eq_false (by omega)
   clear hs
   go_wp2
   go_ret
   rw [HS.out]
   exact ⟨rfl, ENV.out⟩

/-- A row made since is put behind a list of rows: 'out = append(out, row)'. -/
theorem app_event {ops : Array Oper} {rest : List Oper} {o : Oper} {a : Act} {Q : Exit → Act → World → Prop} {w0 wr W : World} (base : Nat) (hgd : o.guard = none) (s x : Operand)
  (ho : o.op = .call { callee := .builtin .append, args := #[s, x], argTypes := #[22, 22] }) (v : Value) (m : List (List Int)) (Au : Option Addr) (cu : Nat) (row : List Int) (hs : a.eval s = v) (hx : a.eval x = .slice (some ⟨W.heap.size, 0, none⟩) 1 1)
  (hS : (Kd.slice 3 (Kd.int .i64)).S 23 wr base (fun _ => True) v m) (hb : Below wr.heap.size wr W) (hR : (Kd.int .i64).R 3 W wr.heap.size (fun _ => True) (.slice Au row.length cu) row) (HB : Below base w0 W) (hbase : base ≤ wr.heap.size) (hl : m.length ≤ 1000000)
  (h : ∀ A1 c1 w1, (Kd.slice 3 (Kd.int .i64)).S 23 w1 base (fun _ => True) (.slice A1 (m.length + 1) c1) (m ++ [row]) → Below base w0 w1 → Aside0 (∀ (g tq : Nat) (cs : Array Value), tq ≠ 23 → wr.heap[g]? = some (.cells cs tq (0, 0)) → w1.heap[g]? = some (.cells cs tq (0, 0))) → wpList Try.prog ops Q rest (a.put o.dst (.slice A1 (m.length + 1) c1)) w1) :
  wpList Try.prog ops Q (o :: rest) a (W.alloc (.cells #[.slice Au row.length cu] 23)) := by
 have hlt := Kd.S_lt hS
 have hty := Kd.S_typed hS
 have hnew : ∀ k, some k = (Value.slice Au row.length cu).ownBlock → wr.heap.size ≤ k := fun k hk => Kd.R_base hR k hk.symm
 refine Kd.S_append (Kd.slice 3 (Kd.int .i64)) (w0 := w0) base hgd s x 22 23 (.slice none 0 0) 24 ho Try.underlying22 infoR rfl (by decide) (by omega) v m row [.slice Au row.length cu] (fun _ => True) (fun k => some k = (Value.slice Au row.length cu).ownBlock) hs hx
  (Kd.M_row (Kd.R_mono (Kd.R_tight rfl (Kd.R_lower hR hbase)) (fun _ h_ => h_))) (fun k hk => ⟨trivial, fun he => by have h1 := hnew k hk; have h2 := hlt k he.symm; omega⟩) (fun _ _ => trivial)
  (Kd.S_mono (Kd.S_old hS hb) (fun k hk => ⟨trivial, fun he => by have h1 := hnew k he; have h2 := hk.2; omega⟩)) HB (Nat.le_trans hbase hb.size) (by omega) ?_
 intro v1 w1 h1 h2 h3 _
 obtain ⟨A1, c1, rfl⟩ := Kd.S_slice h1
 rw [show (m ++ [row]).length = m.length + 1 by simp] at h1 ⊢
 exact h A1 c1 w1 h1 h2 ⟨fun g tq cs hne hg => blk_grown (blk_below hg hb) h3 (fun he => by
  obtain ⟨cells, hc⟩ := hty g he.symm
  rw [hc] at hg
  injection hg with hg
  injection hg with _ hg
  exact hne hg.symm)⟩
theorem S_empty {e : TypeId} {w : World} {base : Nat} {ok : Nat → Prop} {v : Value} (h : (Kd.slice 3 (Kd.int .i64)).R e w base ok v []) : (Kd.slice 3 (Kd.int .i64)).S e w base ok v [] := by
 obtain ⟨h0, inner, ho, hr⟩ := h
 exact ⟨fun _ => 0, h0, inner, ho, hr.1, fun j p hj => by simp at hj⟩

set_option maxHeartbeats 8000000 in
set_option maxRecDepth 100000 in
theorem inverted_e (A0 : Option Addr) (c0 n : Nat) (m : List (List Nat)) (w : World) (hm : Mat.MB' n m) (hmn : m.length = n) (h1 : 1 ≤ n) (h8 : n ≤ 8) (hr0 : Kd.C (Kd.slice 3 (Kd.int .i64)) w A0 (upM m).length (upM m)) (hc0 : (upM m).length ≤ c0) :
  Calls Try.prog 92 #[.slice A0 n c0] w fun e w' => ∃ v0_ : Value, e = .returned (.tuple #[v0_, .bool (invW m).2]) ∧ Kd.S (Kd.slice 3 (Kd.int .i64)) 23 w' w.heap.size (fun _ => True) v0_ (invW m).1 ∧ Below w.heap.size w w' := by
 have HM := Aside0.mk (show Mat.MB' n m ∧ m.length = n ∧ 1 ≤ n ∧ n ≤ 8 from ⟨hm, hmn, h1, h8⟩)
 have hul : (upM m).length = n := by rw [upM_length, hmn]
 have hil : (upM (Mat.idM n)).length = n := by rw [upM_length, Mat.idM_length]
 have hrow : ∀ i, (m.getD i []).length ≤ 1000 := fun i => by
  by_cases hi : i < m.length
  ·rw [(hm.get hi).1]; omega
  ·rw [List.getD_eq_getElem?_getD, List.getElem?_eq_none (by omega)]; simp
 have hrow2 : ∀ i, ((Mat.idM n).getD i []).length ≤ 1000 := fun i => by
  by_cases hi : i < (Mat.idM n).length
  ·rw [((Mat.idM_MB n).get hi).1]; omega
  ·rw [List.getD_eq_getElem?_getD, List.getElem?_eq_none (by omega)]; simp
 obtain ⟨K2, hk2⟩ := (impl_identity_ev n (by omega)).rounds
 obtain ⟨K3, hk3⟩ := (impl_beside_ev m (Mat.idM n) (by rw [hmn, Mat.idM_length]) (by omega) hrow hrow2).rounds
 rw [idL_up] at hk2
 have H2 := Aside0.mk hk2
 have H3 := Aside0.mk hk3
 have HR := Aside0.mk hr0
 have HC := Aside0.mk hc0
 have HUL := Aside0.mk (show (upM m).length = n ∧ (upM (Mat.idM n)).length = n from ⟨hul, hil⟩)
 have n0 : (0 : Int) ≤ (n : Int) := by omega
 have n1 : (n : Int) ≤ 8 := by omega
 clear hk2 hk3 hr0 hc0 hm hmn h1 h8 hul hil hrow hrow2
 go_enter Try.func92, Try.ntmps92
 go_wp2_with fail
 refine (impl_identity.calls K2 (n : Int) (upM (Mat.idM n)) w H2.out).mono ?_
 rintro e w1 ⟨v1, rfl, hS_, hb_⟩
 obtain ⟨B1, d1, rfl, hE_⟩ := (Env.Env.start (e := 23) (t := 3) w).madeS (by decide) hS_ hb_
 have hbes := impl_beside.calls K3 A0 c0 (upM m) B1 d1 (upM (Mat.idM n)) (upM (Mat.bes m (Mat.idM n))) w1 (hE_.came HR.out) HC.out (hE_.C (by decide) 0 rfl) (hE_.cap (by decide) 0 rfl) H3.out
 rw [HUL.out.1, HUL.out.2] at hbes
 rw [HUL.out.2] at hE_ ⊢
 have HBES := Aside0.mk hbes
 have ENV := Aside0.mk hE_
 clear hE_ hS_ hb_ hbes H3 H2
 go_wp2_with fail
 refine HBES.out.mono ?_
 rintro e w2 ⟨v2, rfl, hS_, hb_⟩
 obtain ⟨B2, d2, rfl, hE_⟩ := ENV.out.madeS (by decide) hS_ hb_
 have hPl : (Mat.bes m (Mat.idM n)).length = n := by rw [Mat.bes_length (by rw [HM.out.2.1, Mat.idM_length]), HM.out.2.1]
 obtain ⟨g, _, _, hB, _⟩ := hE_.mrow (by decide) (j := 0) rfl (i := 0) (by rw [upM_length, hPl]; have := HM.out.2.2.1; omega)
 subst hB
 rw [upM_length, hPl] at hE_ ⊢
 have hsv := solved_e hE_ 0 (m := Mat.bes m (Mat.idM n)) (c := d2) (A := some ⟨g, 0, none⟩) (by rw [hPl]; rfl) (cc := n + n) (Mat.bes_MB HM.out.1 (Mat.idM_MB n)) n (by omega) (by have := HM.out; omega) (by rw [hPl]; have := HM.out; omega) (by rw [hPl]; have := HM.out; omega)
 rw [hPl, Mat.bes_sv n 0 0 HM.out.1 (by rw [HM.out.2.1, Mat.idM_length]) (by omega)] at hsv
 have HSV := Aside0.mk hsv
 clear hE_ hS_ hb_ HBES hsv ENV hPl
 go_wp2_with fail
 refine HSV.out.mono ?_
 rintro e w3 ⟨rfl, hE3⟩
 obtain ⟨rk, hrk⟩ : ∃ rk, rk = (Mat.sv n 0 0 m).2 := ⟨_, rfl⟩
 obtain ⟨P, hP⟩ : ∃ P, P = (Mat.sv n 0 0 m).1 := ⟨_, rfl⟩
 obtain ⟨t, ht⟩ : ∃ t, t = Mat.sv2 n 0 0 m (Mat.idM n) := ⟨_, rfl⟩
 have HIV := Aside0.mk (show invW m = match (if rk < n then none else some t) with | none => ([], false) | some s => (upM s, true) from by
  unfold invW Mat.inv Mat.rank
  rw [HM.out.2.1, ← hrk, ← ht] <;> rfl)
 have HPT := Aside0.mk (show (Mat.MB' n P ∧ P.length = n) ∧ (Mat.MB' n t ∧ t.length = n) from by
  rw [hP, ht]
  exact ⟨⟨Mat.sv_MB _ _ _ HM.out.1, by rw [Mat.sv_length]; exact HM.out.2.1⟩, Mat.sv2_MB _ _ _ HM.out.1 (Mat.idM_MB n) (by rw [Mat.idM_length, HM.out.2.1]), by rw [Mat.sv2_length _ _ _ (by rw [Mat.idM_length, HM.out.2.1]), HM.out.2.1]⟩)
 try dsimp only at hE3
 try dsimp only
 rw [← hP, ← ht] at hE3
 rw [← hrk]
 replace hE3 : Env.Env 23 3 w w3 [(.slice (some ⟨g, 0, none⟩) n d2, .mat (upM (Mat.bes P t))), (.slice B1 n d1, .mat (upM (Mat.idM n)))] := hE3
 have ENV := Aside0.mk hE3
 clear hE3 HSV hrk hP ht
 by_cases hk : rk < n
 ·have p1 : ((rk : Int) < (n : Int)) = True := eq_true (by omega)
  have p2 : (rk < n) = True := eq_true hk
  have HI := HIV.out
  rw [if_pos hk] at HI
  replace HI := Aside0.mk (show invW m = ([], false) from HI)
  have HBE := Aside0.mk ENV.out.1
  clear hk
  go_wp2
  go_ret2
  rw [HI.out]
  exact ⟨_, rfl, Kd.S_nil _ _ _ _ _, HBE.out⟩
 ·have p1 : ((rk : Int) < (n : Int)) = False := eq_false (by omega)
  have p2 : (rk < n) = False := eq_false hk
  have HI := HIV.out
  rw [if_neg hk] at HI
  replace HI := Aside0.mk (show invW m = (upM t, true) from HI)
  clear hk
  go_wp2_with ((with_reducible refine gate_dst (N := 20) rfl ?_); refine Kd.R_lit (Kd.slice 3 (Kd.int .i64)) _ 23 ?hg (N := 20) ?hd (xs := ([] : List (List Int))) (inner := []) (ok := fun _ => True) (okp := fun _ => True) ?hr ?hp (fun _ hk => hk) trivial (Below.refl _ _) (Nat.le_refl _) (by simp) ?_; (case hd => rfl); (case hg => rfl); (case hr => first | (go_simp; done) | (go_simp; rfl)); (case hp => exact (Reps.none _ _)); intro v20 w20 ho20 hb20 _ _; have HBL0 := Aside0.mk hb20; have HSL0 := Aside0.mk (S_empty ho20); clear ho20 hb20)
  go_loopg [5, 23] n (fun gg v5 v23 wr => ∃ i : Nat, i ≤ n ∧ n - i ≤ gg ∧ v23 = .int .i64 i ∧ Aside0 ((Kd.slice 3 (Kd.int .i64)).S 23 wr w3.heap.size (fun _ => True) v5 (upM (t.take i))) ∧ Aside0 (Below w3.heap.size w3 wr))
  case atStart => exact ⟨0, Nat.zero_le _, by omega, rfl, HSL0, HBL0⟩
  case round =>
   clear HBL0 HSL0
   obtain ⟨i, hi', hgi, rfl, HS, HB⟩ := hrel
   have z0 : (0 : Int) ≤ (i : Int) := by omega
   have z1 : (i : Int) ≤ 100 := by omega
   by_cases hlt : i < n
   ·have p3 : ((i : Int) < (n : Int)) = True := eq_true (by omega)
    have p4 : (i < n) = True := eq_true hlt
    have hE := ENV.out.below HB.out
    have hbl : (Mat.bes P t).length = n := by rw [Mat.bes_length (by rw [HPT.out.1.2, HPT.out.2.2]), HPT.out.1.2]
    have hbi : (Mat.bes P t).getD i [] = P.getD i [] ++ t.getD i [] := Mat.bes_at (by rw [HPT.out.1.2, HPT.out.2.2]) i
    have hpr := HPT.out.1.1.get (i := i) (by rw [HPT.out.1.2]; exact hlt)
    have htr := HPT.out.2.1.get (i := i) (by rw [HPT.out.2.2]; exact hlt)
    have hrl : (Poly.up ((Mat.bes P t).getD i [])).length = n + n := by rw [Poly.up_length, hbi, List.length_append, hpr.1, htr.1]
    have hdr : (Poly.up ((Mat.bes P t).getD i [])).drop n = Poly.up (t.getD i []) := by
     unfold Poly.up
     rw [hbi, List.map_append, List.drop_left' (by rw [List.length_map]; exact hpr.1)]
    obtain ⟨g', gu, cu, hA', hh, hcu, _, _, _⟩ := hE.mput2 (by decide) (j := 0) rfl (i := i) (q := 0) (by rw [upM_length, hbl]; exact hlt) (by rw [upM_getD, hrl]; omega)
    injection hA' with hA'
    injection hA' with hA'
    subst hA'
    obtain ⟨g', Au, cu', hA', hh2, _, _, _, hRu, _, _⟩ := hE.mrow (by decide) (j := 0) rfl (i := i) (by rw [upM_length, hbl]; exact hlt)
    injection hA' with hA'
    injection hA' with hA'
    subst hA'
    rw [upM_getD, hrl] at hh hcu hh2 hRu
    have hk2 := hh2.symm.trans hh
    injection hk2 with hk2
    injection hk2 with hk3 _ hk4
    subst hk3 hk4
    have hC := (Kd.R_reads' hRu).2.2
    have hCd := Kd.C_drop (m := n) hC (by rw [hrl]; omega) (show (Poly.up ((Mat.bes P t).getD i [])).length ≤ cu' from by rw [hrl]; exact hcu)
    have hcn : ¬ cu' = n := by omega
    rw [if_neg hcn, hdr] at hCd
    have eA : (some (⟨gu, 0, none⟩ : Addr)).map (·.add (n * (Kd.int .i64).sz)) = some ⟨gu, n, none⟩ := by
     show some ((⟨gu, 0, none⟩ : Addr).add (n * 1)) = _
     rw [Nat.mul_one, add_plain]
    rw [eA] at hCd
    obtain ⟨i0, hi0, _, hsz, _⟩ := info_parts infoJ
    have hcut := cut_from (P := Try.prog) 23 3 .i64 Try.underlying23 hi0 1 hsz (some ⟨gu, 0, none⟩) (n + n) cu' (n : Int) n0 (by omega)
    have htl : (Poly.up (t.getD i [])).length = n := by rw [Poly.up_length]; exact htr.1
    have hcl := slices_Clone_int_int.calls (some ⟨gu, n, none⟩) (cu' - n) (Poly.up (t.getD i [])) (Poly.up (t.getD i [])) wr hCd (by rw [htl]; omega) (by unfold slices_Clone_int_int.f; rw [if_pos (by rw [htl]; omega)])
    rw [htl] at hcl
    have HSL := Aside0.mk (show (upM (t.take i)).length ≤ 1000000 by rw [upM_length, List.length_take]; omega)
    have HTS := Aside0.mk (show upM (t.take i) ++ [Poly.up (t.getD i [])] = upM (t.take (i + 1)) from by
     have hi9 : i < t.length := by rw [HPT.out.2.2]; exact hlt
     rw [List.take_succ_eq_append_getElem hi9, ← upM_snoc, List.getD_eq_getElem?_getD, List.getElem?_eq_getElem hi9]; rfl)
    have HTL := Aside0.mk htl
    have q1 : (cu' = n) = False := eq_false hcn
    have q2 : n + n - n = n := by omega
    generalize t.getD i [] = row at hcl HTS HTL
    clear hi0 hsz eA hCd hcn hC hRu hh2 hdr hrl htr hpr hbi hbl hE htl
    go_wp2_with fail
    refine hcl.mono ?_
    rintro e w4 ⟨v1, rfl, hR1, hb1⟩
    obtain ⟨A9, c9, rfl⟩ := Kd.R_slice hR1
    have HB1 := Aside0.mk hb1
    have HR3 := Aside0.mk hR1
    clear hb1 hR1 hcl hcut
    go_wp2_with ((with_reducible refine gate_builtin (b := .append) (xs := #[.tmp 27, .tmp 33]) rfl ?_); at_builtin; refine app_event (w0 := w3) w3.heap.size rfl (.tmp 27) (.tmp 33) rfl _ (upM (t.take i)) A9 c9 (Poly.up row) rfl rfl HS.out HB1.out HR3.out ?aB ?aS HSL.out ?_; (case aB => exact below_step HB.out HB1.out); (case aS => exact HB.out.size); intro A10 c10 w2 hS2 hB2 HK2; rw [HTS.out] at hS2; have HS2 := Aside0.mk hS2; have HB2 := Aside0.mk hB2; clear hS2 hB2)
    go_roundg (n - (i + 1))
    case measure => omega
    case rel => exact ⟨i + 1, by omega, by omega, by go_num, HS2, HB2⟩
   ·have p3 : ((i : Int) < (n : Int)) = False := eq_false (by omega)
    have p4 : (i < n) = False := eq_false hlt
    have hS := HS.out
    rw [show t.take i = t from by rw [List.take_of_length_le (by rw [HPT.out.2.2]; omega)]] at hS
    have HS' := Aside0.mk (Kd.S_lower hS ENV.out.1.size)
    have HBE := Aside0.mk (below_step ENV.out.1 HB.out)
    clear hS
    go_wp2
    go_ret2
    rw [HI.out]
    exact ⟨_, rfl, HS'.out, HBE.out⟩

def solW (m : List (List Nat)) (y : List Nat) : List Int × Bool := match Mat.inv m with
 | none => ([], false)
 | some s => (Poly.up (Mat.colM s y), true)
set_option maxHeartbeats 8000000 in
set_option maxRecDepth 100000 in
theorem solve_e (A0 : Option Addr) (c0 n : Nat) (m : List (List Nat)) (w : World) (hm : Mat.MB' n m) (hmn : m.length = n) (h1 : 1 ≤ n) (h8 : n ≤ 8) (hr0 : Kd.C (Kd.slice 3 (Kd.int .i64)) w A0 (upM m).length (upM m)) (hc0 : (upM m).length ≤ c0)
  (A1 : Option Addr) (c1 : Nat) (y : List Nat) (hy : Poly.AllB y) (hyl : y.length = n) (hr1 : (Kd.int .i64).C w A1 (Poly.up y).length (Poly.up y)) :
  Calls Try.prog 89 #[.slice A0 n c0, .slice A1 n c1] w fun e w' => ∃ v0_ : Value, e = .returned (.tuple #[v0_, .bool (solW m y).2]) ∧ (Kd.int .i64).R 3 w' w.heap.size (fun _ => True) v0_ (solW m y).1 ∧ Below w.heap.size w w' := by
 have HINV := Aside0.mk (inverted_e A0 c0 n m w hm hmn h1 h8 hr0 hc0)
 have HM := Aside0.mk (show Mat.MB' n m ∧ m.length = n ∧ 1 ≤ n ∧ n ≤ 8 from ⟨hm, hmn, h1, h8⟩)
 have HY := Aside0.mk (show Poly.AllB y ∧ y.length = n from ⟨hy, hyl⟩)
 have HV := Aside0.mk hr1
 have n0 : (0 : Int) ≤ (n : Int) := by omega
 have n1 : (n : Int) ≤ 8 := by omega
 clear hm hmn h1 h8 hr0 hc0 hy hyl hr1
 go_enter Try.func89, Try.ntmps89
 go_wp2_with fail
 refine HINV.out.mono ?_
 rintro e w3 ⟨v3, rfl, hS, hb⟩
 have HB3 := Aside0.mk hb
 cases hi : Mat.inv m with
 | none =>
  have HW := Aside0.mk (show solW m y = ([], false) from by unfold solW; rw [hi])
  have hw : invW m = ([], false) := by unfold invW; rw [hi]
  rw [hw]
  clear hi hw hS hb HINV
  go_wp2
  go_ret2
  rw [HW.out]
  exact ⟨_, rfl, Kd.R_nil _ _ _ _ _, HB3.out⟩
 | some s =>
  have HW := Aside0.mk (show solW m y = (Poly.up (Mat.colM s y), true) from by unfold solW; rw [hi])
  have HS := Aside0.mk (inv_MB HM.out.1 HM.out.2.1 hi)
  have hw : invW m = (upM s, true) := by unfold invW; rw [hi]
  rw [hw] at hS ⊢
  obtain ⟨B1, d1, rfl, hE⟩ := (Env.Env.start (e := 23) (t := 3) w).madeS (by decide) hS hb
  have HC3 := Aside0.mk (hE.C (by decide) 0 rfl)
  have HV3 := Aside0.mk (hE.camer HV.out)
  have HSL := Aside0.mk (show (upM s).length = n from by rw [upM_length]; exact HS.out.2)
  clear hi hw hS hb HINV hE
  go_wp2_with ((with_reducible refine gate_dst (N := 21) rfl ?_); refine Kd.R_lit (Kd.int .i64) _ 3 ?hg (N := 21) ?hd (xs := ([] : List Int)) (inner := []) (ok := fun _ => True) (okp := fun _ => True) ?hr ?hp (fun _ hk => hk) trivial (Below.refl _ _) (Nat.le_refl _) (by simp) ?_; (case hd => rfl); (case hg => rfl); (case hr => first | (go_simp; done) | (go_simp; rfl)); (case hp => exact (Reps.none _ _)); intro v20 w20 ho20 hb20 _ _; have HBL0 := Aside0.mk hb20; have HSL0 := Aside0.mk ho20; clear ho20 hb20)
  go_loopg [8, 24] n (fun gg v8 v24 wr => ∃ i : Nat, i ≤ n ∧ n - i ≤ gg ∧ v24 = .int .i64 i ∧ Aside0 ((Kd.int .i64).R 3 wr w3.heap.size (fun _ => True) v8 (Poly.up (Mat.colM (s.take i) y))) ∧ Aside0 (Below w3.heap.size w3 wr))
  case atStart => exact ⟨0, Nat.zero_le _, by omega, rfl, HSL0, HBL0⟩
  case round =>
   clear HBL0 HSL0
   obtain ⟨i, hi', hgi, rfl, HRR, HB⟩ := hrel
   have z0 : (0 : Int) ≤ (i : Int) := by omega
   have z1 : (i : Int) ≤ 100 := by omega
   by_cases hlt : i < n
   ·have hil : i < (upM s).length := by rw [HSL.out]; exact hlt
    have p3 : ((i : Int) < ((upM s).length : Int)) = True := eq_true (by omega)
    have p4 : (i < (upM s).length) = True := eq_true hil
    obtain ⟨ad0, A2, c2, rfl, hx2, hl2, hr2⟩ := Mx.rows_at HC3.out i hil hil
    have hri := HS.out.1.get (i := i) (by rw [HS.out.2]; exact hlt)
    have erow : (upM s)[i] = Poly.up (s.getD i []) := by
     have h9 := upM_getD s i
     rw [List.getD_eq_getElem?_getD, List.getElem?_eq_getElem hil] at h9
     exact h9
    have hrl : (Poly.up (s.getD i [])).length = n := by rw [Poly.up_length]; exact hri.1
    rw [erow] at hx2 hl2 hr2
    rw [hrl] at hx2
    have hxb := pw_cell_below HB.out hx2
    have HTS := Aside0.mk (colM_snoc s y (i := i) (by rw [HS.out.2]; exact hlt))
    obtain ⟨R, hR⟩ : ∃ R, R = s.getD i [] := ⟨_, rfl⟩
    rw [← hR] at hri hr2 HTS hrl
    have HRB := Aside0.mk hri
    have HRC := Aside0.mk hr2
    have HRL := Aside0.mk hrl
    clear hx2 hr2 hri erow hil hl2 hR hrl
    go_wp2
    go_loopg [11, 30] n (fun gg v11 v30 wq => ∃ (j a : Nat), j ≤ n ∧ n - j ≤ gg ∧ Aside0 (a = Mat.dotL (R.take j) (y.take j)) ∧ v11 = .int .i64 a ∧ v30 = .int .i64 j ∧ Aside0 ((Kd.int .i64).R 3 wq w3.heap.size (fun _ => True) u8 (Poly.up (Mat.colM (s.take i) y))) ∧ Aside0 (Below w3.heap.size w3 wq))
    case atStart => exact ⟨0, 0, Nat.zero_le _, by omega, ⟨by simp [Mat.dotL]⟩, rfl, rfl, HRR, HB⟩
    case round =>
     clear HRR HB hxb
     obtain ⟨j, a, hj', hgj, HA, rfl, rfl, HRR, HB⟩ := hrel
     have y0 : (0 : Int) ≤ (j : Int) := by omega
     have y1 : (j : Int) ≤ 100 := by omega
     by_cases hjn : j < n
     ·have j1 : ((j : Int) < (n : Int)) = True := eq_true (by omega)
      have j2 : (j < n) = True := eq_true hjn
      obtain ⟨ad2, e2, hx3⟩ := Kd.at_int HRC.out (j : Int) (by omega) (by rw [HRL.out]; omega)
      cases e2
      obtain ⟨ad3, e3, hx4⟩ := Kd.at_int HV3.out (j : Int) (by omega) (by rw [Poly.up_length, HY.out.2]; omega)
      cases e3
      rw [Poly.rd_up, Int.toNat_natCast] at hx3 hx4
      have hx5 := pw_cell_below HB.out hx3
      have hx6 := pw_cell_below HB.out hx4
      have hrb : R.getD j 0 < 256 := Poly.AllB.get HRB.out.2 j
      have hyb : y.getD j 0 < 256 := Poly.AllB.get HY.out.1 j
      obtain ⟨K2, h2⟩ := (impl_mul_ev (R.getD j 0) (y.getD j 0) hrb hyb).rounds
      have HK2 := Aside0.mk h2
      have HX := Aside0.mk (show Go.bits .xor .i64 (a : Int) ((Gf.gm (R.getD j 0) (y.getD j 0) : Nat) : Int) = ((Mat.dotL (R.take (j + 1)) (y.take (j + 1)) : Nat) : Int) from by
       rw [HA.out, xor_up (dotL_take_lt R y HRB.out.2 j) (Gf.gm_lt _ hrb), dotL_take R y j (by rw [HRB.out.1, HY.out.2]) (by rw [HRB.out.1]; exact hjn)])
      generalize R.getD j 0 = x at hx5 HK2 HX
      generalize y.getD j 0 = z at hx6 HK2 HX
      clear hx3 hx4 hrb hyb h2
      go_wp2_with (go_at_call 128; refine (impl_mul.calls K2 (x : Int) (z : Int) _ _ HK2.out).mono ?_; rintro e w4 ⟨rfl, hd4⟩; have HB4 := Aside0.mk hd4.below; clear hd4)
      go_roundg (n - (j + 1))
      case measure => omega
      case rel => exact ⟨j + 1, _, by omega, by omega, ⟨rfl⟩, by rw [← HX.out], by go_num, ⟨Kd.R_below HRR.out HB4.out⟩, ⟨below_step HB.out HB4.out⟩⟩
     ·have j1 : ((j : Int) < (n : Int)) = False := eq_false (by omega)
      have j2 : (j < n) = False := eq_false hjn
      have ha : a = Mat.dotL R y := by
       rw [HA.out, List.take_of_length_le (by rw [HRB.out.1]; omega), List.take_of_length_le (by rw [HY.out.2]; omega)]
      have HSZ := Aside0.mk (show (Poly.up (Mat.colM (s.take i) y)).length ≤ 8 from by rw [Poly.up_length, Mat.colM_length, List.length_take]; omega)
      have HTA := Aside0.mk (show Poly.up (Mat.colM (s.take i) y) ++ [(a : Int)] = Poly.up (Mat.colM (s.take (i + 1)) y) from by rw [ha]; exact HTS.out)
      clear ha HA
      go_wp2_with ((with_reducible refine gate_builtin (b := .append) (xs := #[.tmp 44, .tmp 46]) rfl ?_); at_builtin; refine Kd.R_append (Kd.int .i64) (w0 := w3) w3.heap.size rfl (.tmp 44) (.tmp 46) 23 3 (.int .i64 0) 8 rfl Try.underlying23 infoJ rfl (by decide) (by omega) u8 (Poly.up (Mat.colM (s.take i) y)) (a : Int) [.int .i64 (a : Int)] (fun _ => True) (fun _ => False) rfl rfl ?aP (fun _ hk => hk.elim) ?aF ?aO ?aB ?aS ?aL ?_; (case aP => exact rfl); (case aB => exact HB.out); (case aF => exact (fun _ _ => trivial)); (case aO => exact HRR.out); (case aS => exact HB.out.size); (case aL => have := HSZ.out; omega); intro v159 w12 ho hb hg hat; rw [HTA.out] at ho; have HO9 := Aside0.mk ho; have HB9 := Aside0.mk hb; clear ho hb hg hat)
      go_roundg (n - (i + 1))
      case measure => omega
      case rel => exact ⟨i + 1, by omega, by omega, by go_num, HO9, HB9⟩
   ·have p3 : ((i : Int) < ((upM s).length : Int)) = False := eq_false (by have := HSL.out; omega)
    have p4 : (i < (upM s).length) = False := eq_false (by have := HSL.out; omega)
    have hR := HRR.out
    rw [show s.take i = s from by rw [List.take_of_length_le (by rw [HS.out.2]; omega)]] at hR
    have HR9 := Aside0.mk (Kd.R_lower hR HB3.out.size)
    have HBE := Aside0.mk (below_step HB3.out HB.out)
    clear hR
    go_wp2
    go_ret2
    rw [HW.out]
    exact ⟨_, rfl, HR9.out, HBE.out⟩

theorem solW_chg (ps s : List Nat) : solW (Dec.vm ps) (s.take ps.length) = chgW ps s := by
 unfold solW chgW Dec.chg
 cases Mat.inv (Dec.vm ps) <;> rfl
theorem within_eq (a b c : Int) : impl_within.f a b c = some (decide (b ≤ a ∧ a ≤ c)) := by
 unfold impl_within.f
 by_cases h : b ≤ a
 ·rw [if_pos h]
  congr 1
  exact decide_eq_decide.2 ⟨fun h2 => ⟨h, h2⟩, fun h2 => h2.2⟩
 ·rw [if_neg h, decide_eq_false (fun h2 => h h2.1)]
theorem count_take (v : List Nat) {i : Nat} (hi : i < v.length) : ((v.take (i + 1)).filter (· != 0)).length = ((v.take i).filter (· != 0)).length + (if v.getD i 0 = 0 then 0 else 1) := by
 rw [List.take_succ_eq_append_getElem hi, List.filter_append, List.length_append, List.getD_eq_getElem?_getD, List.getElem?_eq_getElem hi]
 congr 1
 show (List.filter (· != 0) [v[i]]).length = if v[i] = 0 then 0 else 1
 by_cases h : v[i] = 0
 ·rw [if_pos h, List.filter_cons, if_neg (by simpa using h)]; rfl
 ·rw [if_neg h, List.filter_cons, if_pos (by simpa using h)]; rfl

def impl_DecodeWord.f (l : List Int) (a : Int) : Option (List Int × Int × Bool) := if l.length ≤ 1048576 then some (decV l a) else none
theorem impl_DecodeWord_ev (l : List Int) (a : Int) (h : l.length ≤ 1048576) : impl_DecodeWord.f l a = some (decV l a) := if_pos h
set_option maxHeartbeats 16000000 in
set_option maxRecDepth 100000 in
theorem impl_DecodeWord.calls (A0 : Option Addr) (c0 : Nat) (l0 : List Int) (a1 : Int) (r1 : List Int) (r2 : Int) (r3 : Bool) (w : World) (hr0 : (Kd.int .i64).C w A0 l0.length l0) (hc0 : l0.length ≤ c0) (h : impl_DecodeWord.f l0 a1 = some (r1, r2, r3)) :
  Calls Try.prog 81 #[.slice A0 l0.length c0, .int .i64 a1] w fun e w' => ∃ v0_ : Value, e = .returned (.tuple #[v0_, .int .i64 r2, .bool r3]) ∧ (Kd.int .i64).R 3 w' w.heap.size (fun _ => True) v0_ r1 ∧ Below w.heap.size w w' := by
 have HR := Aside0.mk hr0
 have HC := Aside0.mk hc0
 have HB := Aside0.mk (Below.refl w.heap.size w)
 clear hr0 hc0
 unfold impl_DecodeWord.f at h
 split at h
 rotate_left
 ·cases h
 rename_i hsz
 have H0 := Option.some.inj h
 clear h
 have h1 := impl_isLong_eq l0 a1
 cases g1 : isLg l0 a1 with
 | false =>
  rw [decV_no g1] at H0
  injection H0 with e1 e2
  injection e2 with e2 e3
  subst e1 e2 e3
  rw [g1] at h1
  have H1 := Aside0.mk h1
  clear h1 g1 hsz
  go_enter Try.func81, Try.ntmps81
  go_wp2_with (go_at_call 143; refine (impl_isLong.calls A0 c0 l0 a1 false _ HR.out HC.out H1.out).mono ?_; rintro e w' ⟨rfl, ⟨nd, rfl⟩⟩)
  go_ret3
  exact ⟨_, rfl, Kd.R_nil _ _ _ _ _, pw_below_drewN HB.out _⟩
 | true =>
  rw [g1] at h1
  have H1 := Aside0.mk h1
  obtain ⟨m, n, rfl, rfl, hm, hn1, hn3, hml, hm24⟩ := isLg_up g1
  obtain ⟨K2, h2⟩ := (impl_isRight_ev m n hm (by omega) hn3 hn1).rounds
  rw [synL_syl, zeroL_zer] at h2
  obtain ⟨K3, h3⟩ := (impl_syndromes_ev m n hm (by omega) hn3).rounds
  rw [synL_syl] at h3
  obtain ⟨q1, q2, q3, q4, q5, q6, q7, q8⟩ := dec_parts hm n hn3 hm24
  obtain ⟨K4, h4⟩ := (impl_locator_ev _ q1 (by omega)).rounds
  rw [decV_alt g1 rfl rfl rfl] at H0
  have hM24 : (Poly.up m).length ≤ 24 := by rw [Poly.up_length]; exact hm24
  have hM0 : 0 < (Poly.up m).length := by rw [Poly.up_length]; omega
  have hcl := slices_Clone_int_int.calls A0 c0 (Poly.up m) (Poly.up m)
  have HIS := Aside0.mk (fun ps v (kb : Poly.AllB v) => (show (∃ K, impl_isRight.f K (Poly.up (Dec.fixL m ps v)) (n : Int) = some (Enc.zer (Enc.syl (Dec.fixL m ps v) (2 * n)))) ∧ (Poly.up (Dec.fixL m ps v)).length = (Poly.up m).length from by
   have hfl := Dec.fixL_length ps v m
   have hfb := Dec.fixL_Bs ps kb hm
   have z1 := (impl_isRight_ev _ n hfb (by omega) hn3 hn1).rounds
   rw [synL_syl, zeroL_zer] at z1
   exact ⟨z1, by rw [Poly.up_length, Poly.up_length, hfl]⟩))
  have HMM := Aside0.mk (show Poly.AllB m ∧ m.length ≤ 24 from ⟨hm, hm24⟩)
  generalize hcq : Bm.loc (Enc.syl m (2 * n)) = c at h4 H0 q3 q4 q5 q6 q7 q8
  have HL := Aside0.mk (show Poly.AllB c ∧ c.length ≤ 8 ∧ 1 ≤ c.length from ⟨q3, q4, q5⟩)
  have HPS := Aside0.mk (show (∀ p ∈ Dec.plc c m.length, p < m.length) ∧ (Dec.plc c m.length).length ≤ 24 from ⟨q6, q8⟩)
  have HSB := Aside0.mk (show Poly.AllB (Enc.syl m (2 * n)) ∧ (Enc.syl m (2 * n)).length = 2 * n from ⟨q1, q2⟩)
  have H2 := Aside0.mk h2
  have H3 := Aside0.mk h3
  have H4 := Aside0.mk h4
  have y0 : (0 : Int) ≤ (n : Int) := by omega
  have y1 : (n : Int) ≤ 3 := by omega
  have HN := Aside0.mk (show 1 ≤ n ∧ n ≤ 3 ∧ 2 * n < m.length from ⟨hn1, hn3, hml⟩)
  clear h1 h2 h3 h4 g1 hsz hm hn1 hn3 hml hm24 q1 q2 q3 q4 q5 q6 q7 q8 hcq
  generalize Enc.syl m (2 * n) = s at H2 H3 H4 H0 HSB
  go_enter Try.func81, Try.ntmps81
  go_wp2_with (go_at_call 143; refine (impl_isLong.calls A0 c0 (Poly.up m) (n : Int) true _ HR.out HC.out H1.out).mono ?_; rintro e w1 ⟨rfl, hd⟩; have HB1 := Aside0.mk hd.below; clear hd)
  refine (hcl _ (Kd.C_below HR.out HB1.out) HC.out (by unfold slices_Clone_int_int.f; rw [if_pos (by omega)])).mono ?_
  rintro e w2 ⟨va, rfl, hva, hb⟩
  obtain ⟨g, cg, rfl, hg0, hg1, _, _⟩ := Kd.R_form hva hM0
  have HO := Aside0.mk (Kd.R_lower hva HB1.out.size)
  have HB2 := Aside0.mk (below_step HB1.out hb)
  have HG := Aside0.mk (show w.heap.size ≤ g ∧ g < w2.heap.size from ⟨Nat.le_trans HB1.out.size hg0, hg1⟩)
  clear hva hb hg0 hg1 HB1 hcl
  go_wp2_with fail
  refine (impl_isRight.calls K2 A0 c0 (Poly.up m) (n : Int) (Enc.zer s) _ (Kd.C_below HR.out HB2.out) HC.out H2.out).mono ?_
  rintro e w3 ⟨rfl, hb⟩
  have HO3 := Aside0.mk (Kd.R_below HO.out hb)
  have HB3 := Aside0.mk (below_step HB2.out hb)
  have HG3 := Aside0.mk (show w.heap.size ≤ g ∧ g < w3.heap.size from ⟨HG.out.1, Nat.lt_of_lt_of_le HG.out.2 hb.size⟩)
  clear hb HO HB2 HG
  cases hz : Enc.zer s with
  | true =>
   rw [hz] at H0
   injection H0 with e1 e2
   injection e2 with e2 e3
   subst e1 e2 e3
   clear hz
   go_wp2
   go_ret3
   exact ⟨_, rfl, HO3.out, HB3.out⟩
  | false =>
   rw [hz, if_neg (by decide)] at H0
   clear hz
   go_wp2_with fail
   refine (impl_syndromes.calls K3 A0 c0 (Poly.up m) (n : Int) (Poly.up s) _ (Kd.C_below HR.out HB3.out) HC.out H3.out).mono ?_
   rintro e w4 ⟨va, rfl, hva, hb⟩
   obtain ⟨A3, n3, rfl, hn3, hC3⟩ := Kd.R_reads hva
   have HS := Aside0.mk hC3
   have HN3 := Aside0.mk hn3
   have HO4 := Aside0.mk (Kd.R_below HO3.out hb)
   have HB4 := Aside0.mk (below_step HB3.out hb)
   have HG4 := Aside0.mk (show w.heap.size ≤ g ∧ g < w4.heap.size from ⟨HG3.out.1, Nat.lt_of_lt_of_le HG3.out.2 hb.size⟩)
   clear hva hC3 hn3 hb HB3 HO3 HG3
   go_wp2_with fail
   refine (impl_locator.calls K4 A3 n3 (Poly.up s) (Poly.up c) _ HS.out HN3.out H4.out).mono ?_
   rintro e w5 ⟨va, rfl, hva, hb⟩
   obtain ⟨A4, n4, rfl, hn4, hC4⟩ := Kd.R_reads hva
   have HCC := Aside0.mk hC4
   have HN4 := Aside0.mk hn4
   have HB5 := Aside0.mk (below_step HB4.out hb)
   have HW5 := Aside0.mk (show w.heap.size ≤ w5.heap.size from (below_step HB4.out hb).size)
   have HS5 := Aside0.mk (Kd.C_below HS.out hb)
   have HO5 := Aside0.mk (Kd.R_below HO4.out hb)
   have HG5 := Aside0.mk (show w.heap.size ≤ g ∧ g < w5.heap.size from ⟨HG4.out.1, Nat.lt_of_lt_of_le HG4.out.2 hb.size⟩)
   clear hva hC4 hn4 hb HB4 HS HO4 HG4
   go_wp2_with ((with_reducible refine gate_dst (N := 38) rfl ?_); refine Kd.R_lit (Kd.int .i64) _ 3 ?hg (N := 38) ?hd (xs := ([] : List Int)) (inner := []) (ok := fun _ => True) (okp := fun _ => True) ?hr ?hp (fun _ hk => hk) trivial (Below.refl _ _) (Nat.le_refl _) (by simp) ?_; (case hd => rfl); (case hg => rfl); (case hr => first | (go_simp; done) | (go_simp; rfl)); (case hp => exact (Reps.none _ _)); intro v20 w20 ho20 hb20 _ _; have HBL0 := Aside0.mk hb20; have HSL0 := Aside0.mk ho20; clear ho20 hb20)
   go_loopg [10, 41] (Poly.up m).length (fun gg v10 v41 wq => ∃ i : Nat, i ≤ (Poly.up m).length ∧ (Poly.up m).length - i ≤ gg ∧ v41 = .int .i64 i ∧ Aside0 ((Kd.int .i64).R 3 wq w5.heap.size (fun _ => True) v10 (Poly.up (Dec.plc c i))) ∧ Aside0 (Below w5.heap.size w5 wq))
   case atStart => exact ⟨0, Nat.zero_le _, by omega, rfl, HSL0, HBL0⟩
   case round =>
    clear HBL0 HSL0
    obtain ⟨i, hi', hgi, rfl, HRR, HBR⟩ := hrel
    have z0 : (0 : Int) ≤ (i : Int) := by omega
    have z1 : (i : Int) ≤ 100 := by omega
    by_cases hlt : i < (Poly.up m).length
    ·have j1 : ((i : Int) < ((Poly.up m).length : Int)) = True := eq_true (by omega)
     have j2 : (i < (Poly.up m).length) = True := eq_true hlt
     obtain ⟨K5, h5⟩ := (impl_pow_ev 2 i (by decide) (by omega)).rounds
     obtain ⟨K6, h6⟩ := (impl_inverse_ev (Gf.pw 2 i) (Gf.pw_lt i)).rounds
     obtain ⟨K7, h7⟩ := (impl_eval_ev c (Gf.gi (Gf.pw 2 i)) HL.out.1 (Gf.gi_lt _) (by have := HL.out; omega)).rounds
     rw [Pev.gev_pe] at h7
     have hps := plc_succ c i
     have hpl := Dec.plc_length c i
     generalize Root.pe c (Gf.gi (Gf.pw 2 i)) = k at h7 hps
     generalize Gf.gi (Gf.pw 2 i) = x at h6 h7
     generalize Gf.pw 2 i = y at h5 h6
     have H5 := Aside0.mk h5
     have H6 := Aside0.mk h6
     have H7 := Aside0.mk h7
     obtain ⟨A8, c8, rfl⟩ := Kd.R_slice HRR.out
     have HPL := Aside0.mk (show (Poly.up (Dec.plc c i)).length ≤ 100 from by rw [Poly.up_length]; omega)
     by_cases hk : k = 0
     ·subst hk
      rw [if_pos rfl] at hps
      have HTS := Aside0.mk (show Poly.up (Dec.plc c i) ++ [(i : Int)] = Poly.up (Dec.plc c (i + 1)) from by rw [Poly.up_snoc, hps])
      clear h5 h6 h7 hps hpl
      go_wp2_with (first | (go_at_call 159; refine (impl_pow.calls K5 2 (i : Int) (y : Int) _ H5.out).mono ?_; rintro e wa ⟨rfl, hd⟩; have HBa := Aside0.mk hd.below; clear hd) | (go_at_call 158; refine (impl_inverse.calls K6 (y : Int) (x : Int) _ H6.out).mono ?_; rintro e wb ⟨rfl, hd⟩; have HBb := Aside0.mk (below_step HBa.out hd.below); clear hd) | (go_at_call 157; refine (impl_eval.calls K7 A4 n4 (Poly.up c) (x : Int) ((0 : Nat) : Int) _ (Kd.C_below HCC.out (below_step HBR.out HBb.out)) HN4.out H7.out).mono ?_; rintro e wd ⟨rfl, hd⟩; have HBd := Aside0.mk (below_step HBb.out hd.below); clear hd) | ((with_reducible refine gate_builtin (b := .append) (xs := #[.tmp 50, .tmp 52]) rfl ?_); at_builtin; refine Kd.R_append (Kd.int .i64) (w0 := w5) w5.heap.size rfl (.tmp 50) (.tmp 52) 23 3 (.int .i64 0) 8 rfl Try.underlying23 infoJ rfl (by decide) (by decide) (.slice A8 (Poly.up (Dec.plc c i)).length c8) (Poly.up (Dec.plc c i)) (i : Int) [.int .i64 (i : Int)] (fun _ => True) (fun _ => False) rfl rfl ?aP (fun _ hk => hk.elim) ?aF ?aO ?aB ?aS ?aL ?_; (case aP => exact rfl); (case aB => exact below_step HBR.out HBd.out); (case aF => exact (fun _ _ => trivial)); (case aO => exact Kd.R_below HRR.out HBd.out); (case aS => exact (below_step HBR.out HBd.out).size); (case aL => have := HPL.out; omega); intro v159 w12 ho hb hg hat; rw [HTS.out] at ho; have HO9 := Aside0.mk ho; have HB9 := Aside0.mk hb; clear ho hb hg hat))
      go_roundg ((Poly.up m).length - (i + 1))
      case measure => omega
      case rel => exact ⟨i + 1, by omega, by omega, by go_num, HO9, HB9⟩
     ·rw [if_neg hk, List.append_nil] at hps
      have p1 : ((k : Int) == 0) = false := by rw [beq_eq_false_iff_ne]; omega
      have p2 : (k = 0) = False := eq_false hk
      have HTS := Aside0.mk hps
      clear h5 h6 h7 hps hpl
      go_wp2_with (first | (go_at_call 159; refine (impl_pow.calls K5 2 (i : Int) (y : Int) _ H5.out).mono ?_; rintro e wa ⟨rfl, hd⟩; have HBa := Aside0.mk hd.below; clear hd) | (go_at_call 158; refine (impl_inverse.calls K6 (y : Int) (x : Int) _ H6.out).mono ?_; rintro e wb ⟨rfl, hd⟩; have HBb := Aside0.mk (below_step HBa.out hd.below); clear hd) | (go_at_call 157; refine (impl_eval.calls K7 A4 n4 (Poly.up c) (x : Int) (k : Int) _ (Kd.C_below HCC.out (below_step HBR.out HBb.out)) HN4.out H7.out).mono ?_; rintro e wd ⟨rfl, hd⟩; have HBd := Aside0.mk (below_step HBb.out hd.below); clear hd))
      go_roundg ((Poly.up m).length - (i + 1))
      case measure => omega
      case rel => exact ⟨i + 1, by omega, by omega, by go_num, by rw [HTS.out]; exact ⟨Kd.R_below HRR.out HBd.out⟩, ⟨below_step HBR.out HBd.out⟩⟩
    ·have j1 : ((i : Int) < ((Poly.up m).length : Int)) = False := eq_false (by omega)
     have j2 : (i < (Poly.up m).length) = False := eq_false hlt
     have hR := HRR.out
     rw [show i = m.length by have := Poly.up_length m; omega] at hR
     clear HRR
     generalize Dec.plc c m.length = ps at hR H0 HPS
     obtain ⟨A8, c8, rfl⟩ := Kd.R_slice hR
     have HRP := Aside0.mk (show (Kd.int .i64).R 3 wr w5.heap.size (fun k => k ≠ g) (.slice A8 (Poly.up ps).length c8) (Poly.up ps) from Kd.R_mono (Kd.R_bound hR) (fun k hk => by have := hk.2.1; have := HG5.out.2; omega))
     have HO6 := Aside0.mk (Kd.R_below HO5.out HBR.out)
     have HB6 := Aside0.mk (below_step HB5.out HBR.out)
     have HS6 := Aside0.mk (Kd.C_below HS5.out HBR.out)
     have HG6 := Aside0.mk (show w.heap.size ≤ g ∧ g < wr.heap.size from ⟨HG5.out.1, Nat.lt_of_lt_of_le HG5.out.2 HBR.out.size⟩)
     have HUP := Aside0.mk (Poly.up_length ps)
     have hup := HUP.out
     have huc := Poly.up_length c
     have hcb : ((Poly.up c).length : Int) ≤ 8 := by have := HL.out; omega
     have cc0 : (1 : Int) ≤ ((Poly.up c).length : Int) := by have := HL.out; omega
     have hpb : ((Poly.up ps).length : Int) ≤ 24 := by have := HPS.out; omega
     have bad : ¬ (1 ≤ ps.length ∧ ps.length + 1 = c.length ∧ ps.length ≤ n) → r1 = [] ∧ r2 = 0 ∧ r3 = false := fun hx => by
      rw [if_neg hx] at H0
      injection H0 with e1 e2
      injection e2 with e2 e3
      exact ⟨e1.symm, e2.symm, e3.symm⟩
     clear hR HO5 HB5 HS5 HG5 HBR HCC HN4
     by_cases k2 : ps.length + 1 = c.length
     rotate_left
     ·obtain ⟨rfl, rfl, rfl⟩ := bad (by omega)
      have t3 : (((Poly.up ps).length : Int) != ((Poly.up c).length : Int) - 1) = true := by rw [bne_iff_ne]; omega
      have h5 := within_eq (((Poly.up c).length : Int) - 1) 1 (n : Int)
      cases hw : decide (1 ≤ ((Poly.up c).length : Int) - 1 ∧ ((Poly.up c).length : Int) - 1 ≤ (n : Int)) with
      | false =>
       rw [hw] at h5
       have H5 := Aside0.mk h5
       clear H0 bad HIS hup huc k2 h5 hw HO6 HRP
       go_wp2_with (go_at_call 99; refine (impl_within.calls _ 1 (n : Int) false _ H5.out).mono ?_; rintro e w7 ⟨rfl, ⟨nd, rfl⟩⟩)
       go_ret3
       exact ⟨_, rfl, Kd.R_nil _ _ _ _ _, pw_below_drewN HB6.out _⟩
      | true =>
       rw [hw] at h5
       have H5 := Aside0.mk h5
       clear H0 bad HIS hup huc k2 h5 hw HO6 HRP
       go_wp2_with (go_at_call 99; refine (impl_within.calls _ 1 (n : Int) true _ H5.out).mono ?_; rintro e w7 ⟨rfl, ⟨nd, rfl⟩⟩)
       go_ret3
       exact ⟨_, rfl, Kd.R_nil _ _ _ _ _, pw_below_drewN HB6.out _⟩
     have hcl : ((Poly.up c).length : Int) - 1 = ((Poly.up ps).length : Int) := by omega
     by_cases k3 : 1 ≤ ps.length ∧ ps.length ≤ n
     rotate_left
     ·obtain ⟨rfl, rfl, rfl⟩ := bad (by omega)
      have h5 := within_eq ((Poly.up ps).length : Int) 1 (n : Int)
      rw [decide_eq_false (by omega)] at h5
      have H5 := Aside0.mk h5
      clear H0 bad HIS hup huc k2 k3 h5 HO6 HRP
      go_wp2_with (go_at_call 99; refine (impl_within.calls _ 1 (n : Int) false _ H5.out).mono ?_; rintro e w7 ⟨rfl, ⟨nd, rfl⟩⟩)
      go_ret3
      exact ⟨_, rfl, Kd.R_nil _ _ _ _ _, pw_below_drewN HB6.out _⟩
     rw [if_pos ⟨k3.1, k2, k3.2⟩] at H0
     have h5 := within_eq ((Poly.up ps).length : Int) 1 (n : Int)
     rw [decide_eq_true (by omega)] at h5
     have H5 := Aside0.mk h5
     have HP := Aside0.mk (show 1 ≤ ps.length ∧ ps.length ≤ 3 ∧ ps.length ≤ s.length from ⟨k3.1, by have := HN.out; omega, by have := HN.out; have := HSB.out; omega⟩)
     have HPB := Aside0.mk (fun j => show ps.getD j 0 < 25 from by
      by_cases hj : j < ps.length
      ·have h8 := HPS.out.1 _ (List.getElem_mem hj)
       have h9 := HMM.out.2
       rw [List.getD_eq_getElem?_getD, List.getElem?_eq_getElem hj]
       show ps[j] < 25
       omega
      ·rw [Pev.getD_out (by omega)]; decide)
     clear bad hup huc k2 k3 h5
     go_wp2_with (first | (go_at_call 99; refine (impl_within.calls _ 1 (n : Int) true _ H5.out).mono ?_; rintro e w7 ⟨rfl, hd⟩; have HO7 := Aside0.mk (Kd.R_below HO6.out hd.below); have HRP7 := Aside0.mk (Kd.R_below HRP.out hd.below); have HS7 := Aside0.mk (Kd.C_below HS6.out hd.below); have HB7 := Aside0.mk (below_step HB6.out hd.below); have HG7 := Aside0.mk (show w.heap.size ≤ g ∧ g < w7.heap.size from ⟨HG6.out.1, Nat.lt_of_lt_of_le HG6.out.2 hd.below.size⟩); clear hd) | ((with_reducible refine gate_dst (N := 68) rfl ?_); refine Kd.R_lit (Kd.slice 3 (Kd.int .i64)) _ 23 ?hg (N := 68) ?hd (xs := ([] : List (List Int))) (inner := []) (ok := fun _ => True) (okp := fun _ => True) ?hr ?hp (fun _ hk => hk) trivial (Below.refl _ _) (Nat.le_refl _) (by simp) ?_; (case hd => rfl); (case hg => rfl); (case hr => first | (go_simp; done) | (go_simp; rfl)); (case hp => exact (Reps.none _ _)); intro v20 w20 ho20 hb20 _ _; have HBL0 := Aside0.mk hb20; have HSL0 := Aside0.mk (S_empty ho20); clear ho20 hb20))
     clear HO6 HRP HS6 HB6 HG6 H5
     go_loopg [13, 70] (Poly.up ps).length (fun gg v13 v70 wq => ∃ k : Nat, k ≤ (Poly.up ps).length ∧ (Poly.up ps).length - k ≤ gg ∧ v70 = .int .i64 k ∧ Aside0 ((Kd.slice 3 (Kd.int .i64)).S 23 wq w7.heap.size (fun _ => True) v13 (upM ((List.range k).map (Dec.vrow ps)))) ∧ Aside0 (Below w7.heap.size w7 wq))
     case atStart => exact ⟨0, Nat.zero_le _, by omega, rfl, HSL0, HBL0⟩
     case round =>
      clear HBL0 HSL0
      obtain ⟨k, hk', hgk, rfl, HSS, HBB⟩ := hrel
      have x0 : (0 : Int) ≤ (k : Int) := by omega
      have x1 : (k : Int) ≤ 100 := by have := HP.out; have := HUP.out; omega
      obtain ⟨wo, hwo⟩ : ∃ x, x = wr := ⟨_, rfl⟩
      by_cases hlk : k < (Poly.up ps).length
      ·have l1 : ((k : Int) < ((Poly.up ps).length : Int)) = True := eq_true (by omega)
       have l2 : (k < (Poly.up ps).length) = True := eq_true hlk
       subst hwo
       go_wp2_with ((with_reducible refine gate_dst (N := 73) rfl ?_); refine Kd.R_lit (Kd.int .i64) _ 3 ?hg (N := 73) ?hd (xs := ([] : List Int)) (inner := []) (ok := fun _ => True) (okp := fun _ => True) ?hr ?hp (fun _ hk => hk) trivial (Below.refl _ _) (Nat.le_refl _) (by simp) ?_; (case hd => rfl); (case hg => rfl); (case hr => first | (go_simp; done) | (go_simp; rfl)); (case hp => exact (Reps.none _ _)); intro v21 w21 ho21 hb21 _ _; have HBL1 := Aside0.mk hb21; have HSL1 := Aside0.mk ho21; clear ho21 hb21)
       go_loopg [15, 76] (Poly.up ps).length (fun gg v15 v76 wq => ∃ j : Nat, j ≤ (Poly.up ps).length ∧ (Poly.up ps).length - j ≤ gg ∧ v76 = .int .i64 j ∧ Aside0 ((Kd.int .i64).R 3 wq wo.heap.size (fun _ => True) v15 (Poly.up ((Dec.vrow ps k).take j))) ∧ Aside0 (Below wo.heap.size wo wq))
       case atStart => exact ⟨0, Nat.zero_le _, by omega, rfl, HSL1, HBL1⟩
       case round =>
        clear HBL1 HSL1
        obtain ⟨j, hj', hgj, rfl, HRR, HBR⟩ := hrel
        have u0 : (0 : Int) ≤ (j : Int) := by omega
        have u1 : (j : Int) ≤ 100 := by have := HP.out; have := HUP.out; omega
        by_cases hjn : j < (Poly.up ps).length
        ·have j3 : ((j : Int) < ((Poly.up ps).length : Int)) = True := eq_true (by omega)
         have j4 : (j < (Poly.up ps).length) = True := eq_true hjn
         obtain ⟨ad, eA, hx⟩ := Kd.at_int (Kd.R_reads' HRP7.out).2.2 (j : Int) u0 (by omega)
         cases eA
         rw [Poly.rd_up, Int.toNat_natCast] at hx
         have hx5 := pw_cell_below (below_step HBB.out HBR.out) hx
         have hpb := HPB.out j
         have hvs := vrow_snoc ps k (j := j) (by have := HUP.out; omega)
         have hkk : k ≤ 3 := by have := HP.out; have := HUP.out; omega
         have hz : ps.getD j 0 * k ≤ 25 * 3 := Nat.mul_le_mul (by omega) hkk
         have hzi : (((ps.getD j 0 * k : Nat) : Int)) = (k : Int) * ((ps.getD j 0 : Nat) : Int) := by rw [Int.natCast_mul, Int.mul_comm]
         obtain ⟨K2, h2⟩ := (impl_pow_ev 2 (ps.getD j 0 * k) (by decide) (by omega)).rounds
         generalize ps.getD j 0 * k = z at hz hzi h2 hvs
         generalize ps.getD j 0 = p at hx5 hpb hzi
         have hw2 : wrap64 ((k : Int) * (p : Int)) = (z : Int) := by rw [← hzi]; exact wrap_id (by omega) (by omega)
         have hw1 : IntKind.i64.wrap ((k : Int) * (p : Int)) = (z : Int) := (i64_w _).trans hw2
         have HVS := Aside0.mk hvs
         have HK2 := Aside0.mk h2
         have HSZ := Aside0.mk (show (Poly.up ((Dec.vrow ps k).take j)).length ≤ 8 from by rw [Poly.up_length, List.length_take, Dec.vrow_length]; have := HP.out; omega)
         clear hx hz hzi h2 hvs hpb hkk
         generalize Gf.pw 2 z = q at HK2 HVS
         obtain ⟨A9, c9, rfl⟩ := Kd.R_slice HRR.out
         go_wp2_with (first | (go_at_call 159; refine (impl_pow.calls K2 2 (z : Int) (q : Int) _ HK2.out).mono ?_; rintro e wa ⟨rfl, hd4⟩; have HBa := Aside0.mk hd4.below; clear hd4) | ((with_reducible refine gate_builtin (b := .append) (xs := #[.tmp 80, .tmp 85]) rfl ?_); at_builtin; refine Kd.R_append (Kd.int .i64) (w0 := wo) wo.heap.size rfl (.tmp 80) (.tmp 85) 23 3 (.int .i64 0) 8 rfl Try.underlying23 infoJ rfl (by decide) (by decide) (.slice A9 (Poly.up ((Dec.vrow ps k).take j)).length c9) (Poly.up ((Dec.vrow ps k).take j)) (q : Int) [.int .i64 (q : Int)] (fun _ => True) (fun _ => False) rfl rfl ?aP (fun _ hk => hk.elim) ?aF ?aO ?aB ?aS ?aL ?_; (case aP => exact rfl); (case aB => exact below_step HBR.out HBa.out); (case aF => exact (fun _ _ => trivial)); (case aO => exact Kd.R_below HRR.out HBa.out); (case aS => exact (below_step HBR.out HBa.out).size); (case aL => clear hw1 hw2; have := HSZ.out; omega); intro v159 w12 ho hb hg hat; rw [HVS.out] at ho; have HO9 := Aside0.mk ho; have HB9 := Aside0.mk hb; clear ho hb hg hat))
         clear hw1 hw2
         go_roundg ((Poly.up ps).length - (j + 1))
         case measure => omega
         case rel => exact ⟨j + 1, by omega, by omega, by go_num, HO9, HB9⟩
        ·have j3 : ((j : Int) < ((Poly.up ps).length : Int)) = False := eq_false (by omega)
         have j4 : (j < (Poly.up ps).length) = False := eq_false hjn
         have hR := HRR.out
         rw [List.take_of_length_le (by rw [Dec.vrow_length]; have := HUP.out; omega)] at hR
         obtain ⟨A9, c9, rfl⟩ := Kd.R_slice hR
         have HR3 := Aside0.mk hR
         have HSL := Aside0.mk (show (upM ((List.range k).map (Dec.vrow ps))).length ≤ 1000000 by rw [upM_length, List.length_map, List.length_range]; omega)
         have HTS := Aside0.mk (vmTo_succ ps k)
         clear hR HRR
         go_wp2_with ((with_reducible refine gate_builtin (b := .append) (xs := #[.tmp 88, .tmp 90]) rfl ?_); at_builtin; refine app_event (w0 := w7) w7.heap.size rfl (.tmp 88) (.tmp 90) rfl _ (upM ((List.range k).map (Dec.vrow ps))) A9 c9 (Poly.up (Dec.vrow ps k)) rfl rfl HSS.out HBR.out HR3.out ?aB ?aS HSL.out ?_; (case aB => exact below_step HBB.out HBR.out); (case aS => exact HBB.out.size); intro A10 c10 w2 hS2 hB2 HK2; rw [HTS.out] at hS2; have HS2 := Aside0.mk hS2; have HB2 := Aside0.mk hB2; clear hS2 hB2)
         go_roundg ((Poly.up ps).length - (k + 1))
         case measure => omega
         case rel => exact ⟨k + 1, by omega, by omega, by go_num, HS2, HB2⟩
      ·have l1 : ((k : Int) < ((Poly.up ps).length : Int)) = False := eq_false (by omega)
       have l2 : (k < (Poly.up ps).length) = False := eq_false hlk
       clear hwo
       have hS := HSS.out
       rw [show (List.range k).map (Dec.vrow ps) = Dec.vm ps from by unfold Dec.vm; rw [show k = ps.length by have := HUP.out; omega]] at hS
       obtain ⟨A5, c5, rfl, hE5⟩ := (Env.Env.start (e := 23) (t := 3) w7).madeS (by decide) hS HBB.out
       have hT := Kd.C_take (Kd.C_below HS7.out HBB.out) (m := (Poly.up ps).length) (by rw [Poly.up_length, Poly.up_length]; exact HP.out.2.2)
       rw [Poly.up_take, HUP.out] at hT
       have hsv := solve_e A5 c5 (Poly.up ps).length (Dec.vm ps) wr (by rw [Poly.up_length]; exact Dec.vm_MB ps) (by rw [Poly.up_length, Dec.vm_length]) (by have := HP.out; have := HUP.out; omega) (by have := HP.out; have := HUP.out; omega) (hE5.C (by decide) 0 rfl) (hE5.cap (by decide) 0 rfl) A3 n3 (s.take ps.length) (Poly.AllB.take HSB.out.1 _) (by rw [List.length_take, Poly.up_length]; have := HP.out; omega) hT
       rw [solW_chg] at hsv
       have hlen : (upM (Dec.vm ps)).length = (Poly.up ps).length := by rw [upM_length, Dec.vm_length, Poly.up_length]
       have s1 : ((Poly.up ps).length ≤ (Poly.up s).length) = True := eq_true (by rw [Poly.up_length, Poly.up_length]; exact HP.out.2.2)
       have s2 : (((Poly.up ps).length : Int) ≤ ((Poly.up s).length : Int)) = True := eq_true (by have h9 := of_eq_true s1; omega)
       have s3 : ((Poly.up ps).length ≤ n3) = True := eq_true (by have h9 := of_eq_true s1; have := HN3.out; omega)
       clear hS hE5 hT HSS HPB
       rcases fixW_cases m ps s with ⟨hc, _, hg⟩ | ⟨v, hc, hvl, hvb, _, hg⟩
       ·rw [hc] at H0
        rw [hg] at hsv
        injection H0 with e1 e2
        injection e2 with e2 e3
        subst e1 e2 e3
        have HSV := Aside0.mk hsv
        clear hsv hg hc
        go_wp2_with fail
        refine HSV.out.mono ?_
        rintro e w8 ⟨v8, rfl, hR8, hb8⟩
        have HB8 := Aside0.mk (below_step HB7.out (below_step HBB.out hb8))
        clear hR8 hb8 HSV
        go_wp2
        go_ret3
        exact ⟨_, rfl, Kd.R_nil _ _ _ _ _, HB8.out⟩
       ·rw [hc] at H0
        rw [hg] at hsv
        obtain ⟨⟨K6, h6⟩, hol⟩ := HIS.out ps v hvb
        replace H0 : (if Enc.zer (Enc.syl (Dec.fixL m ps v) (2 * n)) = true then (Poly.up (Dec.fixL m ps v), ((v.filter (· != 0)).length : Int), true) else ([], 0, false)) = (r1, r2, r3) := H0
        have HSV := Aside0.mk hsv
        have H6 := Aside0.mk h6
        have HVB := Aside0.mk (show v.length = ps.length ∧ Poly.AllB v from ⟨hvl, hvb⟩)
        have HOL := Aside0.mk hol
        clear hsv hg hc h6 hol hvl hvb HIS
        go_wp2_with fail
        refine HSV.out.mono ?_
        rintro e w8 ⟨v8, rfl, hR8, hb8⟩
        obtain ⟨A6, c6, rfl⟩ := Kd.R_slice hR8
        have hbb := below_step HBB.out hb8
        have HO8 := Aside0.mk (Kd.R_below HO7.out hbb)
        have HRP8 := Aside0.mk (Kd.R_below HRP7.out hbb)
        have HB8 := Aside0.mk (below_step HB7.out hbb)
        have HV8 := Aside0.mk (show (Kd.int .i64).R 3 w8 wr.heap.size (fun k => k ≠ g) (.slice A6 (Poly.up v).length c6) (Poly.up v) from Kd.R_mono (Kd.R_bound hR8) (fun k hk => by have := hk.2.1; have := HG7.out.2; have := HBB.out.size; omega))
        have HVL := Aside0.mk (show (Poly.up v).length = (Poly.up ps).length from by rw [Poly.up_length, Poly.up_length]; exact HVB.out.1)
        have HGW := Aside0.mk HG7.out.1
        have HWR := Aside0.mk (show w.heap.size ≤ wr.heap.size from (below_step HB7.out HBB.out).size)
        clear hR8 hb8 hbb HSV HBB HO7 HRP7 HS7 HB7 HG7
        have HRP9 := Aside0.mk (Kd.R_lower HRP8.out HW5.out)
        have HV9 := Aside0.mk (Kd.R_lower HV8.out HWR.out)
        have HO9 := Aside0.mk (show (Kd.int .i64).R 3 w8 w.heap.size (fun _ => True) (.slice (some ⟨g, 0, none⟩) (Poly.up m).length cg) (Poly.up (Dec.fixL m (ps.take 0) (v.take 0))) from by rw [Dec.fixL_zero]; exact HO8.out)
        clear HRP8 HV8 HO8
        go_wp2
        go_loopg [20, 105] (Poly.up ps).length (fun gg v20 v105 wq => ∃ i : Nat, i ≤ (Poly.up ps).length ∧ (Poly.up ps).length - i ≤ gg ∧ v105 = .int .i64 i ∧ v20 = .int .i64 (((v.take i).filter (· != 0)).length : Int) ∧ Aside0 ((Kd.int .i64).R 3 wq w.heap.size (fun _ => True) (.slice (some ⟨g, 0, none⟩) (Poly.up m).length cg) (Poly.up (Dec.fixL m (ps.take i) (v.take i)))) ∧ Aside0 ((Kd.int .i64).R 3 wq w.heap.size (fun k => k ≠ g) (.slice A8 (Poly.up ps).length c8) (Poly.up ps)) ∧ Aside0 ((Kd.int .i64).R 3 wq w.heap.size (fun k => k ≠ g) (.slice A6 (Poly.up v).length c6) (Poly.up v)) ∧ Aside0 (Below w.heap.size w wq))
        case atStart => exact ⟨0, Nat.zero_le _, by omega, rfl, by rw [List.take_zero]; rfl, HO9, HRP9, HV9, HB8⟩
        case round =>
         clear HO9 HRP9 HV9 HB8
         obtain ⟨i, hi', hgi, rfl, rfl, HOO, HPP, HVV, HBB⟩ := hrel
         have u0 : (0 : Int) ≤ (i : Int) := by omega
         have u1 : (i : Int) ≤ 100 := by have := HP.out; have := HUP.out; omega
         by_cases hin : i < (Poly.up ps).length
         ·have j3 : ((i : Int) < ((Poly.up ps).length : Int)) = True := eq_true (by omega)
          have j4 : (i < (Poly.up ps).length) = True := eq_true hin
          have j5 : ((i : Int) < ((Poly.up v).length : Int)) = True := eq_true (by have := HVL.out; omega)
          have j6 : (i < (Poly.up v).length) = True := eq_true (by have := HVL.out; omega)
          have hips : i < ps.length := by have := HUP.out; omega
          obtain ⟨ad, eA, hx⟩ := Kd.at_int (Kd.R_reads' HPP.out).2.2 (i : Int) u0 (by omega)
          obtain ⟨ad2, eA2, hy⟩ := Kd.at_int (Kd.R_reads' HVV.out).2.2 (i : Int) u0 (by have := HVL.out; omega)
          cases eA
          cases eA2
          rw [Poly.rd_up, Int.toNat_natCast] at hx hy
          have hpm : ps.getD i 0 < m.length := by
           rw [List.getD_eq_getElem?_getD, List.getElem?_eq_getElem hips]
           exact HPS.out.1 _ (List.getElem_mem hips)
          have hst := Dec.fixL_step m ps v (i := i) HVB.out.1.symm hips
          have hFB : Poly.AllB (Dec.fixL m (ps.take i) (v.take i)) := Dec.fixL_Bs _ (Poly.AllB.take HVB.out.2 i) HMM.out.1
          have hFl : (Dec.fixL m (ps.take i) (v.take i)).length = m.length := Dec.fixL_length _ _ _
          have hct := count_take v (i := i) (by rw [HVB.out.1]; exact hips)
          have hcl2 : ((v.take i).filter (· != 0)).length ≤ i := Nat.le_trans (List.length_filter_le _ _) (by rw [List.length_take]; omega)
          generalize Dec.fixL m (ps.take i) (v.take i) = F at HOO hst hFB hFl
          have hrow : (Poly.up F).set (ps.getD i 0) (Go.bits .xor .i64 ((F.getD (ps.getD i 0) 0 : Nat) : Int) ((v.getD i 0 : Nat) : Int)) = Poly.up (Dec.fixL m (ps.take (i + 1)) (v.take (i + 1))) := by
           rw [xor_up (hFB.get _) (HVB.out.2.get i), Poly.up_set, hst]
          have hc := Kd.R_celln (0 : Int) HOO.out ((ps.getD i 0 : Nat) : Int) (by omega) (by rw [Poly.up_length]; omega)
          have hp := Kd.R_putg HOO.out ((ps.getD i 0 : Nat) : Int) (Go.bits .xor .i64 ((F.getD (ps.getD i 0) 0 : Nat) : Int) ((v.getD i 0 : Nat) : Int))
          rw [Int.toNat_natCast] at hc hp
          rw [hrow] at hp
          have hc1 : wr.cell? ⟨g, ps.getD i 0, none⟩ = some (.int .i64 (rd (Poly.up F) ((ps.getD i 0 : Nat) : Int))) := hc.1
          rw [Poly.rd_up] at hc1
          have hc2 := hc.2
          have hfar : ∀ k, k ≠ g → k ≠ (⟨g, ps.getD i 0, none⟩ : Addr).block := fun k hk => hk
          have hO2 := Kd.R_drew hp.1
          have hP2 := Kd.R_drew (Kd.R_far HPP.out (p := ⟨g, ps.getD i 0, none⟩) hfar (.int .i64 (Go.bits .xor .i64 ((F.getD (ps.getD i 0) 0 : Nat) : Int) ((v.getD i 0 : Nat) : Int))))
          have hV2 := Kd.R_drew (Kd.R_far HVV.out (p := ⟨g, ps.getD i 0, none⟩) hfar (.int .i64 (Go.bits .xor .i64 ((F.getD (ps.getD i 0) 0 : Nat) : Int) ((v.getD i 0 : Nat) : Int))))
          have hB2 : Below w.heap.size w ((wr.setCell ⟨g, ps.getD i 0, none⟩ (.int .i64 (Go.bits .xor .i64 ((F.getD (ps.getD i 0) 0 : Nat) : Int) ((v.getD i 0 : Nat) : Int)))).drew) := below_drew (below_set HBB.out HGW.out)
          have hpu : ps.getD i 0 < (Poly.up m).length := by rw [Poly.up_length]; exact hpm
          obtain ⟨ad3, eA3, hy3⟩ := Kd.at_int (Kd.R_reads' hV2).2.2 (i : Int) u0 (by have := HVL.out; omega)
          injection eA3 with eA3
          subst eA3
          rw [Poly.rd_up, Int.toNat_natCast] at hy3
          generalize F.getD (ps.getD i 0) 0 = x at hc1 hO2 hP2 hV2 hB2 hy3
          generalize v.getD i 0 = y at hy hO2 hP2 hV2 hB2 hy3 hct
          generalize ps.getD i 0 = p at hx hc1 hc2 hO2 hP2 hV2 hB2 hy3 hpu
          have j7 : ((p : Int) < ((Poly.up m).length : Int)) = True := eq_true (by omega)
          have j8 : (p < (Poly.up m).length) = True := eq_true hpu
          have j9 : (0 : Int) ≤ (p : Int) := by omega
          generalize ((v.take i).filter (· != 0)).length = cnt at hct hcl2 ⊢
          have u2 : (0 : Int) ≤ (cnt : Int) := by omega
          have u3 : (cnt : Int) ≤ 100 := by omega
          have HCT := Aside0.mk hct
          have HO2 := Aside0.mk hO2
          have HP2 := Aside0.mk hP2
          have HV2 := Aside0.mk hV2
          have HB2 := Aside0.mk hB2
          clear hst hFB hFl hrow hc hp hpm hips hpu HOO HPP HVV hct hcl2 hfar hO2 hP2 hV2 hB2
          go_wp2_with fail
          go_region
          generalize ((wr.setCell ⟨g, p, none⟩ (.int .i64 (Go.bits .xor .i64 (x : Int) (y : Int)))).drew) = w2 at HO2 HP2 HV2 HB2 hy3 ⊢
          clear hx hy hc1 hc2
          by_cases hy0 : y = 0
          ·subst hy0
           rw [if_pos rfl] at HCT
           go_wp2
           go_roundg ((Poly.up ps).length - (i + 1))
           case measure => omega
           case rel => exact ⟨i + 1, by omega, by omega, by go_num, by rw [HCT.out]; rfl, HO2, HP2, HV2, HB2⟩
          ·rw [if_neg hy0] at HCT
           have p1 : ((y : Int) != 0) = true := by rw [bne_iff_ne]; omega
           have p2 : (y = 0) = False := eq_false hy0
           clear hy0
           go_wp2
           go_roundg ((Poly.up ps).length - (i + 1))
           case measure => omega
           case rel => exact ⟨i + 1, by omega, by omega, by go_num, by rw [HCT.out]; go_num, HO2, HP2, HV2, HB2⟩
         ·have j3 : ((i : Int) < ((Poly.up ps).length : Int)) = False := eq_false (by omega)
          have j4 : (i < (Poly.up ps).length) = False := eq_false hin
          have hR := HOO.out
          rw [List.take_of_length_le (l := ps) (by have := HUP.out; omega), List.take_of_length_le (l := v) (by have := HVB.out.1; have := HUP.out; omega)] at hR
          have hR' : (Kd.int .i64).R 3 wr w.heap.size (fun _ => True) (.slice (some ⟨g, 0, none⟩) (Poly.up (Dec.fixL m ps v)).length cg) (Poly.up (Dec.fixL m ps v)) := by rw [HOL.out]; exact hR
          have hq := Kd.R_reads' hR'
          have hri := fun z (hz : impl_isRight.f K6 (Poly.up (Dec.fixL m ps v)) (n : Int) = some z) => impl_isRight.calls K6 (some ⟨g, 0, none⟩) cg (Poly.up (Dec.fixL m ps v)) (n : Int) z wr hq.2.2 hq.2.1 hz
          rw [HOL.out] at hri
          have hcv : ((v.take i).filter (· != 0)).length = (v.filter (· != 0)).length := by rw [List.take_of_length_le (by have := HVB.out.1; have := HUP.out; omega)]
          rw [hcv]
          have HR9 := Aside0.mk hR
          have hri2 := hri _ H6.out
          have HRI := Aside0.mk hri2
          clear hR hR' hq hri hri2 hcv HOO HPP HVV
          generalize Enc.zer (Enc.syl (Dec.fixL m ps v) (2 * n)) = z at H0 HRI H6
          go_wp2_with fail
          refine HRI.out.mono ?_
          rintro e w9 ⟨rfl, hb9⟩
          have HRZ := Aside0.mk (Kd.R_below HR9.out hb9)
          have HBZ := Aside0.mk (below_step HBB.out hb9)
          clear hb9 HRI
          cases z with
          | false =>
           rw [if_neg (by decide)] at H0
           injection H0 with e1 e2
           injection e2 with e2 e3
           subst e1 e2 e3
           go_wp2
           go_ret3
           exact ⟨_, rfl, Kd.R_nil _ _ _ _ _, HBZ.out⟩
          | true =>
           rw [if_pos rfl] at H0
           injection H0 with e1 e2
           injection e2 with e2 e3
           subst e1 e2 e3
           go_wp2
           go_ret3
           exact ⟨_, rfl, HRZ.out, HBZ.out⟩

set_option maxHeartbeats 2000000 in
set_option maxRecDepth 100000 in
theorem l2invert_e (A0 : Option Addr) (c0 n : Nat) (m : List (List Nat)) (w : World) (hm : Mat.MB' n m) (hmn : m.length = n) (h1 : 1 ≤ n) (h8 : n ≤ 8) (hr0 : Kd.C (Kd.slice 3 (Kd.int .i64)) w A0 (upM m).length (upM m)) (hc0 : (upM m).length ≤ c0) :
  Calls Try.prog 94 #[.slice A0 (upM m).length c0] w fun e w' => ∃ v0_ : Value, e = .returned (.tuple #[v0_, .bool (invW m).2]) ∧ Kd.S (Kd.slice 3 (Kd.int .i64)) 23 w' w.heap.size (fun _ => True) v0_ (invW m).1 ∧ Below w.heap.size w w' := by
 have HM := Aside0.mk (show Mat.MB' n m ∧ m.length = n ∧ 1 ≤ n ∧ n ≤ 8 from ⟨hm, hmn, h1, h8⟩)
 have hul : (upM m).length = n := by rw [upM_length, hmn]
 obtain ⟨K1, hk1⟩ := (spec_l2Own_ev (upM m) (by rw [hul]; omega) (fun r hr => by have := (upM_small hm (k := 8) (by omega) (by omega)).2 r hr; omega)).rounds
 obtain ⟨K2, hk2⟩ := (spec_l2Identity_ev n (by omega)).rounds
 rw [idL_up, show (n : Int) = ((upM m).length : Int) from by rw [hul]] at hk2
 have H1 := Aside0.mk hk1
 have H2 := Aside0.mk hk2
 have HR := Aside0.mk hr0
 have HC := Aside0.mk hc0
 have HG := Aside0.mk (show invW m = match gj n 0 m (Mat.idM n) with | none => ([], false) | some s => (upM s, true) from by rw [← hmn, gj_inv]; rfl)
 have n0 : (0 : Int) ≤ (n : Int) := by omega
 have n1 : (n : Int) ≤ 8 := by omega
 clear hk1 hk2 hr0 hc0 hm hmn h1 h8 hul
 go_enter Try.func94, Try.ntmps94
 go_wp2_with fail
 refine (spec_l2Own.calls K1 A0 c0 (upM m) (upM m) w HR.out HC.out H1.out).mono ?_
 rintro e w1 ⟨v1, rfl, hS_, hb_⟩
 obtain ⟨B1, d1, rfl, hE_⟩ := (Env.Env.start (e := 23) (t := 3) w).madeS (by decide) hS_ hb_
 obtain ⟨g1, _, _, hB, _⟩ := hE_.mrow (by decide) (j := 0) rfl (i := 0) (by rw [upM_length, HM.out.2.1]; have := HM.out.2.2.1; omega)
 subst hB
 have ENV := Aside0.mk hE_
 clear hE_ hS_ hb_
 go_wp2_with fail
 refine (spec_l2Identity.calls K2 ((upM m).length : Int) (upM (Mat.idM n)) _ H2.out).mono ?_
 rintro e w2 ⟨v2, rfl, hS_, hb_⟩
 obtain ⟨B2, d2, rfl, hE_⟩ := ENV.out.madeS (by decide) hS_ hb_
 obtain ⟨g2, _, _, hB, _⟩ := hE_.mrow (by decide) (j := 0) rfl (i := 0) (by rw [upM_length, Mat.idM_length]; have := HM.out.2.2.1; omega)
 subst hB
 rw [upM_length, upM_length, Mat.idM_length, HM.out.2.1] at hE_
 rw [upM_length, upM_length, Mat.idM_length, HM.out.2.1]
 replace ENV := Aside0.mk hE_
 clear hE_ hS_ hb_
 go_wp2
 go_loopg [14] n (fun gg s14 wr => ∃ (i : Nat) (M1 S1 : List (List Nat)), i ≤ n ∧ n - i ≤ gg ∧ s14 = .int .i64 i ∧ Aside0 (gj (n - i) i M1 S1 = gj n 0 m (Mat.idM n)) ∧ Aside0 (Mat.MB' n M1 ∧ M1.length = n ∧ Mat.MB' n S1 ∧ S1.length = n) ∧ Aside0 (Env.Env 23 3 w wr [(.slice (some ⟨g2, 0, none⟩) n d2, .mat (upM S1)), (.slice (some ⟨g1, 0, none⟩) n d1, .mat (upM M1))]))
 case atStart => exact ⟨0, m, Mat.idM n, Nat.zero_le _, by omega, rfl, ⟨rfl⟩, ⟨HM.out.1, HM.out.2.1, Mat.idM_MB n, Mat.idM_length n⟩, ENV⟩
 case round =>
  clear ENV
  obtain ⟨i, M1, S1, hi', hgi, rfl, HJ, HB, ENV⟩ := hrel
  have z0 : (0 : Int) ≤ (i : Int) := by omega
  have z1 : (i : Int) ≤ 100 := by omega
  by_cases hlt : i < n
  ·have p1 : ((i : Int) < (n : Int)) = True := eq_true (by omega)
   have hcl := l2clear_e ENV.out 1 0 (by decide) (g1 := g1) (c1 := d1) (g2 := g2) (c2 := d2) (n := n) (m := M1) (s := S1) rfl rfl HB.out.1 HB.out.2.2.1 HB.out.2.1 HB.out.2.2.2 (by have := HM.out; omega) (by have := HM.out; omega) (by have := HM.out; omega) (r := i) (k := i) hlt hlt (by have := HM.out; omega)
   cases hpv : Mat.pv i (M1.drop i) with
   | none =>
    rw [hpv] at hcl
    have HCL := Aside0.mk hcl
    have HI := Aside0.mk (show invW m = ([], false) from by
     rw [HG.out, ← HJ.out, show n - i = (n - (i + 1)) + 1 by omega]
     unfold gj
     rw [hpv])
    clear hcl hpv
    go_wp2_with fail
    refine HCL.out.mono ?_
    rintro e w3 ⟨he, hE⟩
    replace he : e = .returned (.bool false) := he
    subst he
    have HBE := Aside0.mk hE.1
    clear hE HCL
    go_wp2
    go_ret2
    rw [HI.out]
    exact ⟨_, rfl, Kd.S_nil _ _ _ _ _, HBE.out⟩
   | some q =>
    rw [hpv] at hcl
    have HCL := Aside0.mk hcl
    have HI := Aside0.mk (show gj (n - (i + 1)) (i + 1) (clr1 M1 i i) (clr2 M1 S1 i i) = gj n 0 m (Mat.idM n) from by
     rw [← HJ.out, show n - i = (n - (i + 1)) + 1 by omega]
     conv => rhs; unfold gj
     rw [hpv])
    clear hcl hpv
    go_wp2_with fail
    refine HCL.out.mono ?_
    rintro e w3 ⟨he, hE⟩
    replace he : e = .returned (.bool true) := he
    subst he
    have HEE := Aside0.mk hE
    clear hE HCL
    go_wp2
    go_roundg (n - (i + 1))
    case measure => omega
    case rel => exact ⟨i + 1, clr1 M1 i i, clr2 M1 S1 i i, by omega, by omega, by go_num, HI, ⟨clr1_MB HB.out.1 _ _ (by rw [HB.out.2.1]; exact hlt), by rw [clr1_length]; exact HB.out.2.1, clr2_MB HB.out.1 HB.out.2.2.1 (by rw [HB.out.2.1, HB.out.2.2.2]) _ _ (by rw [HB.out.2.1]; exact hlt), by rw [clr2_length (by rw [HB.out.2.1, HB.out.2.2.2]), HB.out.2.1]⟩, HEE⟩
  ·have p1 : ((i : Int) < (n : Int)) = False := eq_false (by omega)
   have HI := Aside0.mk (show invW m = (upM S1, true) from by
    rw [HG.out, ← HJ.out, show n - i = 0 by omega]
    rfl)
   obtain ⟨lo_, hi_, hlo_, _, ⟨vs_, hM_⟩, _⟩ := ENV.out.turn 0 rfl
   have HS_ := Aside0.mk (Kd.S_mono (ok' := fun _ => True) (Kd.S_lower (hM_.S (by decide)) hlo_) (fun _ _ => trivial))
   have HBE := Aside0.mk ENV.out.1
   clear hM_
   go_wp2
   go_ret2
   rw [HI.out]
   exact ⟨_, rfl, HS_.out, HBE.out⟩
def spec_InvertMatrix.f (l : List (List Int)) : Option (List (List Int) × Bool) := if l.length ≤ 1048576 ∧ (∀ r ∈ l, r.length ≤ 1048576) then some (invV l) else none
set_option maxHeartbeats 4000000 in
theorem spec_InvertMatrix.calls (A0 : Option Addr) (c0 : Nat) (l0 : List (List Int)) (r1 : List (List Int)) (r2 : Bool) (w : World) (hr0 : Kd.C (Kd.slice 3 (Kd.int .i64)) w A0 l0.length l0) (hc0 : l0.length ≤ c0) (h : spec_InvertMatrix.f l0 = some (r1, r2)) :
  Calls Try.prog 23 #[.slice A0 l0.length c0] w fun e w' => ∃ v0_ : Value, e = .returned (.tuple #[v0_, .bool r2]) ∧ Kd.S (Kd.slice 3 (Kd.int .i64)) 23 w' w.heap.size (fun _ => True) v0_ r1 ∧ Below w.heap.size w w' := by
 have HR := Aside0.mk hr0
 have HC := Aside0.mk hc0
 clear hr0 hc0
 unfold spec_InvertMatrix.f at h
 split at h
 rotate_left
 ·cases h
 rename_i hsz
 have H0 := Option.some.inj h
 clear h
 obtain ⟨K, hk⟩ := (spec_GoodMatrix_ev l0 (by omega) (fun r h => by have := hsz.2 r h; omega)).rounds
 clear hsz
 cases hg : goodM l0 with
 | false =>
  rw [hg] at hk
  have H1 := Aside0.mk hk
  unfold invV at H0
  rw [hg] at H0
  injection H0 with e1 e2
  subst e1 e2
  clear hk hg
  go_enter Try.func23, Try.ntmps23
  go_wp2_with (go_at_call 93; refine (spec_GoodMatrix.calls K A0 c0 l0 false _ HR.out HC.out H1.out).mono ?_; rintro e w' ⟨rfl, ⟨nd1, rfl⟩⟩)
  go_ret2
  exact ⟨_, rfl, Kd.S_nil _ _ _ _ _, by repeat (first | exact Below.refl _ _ | apply pw_below_drewN)⟩
 | true =>
  rw [hg] at hk
  have H1 := Aside0.mk hk
  obtain ⟨c, m, rfl, hm, e1, e2, h1, h2, h3, h4⟩ := goodM_up hg
  have hlen : 0 < (upM m).length := by rw [upM_length]; omega
  obtain ⟨ad, A1, c1, rfl, hx, hl1, hi1⟩ := Mx.rows_at HR.out 0 hlen hlen
  have e0 : (upM m).getD 0 [] = (upM m)[0] := by rw [List.getD_eq_getElem?_getD, List.getElem?_eq_getElem hlen]; rfl
  rw [Addr.add_zero'] at hx
  have e3 : (upM m)[0].length = c := by rw [← e0, e1]
  generalize (upM m)[0] = r0 at hx hl1 hi1 e3
  have p0 := eq_true hlen
  have p1 : (0 < ((upM m).length : Int)) = True := eq_true (by omega)
  by_cases hq : m.length = c
  ·have hv : invV (upM m) = invW m := by
    unfold invV invW
    rw [hg, e1, upM_length, decide_eq_true hq, dnM_upM]
    rfl
   rw [hv] at H0
   have H0' := Aside0.mk H0
   have q1 : (((upM m).length : Int) != (r0.length : Int)) = false := by rw [upM_length, e3, hq]; simp
   have q2 : ((upM m).length != r0.length) = false := by rw [upM_length, e3, hq]; simp
   have HI := Aside0.mk (fun w' (hC : Kd.C (Kd.slice 3 (Kd.int .i64)) w' (some ad) (upM m).length (upM m)) => l2invert_e (some ad) c0 c m w' hm hq h3 h4 hC HC.out)
   clear H0 hv hk hg hm e0 e1 e2 e3 h1 h2 h3 h4 hl1 hi1 hq hlen
   go_enter Try.func23, Try.ntmps23
   go_wp2_with (first | (go_at_call 93; refine (spec_GoodMatrix.calls K (some ad) c0 (upM m) true _ HR.out HC.out H1.out).mono ?_; rintro e w' ⟨rfl, ⟨nd1, rfl⟩⟩) | (go_at_call 94; refine (HI.out _ (Kd.C_drewN HR.out _)).mono ?_; rintro e w' ⟨v2, rfl, hS_, hb_⟩; have HS_ := Aside0.mk hS_; have HB_ := Aside0.mk hb_; clear hS_ hb_))
   go_ret2
   have e9 := H0'.out
   rw [e9] at HS_ 
   rw [e9]
   exact ⟨_, rfl, HS_.out, below_step (pw_below_drewN (Below.refl _ _) _) HB_.out⟩
  ·have hv : invV (upM m) = ([], false) := by
    unfold invV
    rw [hg, e1, upM_length, decide_eq_false hq]
    rfl
   rw [hv] at H0
   injection H0 with e8 e9
   subst e8 e9
   have q1 : (((upM m).length : Int) != (r0.length : Int)) = true := by rw [upM_length, e3, bne_iff_ne]; omega
   have q2 : ((upM m).length != r0.length) = true := by rw [upM_length, e3, bne_iff_ne]; exact hq
   clear hv hk hg hm e0 e1 e2 e3 h1 h2 h3 h4 hl1 hi1 hq hlen
   go_enter Try.func23, Try.ntmps23
   go_wp2_with (go_at_call 93; refine (spec_GoodMatrix.calls K (some ad) c0 (upM m) true _ HR.out HC.out H1.out).mono ?_; rintro e w' ⟨rfl, ⟨nd1, rfl⟩⟩)
   go_ret2
   exact ⟨_, rfl, Kd.S_nil _ _ _ _ _, by repeat (first | exact Below.refl _ _ | apply pw_below_drewN)⟩
theorem spec_InvertMatrix_ev (l : List (List Int)) (h : l.length ≤ 1048576) (hr : ∀ r ∈ l, r.length ≤ 1048576) : spec_InvertMatrix.f l = some (invV l) := if_pos ⟨h, hr⟩

def spec_SolveBy.f (l : List (List Int)) (v : List Int) : Option (List Int × Bool) := if l.length ≤ 1048576 ∧ (∀ r ∈ l, r.length ≤ 1048576) ∧ v.length ≤ 1048576 then some (solveV l v) else none
theorem spec_SolveBy_ev (l : List (List Int)) (v : List Int) (h : l.length ≤ 1048576) (hr : ∀ r ∈ l, r.length ≤ 1048576) (hv : v.length ≤ 1048576) : spec_SolveBy.f l v = some (solveV l v) := if_pos ⟨h, hr, hv⟩
set_option maxHeartbeats 4000000 in
set_option maxRecDepth 100000 in
theorem spec_SolveBy.calls (A0 : Option Addr) (c0 : Nat) (l0 : List (List Int)) (A1 : Option Addr) (c1 : Nat) (l1 : List Int) (r1 : List Int) (r2 : Bool) (w : World) (hr0 : Kd.C (Kd.slice 3 (Kd.int .i64)) w A0 l0.length l0) (hc0 : l0.length ≤ c0) (hr1 : (Kd.int .i64).C w A1 l1.length l1) (hc1 : l1.length ≤ c1) (h : spec_SolveBy.f l0 l1 = some (r1, r2)) :
  Calls Try.prog 12 #[.slice A0 l0.length c0, .slice A1 l1.length c1] w fun e w' => ∃ v0_ : Value, e = .returned (.tuple #[v0_, .bool r2]) ∧ (Kd.int .i64).R 3 w' w.heap.size (fun _ => True) v0_ r1 ∧ Below w.heap.size w w' := by
 have HR := Aside0.mk hr0
 have HC := Aside0.mk hc0
 have HR1 := Aside0.mk hr1
 have HC1 := Aside0.mk hc1
 clear hr0 hc0 hr1 hc1
 unfold spec_SolveBy.f at h
 split at h
 rotate_left
 ·cases h
 rename_i hsz
 have H0 := Option.some.inj h
 clear h
 have hinv := spec_InvertMatrix.calls A0 c0 l0 (invV l0).1 (invV l0).2 w HR.out HC.out (spec_InvertMatrix_ev l0 hsz.1 hsz.2.1)
 obtain ⟨K6, h6⟩ := (spec_l1All_ev l1 (by have := hsz.2.2; omega)).rounds
 rw [solveV_inv] at H0
 cases g1 : (invV l0).2 with
 | false =>
  rw [g1] at H0 hinv
  injection H0 with e1 e2
  subst e1 e2
  have HI := Aside0.mk hinv
  clear hinv h6 g1 hsz
  go_enter Try.func12, Try.ntmps12
  go_wp2_with fail
  refine HI.out.mono ?_
  rintro e w1 ⟨v1, rfl, hS_, hb_⟩
  have HB := Aside0.mk hb_
  clear hS_ hb_ HI
  go_wp2
  go_ret2
  exact ⟨_, rfl, Kd.R_nil _ _ _ _ _, HB.out⟩
 | true =>
  obtain ⟨c, m, s, rfl, hm, hmc, hc1', hc8, hi, hiv, hs, hsc⟩ := invV_true g1
  rw [g1] at H0
  rw [hiv] at H0 hinv
  have HI := Aside0.mk hinv
  have HMS := Aside0.mk (show m.length = c ∧ 1 ≤ c ∧ c ≤ 8 ∧ Mat.MB' c s ∧ s.length = c from ⟨hmc, hc1', hc8, hs, hsc⟩)
  clear hinv hsz g1 hm hmc hc1' hc8 hi hiv hs hsc
  by_cases g2 : l1.length = (upM m).length
  rotate_left
  ·rw [decide_eq_false g2] at H0
   injection H0 with e1 e2
   subst e1 e2
   have q1 : ((l1.length : Int) != ((upM m).length : Int)) = true := by rw [bne_iff_ne]; omega
   have q2 : (l1.length != (upM m).length) = true := by rw [bne_iff_ne]; exact g2
   clear h6 g2
   go_enter Try.func12, Try.ntmps12
   go_wp2_with fail
   refine HI.out.mono ?_
   rintro e w1 ⟨v1, rfl, hS_, hb_⟩
   have HB := Aside0.mk hb_
   clear hS_ hb_ HI
   go_wp2
   go_ret2
   exact ⟨_, rfl, Kd.R_nil _ _ _ _ _, HB.out⟩
  rw [decide_eq_true g2] at H0
  have q1 : ((l1.length : Int) != ((upM m).length : Int)) = false := by rw [g2]; simp
  have q2 : (l1.length != (upM m).length) = false := by rw [g2]; simp
  cases g3 : l1.all isB with
  | false =>
   rw [g3] at H0 h6
   injection H0 with e1 e2
   subst e1 e2
   have H6 := Aside0.mk h6
   clear h6 g2 g3
   go_enter Try.func12, Try.ntmps12
   go_wp2_with fail
   refine HI.out.mono ?_
   rintro e w1 ⟨v1, rfl, hS_, hb_⟩
   have HB := Aside0.mk hb_
   clear hS_ hb_ HI
   go_wp2_with (go_at_call 86; refine (spec_l1All.calls K6 A1 c1 l1 false _ (Kd.C_below HR1.out HB.out) HC1.out H6.out).mono ?_; rintro e w' ⟨rfl, ⟨nd3, rfl⟩⟩)
   go_ret2
   exact ⟨_, rfl, Kd.R_nil _ _ _ _ _, pw_below_drewN HB.out _⟩
  | true =>
   rw [g3] at H0 h6
   have H6 := Aside0.mk h6
   obtain ⟨y, rfl, hy⟩ := allB_up g3
   rw [dn_up, dnM_upM] at H0
   injection H0 with e1 e2
   subst e1 e2
   have hyl : y.length = c := by rw [Poly.up_length, upM_length] at g2; have := HMS.out.1; omega
   obtain ⟨K7, h7⟩ := (spec_l2Column_ev c s y HMS.out.2.2.2.1 hy hyl (by have := HMS.out; omega) (by have := HMS.out; omega)).rounds
   have H7 := Aside0.mk h7
   clear h6 g2 g3 h7 hy hyl
   go_enter Try.func12, Try.ntmps12
   go_wp2_with fail
   refine HI.out.mono ?_
   rintro e w1 ⟨v1, rfl, hS_, hb_⟩
   obtain ⟨B1, d1, rfl, hE_⟩ := (Env.Env.start (e := 23) (t := 3) w).madeS (by decide) hS_ hb_
   have HB := Aside0.mk hb_
   have HE := Aside0.mk hE_
   clear hS_ hb_ hE_ HI
   go_wp2_with (go_at_call 86; refine (spec_l1All.calls K6 A1 c1 (Poly.up y) true _ (Kd.C_below HR1.out HB.out) HC1.out H6.out).mono ?_; rintro e w' ⟨rfl, ⟨nd3, rfl⟩⟩)
   refine (spec_l2Column.calls K7 B1 d1 (upM s) A1 c1 (Poly.up y) (Poly.up (Mat.colM s y)) _ ((HE.out.drewN nd3).C (by decide) 0 rfl) (HE.out.cap (by decide) 0 rfl) ((HE.out.drewN nd3).camer HR1.out) HC1.out H7.out).mono ?_
   rintro e w4 ⟨v4, rfl, hR_, hb_⟩
   have HR4 := Aside0.mk (Kd.R_lower hR_ (HE.out.drewN nd3).1.size)
   have HB4 := Aside0.mk (below_step (HE.out.drewN nd3).1 hb_)
   clear hR_ hb_
   go_wp2
   go_ret2
   exact ⟨_, rfl, HR4.out, HB4.out⟩

set_option maxHeartbeats 4000000 in
set_option maxRecDepth 100000 in
theorem l4Fix_e (A0 : Option Addr) (c0 : Nat) (m : List Nat) (A1 : Option Addr) (c1 : Nat) (ps : List Nat) (A2 : Option Addr) (c2 : Nat) (s : List Nat) (w : World) (hm : Poly.AllB m) (hml : m.length ≤ 24) (h1 : 1 ≤ ps.length) (h3 : ps.length ≤ 3) (hps : ∀ p ∈ ps, p < m.length) (hs : Poly.AllB s) (hsl : ps.length ≤ s.length) (hs6 : s.length ≤ 6)
  (hr0 : (Kd.int .i64).C w A0 (Poly.up m).length (Poly.up m)) (hc0 : (Poly.up m).length ≤ c0) (hr1 : (Kd.int .i64).C w A1 (Poly.up ps).length (Poly.up ps)) (hc1 : (Poly.up ps).length ≤ c1) (hr2 : (Kd.int .i64).C w A2 (Poly.up s).length (Poly.up s)) (hc2 : (Poly.up s).length ≤ c2) :
  Calls Try.prog 156 #[.slice A0 (Poly.up m).length c0, .slice A1 (Poly.up ps).length c1, .slice A2 (Poly.up s).length c2] w fun e w' => ∃ v0_ : Value, e = .returned (.tuple #[v0_, .bool (fixW m ps s).2]) ∧ (Kd.int .i64).R 3 w' w.heap.size (fun _ => True) v0_ (fixW m ps s).1 ∧ Below w.heap.size w w' := by
 have HR0 := Aside0.mk hr0
 have HC0 := Aside0.mk hc0
 have HR1 := Aside0.mk hr1
 have HC1 := Aside0.mk hc1
 have HR2 := Aside0.mk hr2
 have HC2 := Aside0.mk hc2
 have HM := Aside0.mk (show Poly.AllB m ∧ m.length ≤ 24 ∧ (∀ p ∈ ps, p < m.length) from ⟨hm, hml, hps⟩)
 have HP := Aside0.mk (show 1 ≤ ps.length ∧ ps.length ≤ 3 from ⟨h1, h3⟩)
 have HS := Aside0.mk (show Poly.AllB s ∧ ps.length ≤ s.length ∧ s.length ≤ 6 from ⟨hs, hsl, hs6⟩)
 have HUP := Aside0.mk (Poly.up_length ps)
 have HB := Aside0.mk (Below.refl w.heap.size w)
 have HS0 := Aside0.mk (Kd.S_nil (Kd.slice 3 (Kd.int .i64)) 23 w w.heap.size (fun _ => True))
 have HPB := Aside0.mk (fun j => show ps.getD j 0 < 25 from by
  by_cases hj : j < ps.length
  ·have := hps _ (List.getElem_mem hj)
   rw [List.getD_eq_getElem?_getD, List.getElem?_eq_getElem hj]
   show ps[j] < 25
   omega
  ·rw [Pev.getD_out (by omega)]; decide)
 clear hr0 hc0 hr1 hc1 hr2 hc2 hm hml h1 h3 hps hs hsl hs6
 go_enter Try.func156, Try.ntmps156
 go_wp2
 go_loopg [8, 20] (Poly.up ps).length (fun gg v8 v20 wr => ∃ k : Nat, k ≤ (Poly.up ps).length ∧ (Poly.up ps).length - k ≤ gg ∧ v20 = .int .i64 k ∧ Aside0 ((Kd.slice 3 (Kd.int .i64)).S 23 wr w.heap.size (fun _ => True) v8 (upM ((List.range k).map (Dec.vrow ps)))) ∧ Aside0 (Below w.heap.size w wr))
 case atStart => exact ⟨0, Nat.zero_le _, by omega, rfl, HS0, HB⟩
 case round =>
  clear HB HS0
  obtain ⟨k, hk', hgk, rfl, HSS, HB⟩ := hrel
  have z0 : (0 : Int) ≤ (k : Int) := by omega
  have z1 : (k : Int) ≤ 100 := by have := HP.out; have := HUP.out; omega
  by_cases hlt : k < (Poly.up ps).length
  ·have j1 : ((k : Int) < ((Poly.up ps).length : Int)) = True := eq_true (by omega)
   have j2 : (k < (Poly.up ps).length) = True := eq_true hlt
   obtain ⟨wo, hwo⟩ : ∃ x, x = wr := ⟨_, rfl⟩
   subst hwo
   have HRN := Aside0.mk (Kd.R_nil (Kd.int .i64) 3 wo wo.heap.size (fun _ => True))
   have HBR := Aside0.mk (Below.refl wo.heap.size wo)
   go_wp2
   go_loopg [10, 25] (Poly.up ps).length (fun gg v10 v25 wq => ∃ j : Nat, j ≤ (Poly.up ps).length ∧ (Poly.up ps).length - j ≤ gg ∧ v25 = .int .i64 j ∧ Aside0 ((Kd.int .i64).R 3 wq wo.heap.size (fun _ => True) v10 (Poly.up ((Dec.vrow ps k).take j))) ∧ Aside0 (Below wo.heap.size wo wq))
   case atStart => exact ⟨0, Nat.zero_le _, by omega, rfl, HRN, HBR⟩
   case round =>
    clear HRN HBR
    obtain ⟨j, hj', hgj, rfl, HRR, HBR⟩ := hrel
    have y0 : (0 : Int) ≤ (j : Int) := by omega
    have y1 : (j : Int) ≤ 100 := by have := HP.out; have := HUP.out; omega
    by_cases hjn : j < (Poly.up ps).length
    ·have j3 : ((j : Int) < ((Poly.up ps).length : Int)) = True := eq_true (by omega)
     have j4 : (j < (Poly.up ps).length) = True := eq_true hjn
     obtain ⟨ad, eA, hx⟩ := Kd.at_int HR1.out (j : Int) y0 (by omega)
     cases eA
     rw [Poly.rd_up, Int.toNat_natCast] at hx
     have hx5 := pw_cell_below (below_step HB.out HBR.out) hx
     have hpb := HPB.out j
     have hvs := vrow_snoc ps k (j := j) (by have := HUP.out; omega)
     have hkk : k ≤ 3 := by have := HP.out; have := HUP.out; omega
     have hz : ps.getD j 0 * k ≤ 25 * 3 := Nat.mul_le_mul (by omega) hkk
     have hzi : (((ps.getD j 0 * k : Nat) : Int)) = ((ps.getD j 0 : Nat) : Int) * (k : Int) := Int.natCast_mul _ _
     obtain ⟨K2, h2⟩ := (spec_l1Pow_ev 2 (ps.getD j 0 * k) (by decide) (by omega)).rounds
     generalize ps.getD j 0 * k = z at hz hzi h2 hvs
     generalize ps.getD j 0 = p at hx5 hpb hzi
     have hw2 : wrap64 ((p : Int) * (k : Int)) = (z : Int) := by rw [← hzi]; exact wrap_id (by omega) (by omega)
     have hw1 : IntKind.i64.wrap ((p : Int) * (k : Int)) = (z : Int) := (i64_w _).trans hw2
     have HVS := Aside0.mk hvs
     have HK2 := Aside0.mk h2
     have HSZ := Aside0.mk (show (Poly.up ((Dec.vrow ps k).take j)).length ≤ 8 from by rw [Poly.up_length, List.length_take, Dec.vrow_length]; have := HP.out; omega)
     clear hx hz hzi h2 hvs hpb hkk
     generalize Gf.pw 2 z = q at HK2 HVS
     obtain ⟨A8, c8, rfl⟩ := Kd.R_slice HRR.out
     go_wp2_with (first | (go_at_call 199; refine (spec_l1Pow.calls K2 2 (z : Int) (q : Int) _ HK2.out).mono ?_; rintro e w4 ⟨rfl, hd4⟩; have HB4 := Aside0.mk hd4.below; clear hd4) | ((with_reducible refine gate_builtin (b := .append) (xs := #[.tmp 29, .tmp 34]) rfl ?_); at_builtin; refine Kd.R_append (Kd.int .i64) (w0 := wo) wo.heap.size rfl (.tmp 29) (.tmp 34) 23 3 (.int .i64 0) 8 rfl Try.underlying23 infoJ rfl (by decide) (by decide) (.slice A8 (Poly.up ((Dec.vrow ps k).take j)).length c8) (Poly.up ((Dec.vrow ps k).take j)) (q : Int) [.int .i64 (q : Int)] (fun _ => True) (fun _ => False) rfl rfl ?aP (fun _ hk => hk.elim) ?aF ?aO ?aB ?aS ?aL ?_; (case aP => exact rfl); (case aB => exact below_step HBR.out HB4.out); (case aF => exact (fun _ _ => trivial)); (case aO => exact Kd.R_below HRR.out HB4.out); (case aS => exact (below_step HBR.out HB4.out).size); (case aL => clear hw1 hw2; have := HSZ.out; omega); intro v159 w12 ho hb hg hat; rw [HVS.out] at ho; have HO9 := Aside0.mk ho; have HB9 := Aside0.mk hb; clear ho hb hg hat))
     clear hw1 hw2
     go_roundg ((Poly.up ps).length - (j + 1))
     case measure => omega
     case rel => exact ⟨j + 1, by omega, by omega, by go_num, HO9, HB9⟩
    ·have j3 : ((j : Int) < ((Poly.up ps).length : Int)) = False := eq_false (by omega)
     have j4 : (j < (Poly.up ps).length) = False := eq_false hjn
     have hR := HRR.out
     rw [List.take_of_length_le (by rw [Dec.vrow_length]; have := HUP.out; omega)] at hR
     obtain ⟨A9, c9, rfl⟩ := Kd.R_slice hR
     have HR3 := Aside0.mk hR
     have HSL := Aside0.mk (show (upM ((List.range k).map (Dec.vrow ps))).length ≤ 1000000 by rw [upM_length, List.length_map, List.length_range]; omega)
     have HTS := Aside0.mk (vmTo_succ ps k)
     clear hR HRR
     go_wp2_with ((with_reducible refine gate_builtin (b := .append) (xs := #[.tmp 37, .tmp 39]) rfl ?_); at_builtin; refine app_event (w0 := w) w.heap.size rfl (.tmp 37) (.tmp 39) rfl _ (upM ((List.range k).map (Dec.vrow ps))) A9 c9 (Poly.up (Dec.vrow ps k)) rfl rfl HSS.out HBR.out HR3.out ?aB ?aS HSL.out ?_; (case aB => exact below_step HB.out HBR.out); (case aS => exact HB.out.size); intro A10 c10 w2 hS2 hB2 HK2; rw [HTS.out] at hS2; have HS2 := Aside0.mk hS2; have HB2 := Aside0.mk hB2; clear hS2 hB2)
     go_roundg ((Poly.up ps).length - (k + 1))
     case measure => omega
     case rel => exact ⟨k + 1, by omega, by omega, by go_num, HS2, HB2⟩
  ·have j1 : ((k : Int) < ((Poly.up ps).length : Int)) = False := eq_false (by omega)
   have j2 : (k < (Poly.up ps).length) = False := eq_false hlt
   have hS := HSS.out
   rw [show (List.range k).map (Dec.vrow ps) = Dec.vm ps from by unfold Dec.vm; rw [show k = ps.length by have := HUP.out; omega]] at hS
   obtain ⟨A5, c5, rfl, hE5⟩ := (Env.Env.start (e := 23) (t := 3) w).madeS (by decide) hS HB.out
   have hT := Kd.C_take (Kd.C_below HR2.out HB.out) (m := (Poly.up ps).length) (by rw [Poly.up_length, Poly.up_length]; exact HS.out.2.1)
   rw [Poly.up_take, HUP.out] at hT
   have hTl : (Poly.up (s.take ps.length)).length = ps.length := by rw [Poly.up_length, List.length_take]; have := HS.out; omega
   have hsv := spec_SolveBy.calls A5 c5 (upM (Dec.vm ps)) A2 c2 (Poly.up (s.take ps.length)) (chgW ps s).1 (chgW ps s).2 wr (hE5.C (by decide) 0 rfl) (hE5.cap (by decide) 0 rfl) hT (by rw [hTl]; have := HS.out; have := HC2.out; rw [Poly.up_length] at this; omega)
    (by rw [spec_SolveBy_ev _ _ (by rw [upM_length, Dec.vm_length]; have := HP.out; omega) (fun r hr => by
      obtain ⟨x, hx, rfl⟩ := List.mem_map.1 hr
      rw [Poly.up_length, ((Dec.vm_MB ps) x hx).1]; have := HP.out; omega) (by rw [hTl]; have := HP.out; omega), solve_chg HP.out.1 (by have := HP.out; omega) HS.out.1 HS.out.2.1])
   simp only [hTl] at hsv
   rw [← HUP.out] at hsv
   have s1 : ((Poly.up ps).length ≤ (Poly.up s).length) = True := eq_true (by rw [Poly.up_length, Poly.up_length]; exact HS.out.2.1)
   have s2 : (((Poly.up ps).length : Int) ≤ ((Poly.up s).length : Int)) = True := eq_true (by have h9 := of_eq_true s1; omega)
   have s3 : ((Poly.up ps).length ≤ c2) = True := eq_true (by have h9 := of_eq_true s1; have := HC2.out; omega)
   clear hS hE5 hT hTl HSS HPB
   rcases fixW_cases m ps s with ⟨_, hf, hg⟩ | ⟨v, _, hvl, hvb, hf, hg⟩
   ·rw [hg] at hsv
    have HSV := Aside0.mk hsv
    have HF := Aside0.mk hf
    clear hsv hf hg
    go_wp2_with fail
    refine HSV.out.mono ?_
    rintro e w5 ⟨v5, rfl, hR5, hb5⟩
    have HB5 := Aside0.mk (below_step HB.out hb5)
    clear hR5 hb5 HSV
    go_wp2
    go_ret2
    rw [HF.out]
    exact ⟨_, rfl, Kd.R_nil _ _ _ _ _, HB5.out⟩
   ·rw [hg] at hsv
    have HSV := Aside0.mk hsv
    have HF := Aside0.mk hf
    have HVB := Aside0.mk (show v.length = ps.length ∧ Poly.AllB v from ⟨hvl, hvb⟩)
    clear hsv hf hg hvl hvb
    go_wp2_with fail
    refine HSV.out.mono ?_
    rintro e w5 ⟨v5, rfl, hR5, hb5⟩
    obtain ⟨A6, c6, rfl, hc6, hC6⟩ := Kd.R_reads hR5
    have HB5 := Aside0.mk (below_step HB.out hb5)
    have HV6 := Aside0.mk hC6
    have HVL := Aside0.mk (show (Poly.up v).length = (Poly.up ps).length from by rw [Poly.up_length, Poly.up_length]; exact HVB.out.1)
    clear hR5 hb5 HSV hc6 hC6
    have HB6 := Aside0.mk (Below.refl w5.heap.size w5)
    go_wp2_with (first | ((with_reducible refine gate_dst (N := 53) rfl ?_); refine Kd.R_lit (Kd.int .i64) _ 3 ?hg (N := 53) ?hd (xs := ([] : List Int)) (inner := []) (ok := fun _ => True) (okp := fun _ => True) ?hr ?hp (fun _ hk => hk) trivial (Below.refl _ _) (Nat.le_refl _) (by simp) ?_; (case hd => rfl); (case hg => rfl); (case hr => first | (go_simp; done) | (go_simp; rfl)); (case hp => exact (Reps.none _ _)); intro v20 w20 ho20 hb20 _ _; have HBL0 := Aside0.mk hb20; have HSL0 := Aside0.mk ho20; clear ho20 hb20) | ((with_reducible refine gate_builtin (b := .append) (xs := #[.tmp 53, .tmp 54]) rfl ?_); at_builtin; refine Kd.R_append_rows (Kd.int .i64) (w0 := w5) w5.heap.size rfl (.tmp 53) (.tmp 54) 23 3 (.int .i64 0) 8 rfl Try.underlying23 infoJ rfl (by decide) (by omega) v20 ([] : List Int) (Poly.up m) _ _ _ (fun _ => True) (fun _ => False) rfl rfl ?aO ?aR (fun _ _ h => h) (fun _ h => h.elim) ?aF ?aB ?aS ?aL ?_; (case aR => exact Kd.C_below HR0.out (below_step HB5.out HBL0.out)); (case aB => exact HBL0.out); (case aF => exact (fun _ _ => trivial)); (case aO => exact HSL0.out); (case aS => exact HBL0.out.size); (case aL => have h1 := HM.out.2.1; show (0 + (Poly.up m).length) * 8 ≤ 140737488355328; rw [Poly.up_length]; omega); intro v21 w21 ho21 hb21 hg21 hat21; rw [List.nil_append] at ho21; have HO := Aside0.mk ho21; have HBM := Aside0.mk hb21; clear ho21 hb21 hg21 hat21 HBL0 HSL0; obtain ⟨g, cg, eg, hg0, _, _, _⟩ := Kd.R_form HO.out (by rw [Poly.up_length]; have h1 := HP.out.1; have h2 := HM.out.2.2 _ (List.getElem_mem (show 0 < ps.length by omega)); omega); subst eg))
    go_loopg [58] (Poly.up ps).length (fun gg v58 wq => ∃ i : Nat, i ≤ (Poly.up ps).length ∧ (Poly.up ps).length - i ≤ gg ∧ v58 = .int .i64 i ∧ Aside0 ((Kd.int .i64).R 3 wq w5.heap.size (fun _ => True) (.slice (some ⟨g, 0, none⟩) (Poly.up m).length cg) (Poly.up (Dec.fixL m (ps.take i) (v.take i)))) ∧ Aside0 (Below w5.heap.size w5 wq))
    case atStart => exact ⟨0, Nat.zero_le _, by omega, rfl, (by rw [Dec.fixL_zero]; exact HO), HBM⟩
    case round =>
     clear HO HBM
     obtain ⟨i, hi', hgi, rfl, HRR, HBR⟩ := hrel
     have y0 : (0 : Int) ≤ (i : Int) := by omega
     have y1 : (i : Int) ≤ 100 := by have := HP.out; have := HUP.out; omega
     by_cases hin : i < (Poly.up ps).length
     ·have j3 : ((i : Int) < ((Poly.up ps).length : Int)) = True := eq_true (by omega)
      have j4 : (i < (Poly.up ps).length) = True := eq_true hin
      have j5 : ((i : Int) < ((Poly.up v).length : Int)) = True := eq_true (by have := HVL.out; omega)
      have j6 : (i < (Poly.up v).length) = True := eq_true (by have := HVL.out; omega)
      obtain ⟨ad, eA, hx⟩ := Kd.at_int HR1.out (i : Int) y0 (by omega)
      cases eA
      rw [Poly.rd_up, Int.toNat_natCast] at hx
      have hx1 := pw_cell_below (below_step HB5.out HBR.out) hx
      obtain ⟨ad2, eA2, hy⟩ := Kd.at_int HV6.out (i : Int) y0 (by have := HVL.out; omega)
      cases eA2
      rw [Poly.rd_up, Int.toNat_natCast] at hy
      have hy1 := pw_cell_below HBR.out hy
      have hips : i < ps.length := by have := HUP.out; omega
      have hpm : ps.getD i 0 < m.length := by
       rw [List.getD_eq_getElem?_getD, List.getElem?_eq_getElem hips]
       exact HM.out.2.2 _ (List.getElem_mem hips)
      have hst := Dec.fixL_step m ps v (i := i) HVB.out.1.symm hips
      have hFB : Poly.AllB (Dec.fixL m (ps.take i) (v.take i)) := Dec.fixL_Bs _ (HVB.out.2.take i) HM.out.1
      have hFl : (Dec.fixL m (ps.take i) (v.take i)).length = m.length := Dec.fixL_length _ _ _
      generalize Dec.fixL m (ps.take i) (v.take i) = F at HRR hst hFB hFl
      have hrow : (Poly.up F).set (ps.getD i 0) (Go.bits .xor .i64 ((F.getD (ps.getD i 0) 0 : Nat) : Int) ((v.getD i 0 : Nat) : Int)) = Poly.up (Dec.fixL m (ps.take (i + 1)) (v.take (i + 1))) := by
       rw [xor_up (hFB.get _) (HVB.out.2.get i), Poly.up_set, hst]
      have hc := Kd.R_celln (0 : Int) HRR.out ((ps.getD i 0 : Nat) : Int) (by omega) (by rw [Poly.up_length]; omega)
      have hp := Kd.R_putg HRR.out ((ps.getD i 0 : Nat) : Int) (Go.bits .xor .i64 ((F.getD (ps.getD i 0) 0 : Nat) : Int) ((v.getD i 0 : Nat) : Int))
      rw [Int.toNat_natCast] at hc hp
      rw [hrow] at hp
      have hc1 : wr.cell? ⟨g, ps.getD i 0, none⟩ = some (.int .i64 (rd (Poly.up F) ((ps.getD i 0 : Nat) : Int))) := hc.1
      rw [Poly.rd_up] at hc1
      have hc2 := hc.2
      have HP1 := Aside0.mk hp.1
      have HBS := Aside0.mk (show Below w5.heap.size w5 (wr.setCell ⟨g, ps.getD i 0, none⟩ (.int .i64 (Go.bits .xor .i64 ((F.getD (ps.getD i 0) 0 : Nat) : Int) ((v.getD i 0 : Nat) : Int)))) from below_set HBR.out hg0)
      have hpu : ps.getD i 0 < (Poly.up m).length := by rw [Poly.up_length]; exact hpm
      generalize F.getD (ps.getD i 0) 0 = x at hc1 HP1 HBS
      generalize v.getD i 0 = y at hy1 HP1 HBS
      generalize ps.getD i 0 = p at hx1 hc1 hc2 HP1 HBS hpu
      have j7 : ((p : Int) < ((Poly.up m).length : Int)) = True := eq_true (by omega)
      have j8 : (p < (Poly.up m).length) = True := eq_true hpu
      have j9 : (0 : Int) ≤ (p : Int) := by omega
      clear hx hy hst hFB hFl hrow hc hp hpm hips hpu HRR
      go_wp2_with fail
      go_region
      go_wp2
      go_roundg ((Poly.up ps).length - (i + 1))
      case measure => omega
      case rel => exact ⟨i + 1, by omega, by omega, by go_num, ⟨Kd.R_drew HP1.out⟩, ⟨below_drew HBS.out⟩⟩
     ·have j3 : ((i : Int) < ((Poly.up ps).length : Int)) = False := eq_false (by omega)
      have j4 : (i < (Poly.up ps).length) = False := eq_false hin
      have hR := HRR.out
      rw [List.take_of_length_le (by have := HUP.out; omega), List.take_of_length_le (by have := HVB.out.1; have := HUP.out; omega)] at hR
      have HR9 := Aside0.mk (Kd.R_lower hR HB5.out.size)
      have HB9 := Aside0.mk (below_step HB5.out HBR.out)
      clear hR HRR
      go_wp2
      go_ret2
      rw [HF.out]
      exact ⟨_, rfl, HR9.out, HB9.out⟩

def spec_DecodeWord.f (l : List Int) (a : Int) : Option (List Int × Int × Bool) := if l.length ≤ 1048576 then some (decV l a) else none
theorem spec_DecodeWord_ev (l : List Int) (a : Int) (h : l.length ≤ 1048576) : spec_DecodeWord.f l a = some (decV l a) := if_pos h
set_option maxHeartbeats 4000000 in
set_option maxRecDepth 100000 in
theorem spec_DecodeWord.calls (A0 : Option Addr) (c0 : Nat) (l0 : List Int) (a1 : Int) (r1 : List Int) (r2 : Int) (r3 : Bool) (w : World) (hr0 : (Kd.int .i64).C w A0 l0.length l0) (hc0 : l0.length ≤ c0) (h : spec_DecodeWord.f l0 a1 = some (r1, r2, r3)) :
  Calls Try.prog 80 #[.slice A0 l0.length c0, .int .i64 a1] w fun e w' => ∃ v0_ : Value, e = .returned (.tuple #[v0_, .int .i64 r2, .bool r3]) ∧ (Kd.int .i64).R 3 w' w.heap.size (fun _ => True) v0_ r1 ∧ Below w.heap.size w w' := by
 have HR := Aside0.mk hr0
 have HC := Aside0.mk hc0
 have HB := Aside0.mk (Below.refl w.heap.size w)
 clear hr0 hc0
 unfold spec_DecodeWord.f at h
 split at h
 rotate_left
 ·cases h
 rename_i hsz
 have H0 := Option.some.inj h
 clear h
 obtain ⟨K1, h1⟩ := (spec_l4Word_ev l0 a1 (by omega)).rounds
 cases g1 : isLg l0 a1 with
 | false =>
  rw [decV_no g1] at H0
  injection H0 with e1 e2
  injection e2 with e2 e3
  subst e1 e2 e3
  rw [g1] at h1
  have H1 := Aside0.mk h1
  clear h1 g1 hsz
  go_enter Try.func80, Try.ntmps80
  go_wp2_with (go_at_call 145; refine (spec_l4Word.calls K1 A0 c0 l0 a1 false _ HR.out HC.out H1.out).mono ?_; rintro e w' ⟨rfl, ⟨nd, rfl⟩⟩)
  go_ret3
  exact ⟨_, rfl, Kd.R_nil _ _ _ _ _, pw_below_drewN HB.out _⟩
 | true =>
  rw [g1] at h1
  have H1 := Aside0.mk h1
  obtain ⟨m, n, rfl, rfl, hm, hn1, hn3, hml, hm24⟩ := isLg_up g1
  obtain ⟨K2, h2⟩ := (spec_l4Is_ev m n hm (by omega) hn3).rounds
  rw [synL_syl, zeroL_zer] at h2
  obtain ⟨K3, h3⟩ := (spec_l4Syndromes_ev m n hm (by omega) hn3).rounds
  rw [synL_syl] at h3
  obtain ⟨q1, q2, q3, q4, q5, q6, q7, q8⟩ := dec_parts hm n hn3 hm24
  obtain ⟨K4, h4⟩ := (spec_l4Locator_ev _ q1 (by omega)).rounds
  obtain ⟨K5, h5⟩ := (spec_l4Places_ev _ m.length q3 (by omega) (by omega)).rounds
  have h5 : spec_l4Places.f K5 (Poly.up (Bm.loc (Enc.syl m (2 * n)))) (((Poly.up m).length : Nat) : Int) = some (Poly.up (Dec.plc (Bm.loc (Enc.syl m (2 * n))) m.length)) := by rw [Poly.up_length]; exact h5
  rw [decV_alt g1 rfl rfl rfl] at H0
  have hM24 : (Poly.up m).length ≤ 24 := by rw [Poly.up_length]; exact hm24
  have HFX := Aside0.mk (fun A1 c1 A2 c2 w (k1 : 1 ≤ (Dec.plc (Bm.loc (Enc.syl m (2 * n))) m.length).length) (k3 : (Dec.plc (Bm.loc (Enc.syl m (2 * n))) m.length).length ≤ n) => l4Fix_e A0 c0 m A1 c1 (Dec.plc (Bm.loc (Enc.syl m (2 * n))) m.length) A2 c2 (Enc.syl m (2 * n)) w hm hm24 k1 (by omega) q6 q1 (by omega) (by omega))
  have HIS := Aside0.mk (fun v (k2 : v.length = (Dec.plc (Bm.loc (Enc.syl m (2 * n))) m.length).length) (kb : Poly.AllB v) => (show (∃ K, spec_l4Is.f K (Poly.up (Dec.fixL m (Dec.plc (Bm.loc (Enc.syl m (2 * n))) m.length) v)) (n : Int) = some (Enc.zer (Enc.syl (Dec.fixL m (Dec.plc (Bm.loc (Enc.syl m (2 * n))) m.length) v) (2 * n)))) ∧ (∃ K, spec_l4Unlike.f K (Poly.up (Dec.fixL m (Dec.plc (Bm.loc (Enc.syl m (2 * n))) m.length) v)) (Poly.up m) = some (difL 0 (Poly.up (Dec.fixL m (Dec.plc (Bm.loc (Enc.syl m (2 * n))) m.length) v)) (Poly.up m))) ∧
    ((difL 0 (Poly.up (Dec.fixL m (Dec.plc (Bm.loc (Enc.syl m (2 * n))) m.length) v)) (Poly.up m)).length = (v.filter (· != 0)).length) ∧ (Poly.up (Dec.fixL m (Dec.plc (Bm.loc (Enc.syl m (2 * n))) m.length) v)).length = (Poly.up m).length from by
   have hfl := Dec.fixL_length (Dec.plc (Bm.loc (Enc.syl m (2 * n))) m.length) v m
   have hfb := Dec.fixL_Bs (Dec.plc (Bm.loc (Enc.syl m (2 * n))) m.length) kb hm
   have z1 := (spec_l4Is_ev _ n hfb (by omega) hn3).rounds
   rw [synL_syl, zeroL_zer] at z1
   refine ⟨z1, (spec_l4Unlike_ev _ _ (by rw [Poly.up_length, Poly.up_length, hfl]) (by rw [Poly.up_length]; omega)).rounds, ?_, by rw [Poly.up_length, Poly.up_length, hfl]⟩
   rw [difL_difs _ _ _ hfl, List.length_map, Dec.difs_fix _ _ _ q7 q6 k2]))
  have HCH := Aside0.mk (fixW_cases m (Dec.plc (Bm.loc (Enc.syl m (2 * n))) m.length) (Enc.syl m (2 * n)))
  have HL := Aside0.mk (show (Dec.plc (Bm.loc (Enc.syl m (2 * n))) m.length).length ≤ 24 ∧ (Bm.loc (Enc.syl m (2 * n))).length ≤ 8 ∧ 1 ≤ (Bm.loc (Enc.syl m (2 * n))).length from ⟨q8, q4, q5⟩)
  generalize Dec.plc (Bm.loc (Enc.syl m (2 * n))) m.length = ps at h5 H0 HFX HIS HCH HL
  generalize Bm.loc (Enc.syl m (2 * n)) = c at h4 h5 H0 HL
  have H2 := Aside0.mk h2
  have H3 := Aside0.mk h3
  have H4 := Aside0.mk h4
  have H5 := Aside0.mk h5
  have y0 : (0 : Int) ≤ (n : Int) := by omega
  have y1 : (n : Int) ≤ 3 := by omega
  clear h1 h2 h3 h4 h5 g1 hsz hm hn1 hn3 hml hm24 q1 q2 q3 q4 q5 q6 q7 q8
  generalize Enc.syl m (2 * n) = s at H2 H3 H4 H0 HFX HCH
  cases hz : Enc.zer s with
  | true =>
   rw [hz] at H2 H0
   injection H0 with e1 e2
   injection e2 with e2 e3
   subst e1 e2 e3
   have hM := Aside0.mk hM24
   clear hz hM24
   go_enter Try.func80, Try.ntmps80
   go_wp2_with (go_at_call 145; refine (spec_l4Word.calls K1 A0 c0 (Poly.up m) (n : Int) true _ HR.out HC.out H1.out).mono ?_; rintro e w1 ⟨rfl, hd⟩; have HB1 := Aside0.mk hd.below; clear hd)
   refine (spec_l4Is.calls K2 A0 c0 (Poly.up m) (n : Int) true _ (Kd.C_below HR.out HB1.out) HC.out H2.out).mono ?_
   rintro e w2 ⟨rfl, hb⟩
   have HB2 := Aside0.mk (below_step HB1.out hb)
   clear hb
   go_wp2_with (first | ((with_reducible refine gate_dst (N := 19) rfl ?_); refine Kd.R_lit (Kd.int .i64) _ 3 ?hg (N := 19) ?hd (xs := ([] : List Int)) (inner := []) (ok := fun _ => True) (okp := fun _ => True) ?hr ?hp (fun _ hk => hk) trivial (Below.refl _ _) (Nat.le_refl _) (by simp) ?_; (case hd => rfl); (case hg => rfl); (case hr => first | (go_simp; done) | (go_simp; rfl)); (case hp => exact (Reps.none _ _)); intro v20 w20 ho20 hb20 _ _; have HBL0 := Aside0.mk hb20; have HSL0 := Aside0.mk ho20; clear ho20 hb20) | ((with_reducible refine gate_builtin (b := .append) (xs := #[.tmp 19, .tmp 20]) rfl ?_); at_builtin; refine Kd.R_append_rows (Kd.int .i64) (w0 := w2) w2.heap.size rfl (.tmp 19) (.tmp 20) 23 3 (.int .i64 0) 8 rfl Try.underlying23 infoJ rfl (by decide) (by omega) v20 ([] : List Int) (Poly.up m) _ _ _ (fun _ => True) (fun _ => False) rfl rfl ?aO ?aR (fun _ _ h => h) (fun _ h => h.elim) ?aF ?aB ?aS ?aL ?_; (case aR => exact Kd.C_below HR.out (below_step HB2.out HBL0.out)); (case aB => exact HBL0.out); (case aF => exact (fun _ _ => trivial)); (case aO => exact HSL0.out); (case aS => exact HBL0.out.size); (case aL => have h1 := hM.out; show (0 + (Poly.up m).length) * 8 ≤ 140737488355328; omega); intro v21 w21 ho21 hb21 hg21 hat21; rw [List.nil_append] at ho21; have HO := Aside0.mk (Kd.R_lower ho21 HB2.out.size); have HBM := Aside0.mk (below_step HB2.out hb21); clear ho21 hb21 hg21 hat21 HBL0 HSL0))
   go_ret3
   exact ⟨_, rfl, HO.out, HBM.out⟩
  | false =>
   rw [hz] at H2
   rw [hz, if_neg (by decide)] at H0
   clear hz
   go_enter Try.func80, Try.ntmps80
   go_wp2_with (go_at_call 145; refine (spec_l4Word.calls K1 A0 c0 (Poly.up m) (n : Int) true _ HR.out HC.out H1.out).mono ?_; rintro e w1 ⟨rfl, hd⟩; have HB1 := Aside0.mk hd.below; clear hd)
   refine (spec_l4Is.calls K2 A0 c0 (Poly.up m) (n : Int) false _ (Kd.C_below HR.out HB1.out) HC.out H2.out).mono ?_
   rintro e w2 ⟨rfl, hb⟩
   have HB2 := Aside0.mk (below_step HB1.out hb)
   clear hb HB1
   go_wp2_with fail
   refine (spec_l4Syndromes.calls K3 A0 c0 (Poly.up m) (n : Int) (Poly.up s) _ (Kd.C_below HR.out HB2.out) HC.out H3.out).mono ?_
   rintro e w3 ⟨va, rfl, hva, hb⟩
   obtain ⟨A3, n3, rfl, hn3, hC3⟩ := Kd.R_reads hva
   have HS := Aside0.mk hC3
   have HN3 := Aside0.mk hn3
   have HB3 := Aside0.mk (below_step HB2.out hb)
   clear hva hC3 hn3 hb HB2
   go_wp2_with fail
   refine (spec_l4Locator.calls K4 A3 n3 (Poly.up s) (Poly.up c) _ HS.out HN3.out H4.out).mono ?_
   rintro e w4 ⟨va, rfl, hva, hb⟩
   obtain ⟨A4, n4, rfl, hn4, hC4⟩ := Kd.R_reads hva
   have HCC := Aside0.mk hC4
   have HN4 := Aside0.mk hn4
   have HB4 := Aside0.mk (below_step HB3.out hb)
   have HS4 := Aside0.mk (Kd.C_below HS.out hb)
   clear hva hC4 hn4 hb HB3 HS
   go_wp2_with fail
   refine (spec_l4Places.calls K5 A4 n4 (Poly.up c) (((Poly.up m).length : Nat) : Int) (Poly.up ps) _ HCC.out HN4.out H5.out).mono ?_
   rintro e w5 ⟨va, rfl, hva, hb⟩
   obtain ⟨A5, n5, rfl, hn5, hC5⟩ := Kd.R_reads hva
   have HP := Aside0.mk hC5
   have HN5 := Aside0.mk hn5
   have HB5 := Aside0.mk (below_step HB4.out hb)
   have HS5 := Aside0.mk (Kd.C_below HS4.out hb)
   clear hva hC5 hn5 hb HB4 HS4 HCC HN4
   have hup := Poly.up_length ps
   have huc := Poly.up_length c
   have hcb : ((Poly.up c).length : Int) ≤ 8 := by have := HL.out; omega
   have hpb : ((Poly.up ps).length : Int) ≤ 24 := by have := HL.out; omega
   have bad : ¬ (1 ≤ ps.length ∧ ps.length + 1 = c.length ∧ ps.length ≤ n) → r1 = [] ∧ r2 = 0 ∧ r3 = false := fun hx => by
    rw [if_neg hx] at H0
    injection H0 with e1 e2
    injection e2 with e2 e3
    exact ⟨e1.symm, e2.symm, e3.symm⟩
   by_cases k1 : ps.length = 0
   ·obtain ⟨rfl, rfl, rfl⟩ := bad (by omega)
    have t1 : ((Poly.up ps).length = 0) = True := eq_true (by omega)
    have t2 : (((Poly.up ps).length : Int) == 0) = true := by rw [beq_iff_eq]; omega
    clear H0 bad HFX HIS HCH hup huc k1
    go_wp2
    go_ret3
    exact ⟨_, rfl, Kd.R_nil _ _ _ _ _, HB5.out⟩
   have t1 : ((Poly.up ps).length = 0) = False := eq_false (by omega)
   have t2 : (((Poly.up ps).length : Int) == 0) = false := by rw [beq_eq_false_iff_ne]; omega
   have cc0 : (1 : Int) ≤ ((Poly.up c).length : Int) := by have := HL.out; omega
   by_cases k2 : ps.length + 1 = c.length
   rotate_left
   ·obtain ⟨rfl, rfl, rfl⟩ := bad (by omega)
    have t3 : (((Poly.up ps).length : Int) != ((Poly.up c).length : Int) - 1) = true := by rw [bne_iff_ne]; omega
    clear H0 bad HFX HIS HCH hup huc k1 k2
    go_wp2
    go_ret3
    exact ⟨_, rfl, Kd.R_nil _ _ _ _ _, HB5.out⟩
   have t3 : (((Poly.up ps).length : Int) != ((Poly.up c).length : Int) - 1) = false := by rw [bne_eq_false_iff_eq]; omega
   by_cases k3 : ps.length ≤ n
   rotate_left
   ·obtain ⟨rfl, rfl, rfl⟩ := bad (by omega)
    have t4 : ((n : Int) < ((Poly.up ps).length : Int)) = True := eq_true (by omega)
    clear H0 bad HFX HIS HCH hup huc k1 k2 k3
    go_wp2
    go_ret3
    exact ⟨_, rfl, Kd.R_nil _ _ _ _ _, HB5.out⟩
   have t4 : ((n : Int) < ((Poly.up ps).length : Int)) = False := eq_false (by omega)
   rw [if_pos ⟨by omega, k2, k3⟩] at H0
   have hfx := HFX.out A5 n5 A3 n3 w5 (by omega) k3 (Kd.C_below HR.out HB5.out) HC.out HP.out HN5.out HS5.out HN3.out
   rcases HCH.out with ⟨hc, hf, _⟩ | ⟨v, hc, hvl, hvb, hf, _⟩
   ·rw [hc] at H0
    rw [hf] at hfx
    injection H0 with e1 e2
    injection e2 with e2 e3
    subst e1 e2 e3
    have HFF := Aside0.mk hfx
    clear bad HFX HIS HCH hup huc k1 k2 k3 hc hf hfx
    go_wp2_with fail
    refine HFF.out.mono ?_
    rintro e w6 ⟨v6, rfl, hR6, hb6⟩
    have HB6 := Aside0.mk (below_step HB5.out hb6)
    clear hR6 hb6 HFF
    go_wp2
    go_ret3
    exact ⟨_, rfl, Kd.R_nil _ _ _ _ _, HB6.out⟩
   ·rw [hc] at H0
    rw [hf] at hfx
    obtain ⟨⟨K6, h6⟩, ⟨K7, h7⟩, hdl, hol⟩ := HIS.out v hvl hvb
    replace H0 : (if Enc.zer (Enc.syl (Dec.fixL m ps v) (2 * n)) = true then (Poly.up (Dec.fixL m ps v), ((v.filter (· != 0)).length : Int), true) else ([], 0, false)) = (r1, r2, r3) := H0
    generalize Enc.zer (Enc.syl (Dec.fixL m ps v) (2 * n)) = z at h6 H0
    generalize difL 0 (Poly.up (Dec.fixL m ps v)) (Poly.up m) = D at h7 hdl
    generalize Poly.up (Dec.fixL m ps v) = o at h6 h7 H0 hfx hol
    have HFF := Aside0.mk hfx
    have H6 := Aside0.mk h6
    have H7 := Aside0.mk h7
    have HDL := Aside0.mk hdl
    clear bad HFX HIS HCH hup huc k1 k2 k3 hc hf hfx h6 h7 hdl hol hvl hvb
    go_wp2_with fail
    refine HFF.out.mono ?_
    rintro e w6 ⟨v6, rfl, hR6, hb6⟩
    obtain ⟨A6, n6, rfl, hn6, hC6⟩ := Kd.R_reads hR6
    have HB6 := Aside0.mk (below_step HB5.out hb6)
    have HO6 := Aside0.mk (Kd.R_lower hR6 HB5.out.size)
    have HC6 := Aside0.mk hC6
    have HN6 := Aside0.mk hn6
    clear hR6 hb6 HFF hC6 hn6
    go_wp2_with fail
    refine (spec_l4Is.calls K6 A6 n6 o (n : Int) z _ HC6.out HN6.out H6.out).mono ?_
    rintro e w7 ⟨rfl, hb7⟩
    have HB7 := Aside0.mk (below_step HB6.out hb7)
    have HO7 := Aside0.mk (Kd.R_below HO6.out hb7)
    have HC7 := Aside0.mk (Kd.C_below HC6.out hb7)
    clear hb7 HB6 HO6 HC6
    cases z with
    | false =>
     rw [if_neg (by decide)] at H0
     injection H0 with e1 e2
     injection e2 with e2 e3
     subst e1 e2 e3
     go_wp2
     go_ret3
     exact ⟨_, rfl, Kd.R_nil _ _ _ _ _, HB7.out⟩
    | true =>
     rw [if_pos rfl] at H0
     injection H0 with e1 e2
     injection e2 with e2 e3
     subst e1 e2 e3
     go_wp2_with fail
     refine (spec_l4Unlike.calls K7 A6 n6 o A0 c0 (Poly.up m) D _ HC7.out HN6.out (Kd.C_below HR.out HB7.out) HC.out H7.out).mono ?_
     rintro e w8 ⟨v8, rfl, hR8, hb8⟩
     obtain ⟨A8, n8, rfl⟩ := Kd.R_slice hR8
     have HB8 := Aside0.mk (below_step HB7.out hb8)
     have HO8 := Aside0.mk (Kd.R_below HO7.out hb8)
     clear hb8 HB7 HO7 HC7 hR8
     go_wp2
     go_ret3
     rw [← HDL.out]
     exact ⟨_, rfl, HO8.out, HB8.out⟩

theorem sameI_c (l : List Int) (hl : l.length ≤ 1000000) {A B : Option Addr} {n m : Nat} (hn : l.length ≤ n) (hm : l.length ≤ m) (w : World) (h1 : (Kd.int .i64).C w A l.length l) (h2 : (Kd.int .i64).C w B l.length l) : Calls Try.prog 56 #[.slice A l.length n, .slice B l.length m] w fun e w' => e = .returned (.bool true) ∧ Below w.heap.size w w' := by
 obtain ⟨K, hK⟩ := (laws_sameInts_same l hl).rounds
 exact (laws_sameInts.calls K A n l B m l true w h1 hn h2 hm hK).mono fun e w' ⟨he, hd⟩ => ⟨he, hd.below⟩

set_option maxHeartbeats 8000000 in
set_option maxRecDepth 100000 in
theorem laws_FnWords_calls (A0 : Option Addr) (c0 : Nat) (l0 : List Int) (A1 : Option Addr) (c1 : Nat) (l1 : List Int) (w : World) (hr0 : (Kd.int .u8).C w A0 l0.length l0) (hc0 : l0.length ≤ c0) (y0 : l0.length * 1 ≤ 140737488351232) (hw0 : ∀ x ∈ l0, (Lit.int .u8 x).wf = true)
  (hr1 : (Kd.int .u8).C w A1 l1.length l1) (hc1 : l1.length ≤ c1) (y1 : l1.length * 1 ≤ 140737488351232) (hw1 : ∀ x ∈ l1, (Lit.int .u8 x).wf = true) :
  Calls Try.prog 10 #[.slice A0 l0.length c0, .slice A1 l1.length c1] w fun e w' => e = .returned (.bool true) ∧ Below w.heap.size w w' := by
 have HB := Aside0.mk (Below.refl w.heap.size w)
 have HR1 := Aside0.mk hr1
 have HC0 := Aside0.mk hc0
 have HC1 := Aside0.mk hc1
 by_cases hlen : l0.length + l1.length ≤ 1048576
 rotate_left
 ·clear hr0 hr1 hc0 hc1
  go_enter Try.func10, Try.ntmps10
  go_wp2
  go_ret
  exact ⟨rfl, HB.out⟩
 obtain ⟨m, t, hd1, hml⟩ := spec_DrawEncodeWord_ex (wf_BY hw0)
 obtain ⟨x, u, hd2, hxl⟩ := spec_DrawDecodeWord_ex (wf_BY hw1)
 obtain ⟨nn, hnE, hn3⟩ := laws_numberOf_ex (wf_BY hw1) (by omega)
 obtain ⟨KN, hN⟩ := hnE.rounds
 obtain ⟨K1, hd1⟩ := hd1.rounds
 obtain ⟨K2, hd2⟩ := hd2.rounds
 have HBY := Aside0.mk (wf_BY hw1)
 have cD1 := fun w (h : (Kd.int .u8).C w A0 l0.length l0) => spec_DrawEncodeWord.calls K1 A0 c0 l0 m t w h HC0.out hd1
 have cD2 := fun w (h : (Kd.int .u8).C w A1 l1.length l1) => spec_DrawDecodeWord.calls K2 A1 c1 l1 x u w h HC1.out hd2
 have HNN := Aside0.mk (fun w (h : (Kd.int .u8).C w A1 l1.length l1) => laws_numberOf.calls KN A1 c1 l1 (nn : Int) w h HC1.out hN)
 clear hd1 hd2 hnE hN hw0 hw1 hr1 hc0
 obtain ⟨e, q1, he⟩ : ∃ e q1, wEncV m t = (e, q1) := ⟨_, _, rfl⟩
 obtain ⟨d, cc, q2, hd⟩ : ∃ d cc q2, decV x u = (d, cc, q2) := ⟨_, _, _, rfl⟩
 have hel : e.length ≤ 24 := by have := wEncV_length m t; rw [he] at this; exact this
 have hdl : d.length ≤ 24 := by have := decV_small x u; rw [hd] at this; exact this
 have h3 := impl_EncodeWord_ev m t (by omega)
 obtain ⟨K4, h4⟩ := (spec_EncodeWord_ev m t (by omega)).rounds
 have h5 := impl_DecodeWord_ev x u (by omega)
 have h6 := spec_DecodeWord_ev x u (by omega)
 rw [he] at h3 h4
 rw [hd] at h5 h6
 have x1 : (q1 != q1) = false := by simp
 have x2 : (q2 != q2) = false := by simp
 have x3 : (cc != cc) = false := by simp
 have H3 := Aside0.mk h3
 have H4 := Aside0.mk h4
 have H5 := Aside0.mk h5
 have H6 := Aside0.mk h6
 have HEV := Aside0.mk he
 have HDV := Aside0.mk hd
 have HSM := Aside0.mk (show e.length ≤ 1000000 ∧ d.length ≤ 1000000 ∧ nn < 1000003 ∧ m.length ≤ 1000000 from ⟨by omega, by omega, hn3, by omega⟩)
 have HR0 := Aside0.mk hr0
 clear h3 h4 h5 h6 he hd hel hdl hml hxl hn3 hr0 hc1
 go_enter Try.func10, Try.ntmps10
 go_wp2_with fail
 refine (cD1 _ HR0.out).mono ?_
 rintro e_ w1 ⟨va, rfl, hva, hb⟩
 replace HB := Aside0.mk hb
 replace HR1 := Aside0.mk (Kd.C_below HR1.out hb)
 obtain ⟨A2, n2, rfl, hn2, hC2⟩ := Kd.R_reads hva
 have HP := Aside0.mk hC2
 have HN2 := Aside0.mk hn2
 clear hb hva hC2 hn2 HR0
 go_wp2_with fail
 refine (impl_EncodeWord.calls A2 n2 m t e q1 _ HP.out HN2.out H3.out).mono ?_
 rintro e_ w2 ⟨va, rfl, hva, hb⟩
 obtain ⟨A3, n3, rfl, hn3, hC3⟩ := Kd.R_reads hva
 have HD := Aside0.mk hC3
 have HN3 := Aside0.mk hn3
 clear hva hC3 hn3
 replace HB := Aside0.mk (HB.out.trans (hb.mono HB.out.size))
 replace HR1 := Aside0.mk (Kd.C_below HR1.out hb)
 replace HP := Aside0.mk (Kd.C_below HP.out hb)
 clear hb
 go_wp2_with fail
 refine (spec_EncodeWord.calls K4 A2 n2 m t e q1 _ HP.out HN2.out H4.out).mono ?_
 rintro e_ w3 ⟨va, rfl, hva, hb⟩
 obtain ⟨A4, n4, rfl, hn4, hC4⟩ := Kd.R_reads hva
 have HE := Aside0.mk hC4
 have HN4 := Aside0.mk hn4
 clear hva hC4 hn4
 replace HB := Aside0.mk (HB.out.trans (hb.mono HB.out.size))
 replace HR1 := Aside0.mk (Kd.C_below HR1.out hb)
 replace HP := Aside0.mk (Kd.C_below HP.out hb)
 replace HD := Aside0.mk (Kd.C_below HD.out hb)
 clear hb
 go_wp2_with fail
 refine (sameI_c e HSM.out.1 HN3.out HN4.out _ HD.out HE.out).mono ?_
 rintro e_ w4 ⟨rfl, hb⟩
 replace HB := Aside0.mk (HB.out.trans (hb.mono HB.out.size))
 replace HR1 := Aside0.mk (Kd.C_below HR1.out hb)
 replace HP := Aside0.mk (Kd.C_below HP.out hb)
 replace HD := Aside0.mk (Kd.C_below HD.out hb)
 replace HE := Aside0.mk (Kd.C_below HE.out hb)
 clear hb
 clear HE HN4 H3 H4 cD1
 go_upto_if 63 with (fail)
 go_cut [] (fun wc => Aside0 (Below w.heap.size w wc) ∧ Aside0 ((Kd.int .u8).C wc A1 l1.length l1))
 case first =>
  as_aux_lemma =>
   clear H5 H6 HDV cD2 x2 x3
   cases q1 with
   | false =>
    clear HNN HEV x1
    go_wp2
    go_meet
    exact ⟨HB, HR1⟩
   | true =>
    have hok : wEncOk m t = true := by
     cases h : wEncOk m t with
     | true => rfl
     | false =>
      have h8 := HEV.out
      unfold wEncV at h8
      rw [h] at h8
      cases h8
    obtain ⟨mm, n, rfl, rfl, hmb, hn1, hn3', hmm1, hmm2⟩ := wEncOk_up hok
    have hew := enc_word hok
    have he := HEV.out
    rw [wEncV_up hok] at he hew
    injection he with he _
    have hB := Enc.encL_Bs hmb n
    have hL := Enc.encL_length hmb n
    have hw1 : wordV (Poly.up (Enc.encL mm n)) (n : Int) = (true, true) := hew.1
    have hw3 : (Poly.up (Enc.encL mm n)).drop (2 * n) = Poly.up mm := by
     have := hew.2.2
     rw [Int.toNat_natCast] at this
     exact this
    clear hew HEV hok x1
    generalize Enc.encL mm n = ww at he hB hL hw1 hw3
    have hul : e.length = ww.length := by rw [← he, Poly.up_length]
    rw [he] at hw1 hw3
    have HEE := Aside0.mk he.symm
    have hum := Poly.up_length mm
    obtain ⟨K9, h9⟩ := (impl_IsWord_ev e (n : Int)).rounds
    rw [hw1] at h9
    have H9 := Aside0.mk h9
    have HW := Aside0.mk hw1
    have HWB := Aside0.mk (show Poly.AllB ww ∧ ww.length = 2 * n + mm.length ∧ 1 ≤ n ∧ n ≤ 3 ∧ 1 ≤ mm.length ∧ mm.length + 2 * n ≤ 24 from ⟨hB, hL, hn1, hn3', hmm1, hmm2⟩)
    obtain ⟨ad, eA, _⟩ := Kd.at_int HD.out 0 (Int.le_refl _) (by omega)
    cases eA
    have y0 : (0 : Int) ≤ (n : Int) := by omega
    have y1 : (n : Int) ≤ 3 := by omega
    have y2 : ((Poly.up mm).length : Int) ≤ 24 := by omega
    have y3 : (e.length : Int) ≤ 24 := by omega
    have hDN : e.length - 2 * n = (Poly.up mm).length := by omega
    have s0 : ((e.length : Int) != ((Poly.up mm).length : Int) + 2 * (n : Int)) = false := by rw [bne_eq_false_iff_eq]; omega
    have s1 : (2 * (n : Int) ≤ (e.length : Int)) = True := eq_true (by omega)
    have s2 : (2 * n ≤ e.length) = True := eq_true (by omega)
    have s3 : (2 * (n : Int)).toNat = 2 * n := by omega
    have s4 : (n3 = 2 * n) = False := eq_false (by have := HN3.out; omega)
    have s5 : (2 * n = n3) = False := eq_false (by have := HN3.out; omega)
    have s6 : (2 * n ≤ n3) = True := eq_true (by have := HN3.out; omega)
    have HW3 := Aside0.mk hw3
    clear hB hL hw1 hw3 hmb hn1 hn3' hmm1 hmm2 hul hum h9 he
    go_wp2_with fail
    refine (impl_IsWord.calls K9 (some ad) n3 e (n : Int) true true _ HD.out HN3.out H9.out).mono ?_
    rintro e_ w5 ⟨rfl, hb⟩
    replace HB := Aside0.mk (HB.out.trans (hb.mono HB.out.size))
    replace HR1 := Aside0.mk (Kd.C_below HR1.out hb)
    replace HP := Aside0.mk (Kd.C_below HP.out hb)
    replace HD := Aside0.mk (Kd.C_below HD.out hb)
    clear hb
    have hCD := Kd.C_drop HD.out (m := 2 * n) (by have h1 := of_eq_true s2; exact h1) HN3.out
    rw [if_neg (of_eq_false s4), HW3.out, show 2 * n * (Kd.int .i64).sz = 2 * n from Nat.mul_one _] at hCD
    have HCD := Aside0.mk (show (Kd.int .i64).C w5 (some (ad.add (2 * n))) (Poly.up mm).length (Poly.up mm) from hCD)
    have HNC := Aside0.mk (show (Poly.up mm).length ≤ n3 - 2 * n from by have := HN3.out; omega)
    clear hCD
    go_wp2_with fail
    refine (sameI_c (Poly.up mm) HSM.out.2.2.2 HNC.out HN2.out _ HCD.out HP.out).mono ?_
    rintro e_ w6 ⟨rfl, hb⟩
    replace HB := Aside0.mk (HB.out.trans (hb.mono HB.out.size))
    replace HR1 := Aside0.mk (Kd.C_below HR1.out hb)
    replace HP := Aside0.mk (Kd.C_below HP.out hb)
    replace HD := Aside0.mk (Kd.C_below HD.out hb)
    clear hb
    clear HCD HNC hDN s0 s1 s2 s3 s4 s5 s6 H9 HW3
    go_wp2_with (first | ((with_reducible refine gate_dst (N := 95) rfl ?_); refine Kd.R_lit (Kd.int .i64) _ 3 ?hg (N := 95) ?hd (xs := ([] : List Int)) (inner := []) (ok := fun _ => True) (okp := fun _ => True) ?hr ?hp (fun _ hk => hk) trivial (Below.refl _ _) (Nat.le_refl _) (by simp) ?_; (case hd => rfl); (case hg => rfl); (case hr => first | (go_simp; done) | (go_simp; rfl)); (case hp => exact (Reps.none _ _)); intro v20 w20 ho20 hb20 _ _; have HBL0 := Aside0.mk hb20; have HSL0 := Aside0.mk ho20; clear ho20 hb20) | ((with_reducible refine gate_builtin (b := .append) (xs := #[.tmp 95, .tmp 96]) rfl ?_); at_builtin; refine Kd.R_append_rows (Kd.int .i64) (w0 := w6) w6.heap.size rfl (.tmp 95) (.tmp 96) 23 3 (.int .i64 0) 8 rfl Try.underlying23 infoJ rfl (by decide) (by decide) v20 ([] : List Int) e _ _ _ (fun _ => True) (fun _ => False) rfl rfl ?aO ?aR (fun _ _ h => h) (fun _ h => h.elim) ?aF ?aB ?aS ?aL ?_; (case aR => exact Kd.C_below HD.out HBL0.out); (case aB => exact HBL0.out); (case aF => exact (fun _ _ => trivial)); (case aO => exact HSL0.out); (case aS => exact HBL0.out.size); (case aL => have h1 := y3; show (0 + e.length) * 8 ≤ 140737488355328; omega); intro v21 w21 ho21 hb21 hg21 hat21; rw [List.nil_append] at ho21; have HO := Aside0.mk ho21; have HBM := Aside0.mk hb21; clear ho21 hb21 hg21 hat21 HBL0 HSL0; obtain ⟨g, cg, eg, hg0, _, _, _⟩ := Kd.R_form HO.out (by rw [HEE.out, Poly.up_length]; have := HWB.out; omega); subst eg))
    go_loopg [14] n (fun gg v14 wq => ∃ (k : Nat) (F : List Nat), k ≤ n ∧ n - k ≤ gg ∧ v14 = .int .i64 k ∧ Aside0 (F.length = ww.length ∧ Poly.AllB F ∧ (Enc.difs F ww).length ≤ k) ∧ Aside0 ((Kd.int .i64).R 3 wq w6.heap.size (fun _ => True) (.slice (some ⟨g, 0, none⟩) e.length cg) (Poly.up F)) ∧ Aside0 (Below w6.heap.size w6 wq))
    case atStart => exact ⟨0, ww, Nat.zero_le _, by omega, rfl, ⟨rfl, HWB.out.1, by rw [Dec.difs_self]; exact Nat.le_refl _⟩, (by rw [← HEE.out]; exact HO), HBM⟩
    case round =>
     clear HO HBM
     obtain ⟨k, F, hk', hgk, rfl, HF, HRR, HBR⟩ := hrel
     have u0 : (0 : Int) ≤ (k : Int) := by omega
     have u1 : (k : Int) ≤ 100 := by omega
     by_cases hk1 : k < n
     ·have j1 : ((k : Int) < (n : Int)) = True := eq_true (by omega)
      have j2 : (k < n) = True := eq_true hk1
      by_cases hk2 : k < l1.length
      ·have j3 : ((k : Int) < (l1.length : Int)) = True := eq_true (by omega)
       have j4 : (k < l1.length) = True := eq_true hk2
       obtain ⟨ad1, eA1, hx⟩ := Kd.at_int (Kd.C_below HR1.out HBR.out) (k : Int) u0 (by omega)
       cases eA1
       have hbr := HBY.out.rd (k : Int)
       obtain ⟨b, hb'⟩ := nat_of hbr.1
       rw [hb'] at hx hbr
       rw [Int.toNat_natCast] at hx
       have hk3 : k + 1 ≤ 3 := by omega
       have hz : b * (k + 1) ≤ 255 * 3 := Nat.mul_le_mul (by omega) hk3
       have hzi : ((b * (k + 1) : Nat) : Int) = (b : Int) * ((k : Int) + 1) := by rw [Int.natCast_mul]; rfl
       generalize b * (k + 1) = z at hz hzi
       have hwl : 0 < e.length := by rw [HEE.out, Poly.up_length]; have := HWB.out; omega
       have hat : (nn + z) % e.length < e.length := Nat.mod_lt _ hwl
       have e1 : Int.tmod ((nn : Int) + (z : Int)) (e.length : Int) = (((nn + z) % e.length : Nat) : Int) := rfl
       have e2 : ((nn : Int) + (z : Int)) % (e.length : Int) = (((nn + z) % e.length : Nat) : Int) := rfl
       generalize (nn + z) % e.length = at_ at hat e1 e2
       have n0 : ((e.length : Int) = 0) = False := eq_false (by omega)
       have n1 : (e.length = 0) = False := eq_false (by omega)
       have z0 : (0 : Int) ≤ (z : Int) := by omega
       have z1 : (z : Int) ≤ 765 := by omega
       have b0 : (0 : Int) ≤ (b : Int) := by omega
       have b1 : (b : Int) ≤ 255 := by omega
       have q0 : (0 : Int) ≤ (nn : Int) := by omega
       have q1 : (nn : Int) ≤ 1000003 := by have := HSM.out.2.2.1; omega
       have hxb : F.getD at_ 0 < 256 := HF.out.2.1.get at_
       have hyb : (F.getD at_ 0 + b) % 256 < 256 := Nat.mod_lt _ (by decide)
       have e3 : Int.tmod (((F.getD at_ 0 : Nat) : Int) + (b : Int)) 256 = (((F.getD at_ 0 + b) % 256 : Nat) : Int) := rfl
       have e4 : (((F.getD at_ 0 : Nat) : Int) + (b : Int)) % 256 = (((F.getD at_ 0 + b) % 256 : Nat) : Int) := rfl
       have hFl : F.length = (e : List Int).length := by rw [HF.out.1, HEE.out, Poly.up_length]
       have HF2 := Aside0.mk (show (F.set at_ ((F.getD at_ 0 + b) % 256)).length = ww.length ∧ Poly.AllB (F.set at_ ((F.getD at_ 0 + b) % 256)) ∧ (Enc.difs (F.set at_ ((F.getD at_ 0 + b) % 256)) ww).length ≤ k + 1 from
        ⟨by rw [List.length_set]; exact HF.out.1, HF.out.2.1.set at_ hyb, Nat.le_trans (Dec.difs_set F ww at_ _) (by have := HF.out.2.2; omega)⟩)
       have hput : ∀ W', Below wr.drew.heap.size wr.drew W' → W'.cell? ⟨g, at_, none⟩ = some (.int .i64 ((F.getD at_ 0 : Nat) : Int)) ∧ W'.frozen? ⟨g, at_, none⟩ = false ∧ (Kd.int .i64).R 3 (W'.setCell ⟨g, at_, none⟩ (.int .i64 (((F.getD at_ 0 + b) % 256 : Nat) : Int))) w6.heap.size (fun _ => True) (.slice (some ⟨g, 0, none⟩) e.length cg) (Poly.up (F.set at_ ((F.getD at_ 0 + b) % 256))) ∧ Below w6.heap.size w6 (W'.setCell ⟨g, at_, none⟩ (.int .i64 (((F.getD at_ 0 + b) % 256 : Nat) : Int))) := fun W' hW => by
        have hR1 := Kd.R_below (Kd.R_drew HRR.out) hW
        have hc1 := Kd.R_celln (0 : Int) hR1 (at_ : Int) (by omega) (by omega)
        have hp := Kd.R_putg hR1 (at_ : Int) (((F.getD at_ 0 + b) % 256 : Nat) : Int)
        rw [Int.toNat_natCast] at hc1 hp
        have hc2 : W'.cell? ⟨g, at_, none⟩ = some (.int .i64 (rd (Poly.up F) (at_ : Int))) := hc1.1
        rw [Poly.rd_up] at hc2
        rw [Poly.up_set] at hp
        exact ⟨hc2, hc1.2, hp.1, below_set (below_step (below_drew HBR.out) hW) hg0⟩
       have HPW := Aside0.mk hput
       have HRD := Aside0.mk (Kd.C_drew (Kd.C_below HR1.out HBR.out))
       have hx0 : wr.drew.cell? (ad1.add k) = some (.int .u8 (b : Int)) := hx
       generalize F.set at_ ((F.getD at_ 0 + b) % 256) = F2 at HPW HF2
       have X0 : (0 : Int) ≤ ((F.getD at_ 0 : Nat) : Int) := by omega
       have X1 : ((F.getD at_ 0 : Nat) : Int) ≤ 255 := by omega
       generalize (F.getD at_ 0 + b) % 256 = y at e3 e4 HPW
       generalize F.getD at_ 0 = x0 at e3 e4 HPW X0 X1
       have w0 : (0 : Int) ≤ (at_ : Int) := by omega
       have w1 : ((at_ : Int) < (e.length : Int)) = True := eq_true (by omega)
       have w2 : (at_ < e.length) = True := eq_true hat
       have hAT : Int.tmod (wrap64 ((nn : Int) + wrap64 (wrap64 (b : Int) * wrap64 ((k : Int) + 1)))) (e.length : Int) = (at_ : Int) := by
        rw [wrap_id (n := (b : Int)) (by omega) (by omega), wrap_id (n := (k : Int) + 1) (by omega) (by omega), ← hzi, wrap_id (n := (z : Int)) (by omega) (by omega), wrap_id (n := (nn : Int) + (z : Int)) (by omega) (by omega)]
        exact e1
       have HAT := Aside0.mk hAT
       clear hAT
       clear hzi hz hx hput hxb hyb hFl hbr hb' hwl hat HRR HF
       go_upto_region 16 with (fail)
       refine start_ (n := 15) (S := fun w' => w'.cell? (ad1.add k) = some (.int .u8 (b : Int))) (ds := []) #[false, false, false, false, false, false, false, false, false, false, false, false, false, false, false] (by kernel_rfl) rfl rfl (hx0) (fun hHeld => ?_); refine with_tabW tab_fw16 bits_fw16 (fun HT_ HW_ => ?_)
       generalize wr.drew = w5_ at HPW HRD hx0 hHeld ⊢
       refine pure_ (i := 0) (N := some 109) (v := ?_) (a' := ?_) #[true, false, false, false, false, false, false, false, false, false, false, false, false, false, false] rfl rfl (any_of HT_.out (by kernel_rfl)) (fun _ _ _ h => h) (Or.inl ⟨by rfl, ?_⟩) ?_ ?_
       rotate_left; (intro w'; go_simp; with_reducible rfl); rotate_left; (simp only [Act.put, List.setIfInBounds_toArray, List.set_cons_zero, List.set_cons_succ, i64_w, i32_w]; rfl)
       refine pure_ (i := 2) (N := some 111) (v := ?_) (a' := ?_) #[true, false, true, false, false, false, false, false, false, false, false, false, false, false, false] rfl rfl (any_of HT_.out (by kernel_rfl)) (fun _ _ _ h => h) (Or.inl ⟨by rfl, ?_⟩) ?_ ?_
       rotate_left; (intro w'; go_simp; with_reducible rfl); rotate_left; (simp only [Act.put, List.setIfInBounds_toArray, List.set_cons_zero, List.set_cons_succ, i64_w, i32_w]; rfl)
       refine pure_ (i := 3) (N := some 112) (v := ?_) (a' := ?_) #[true, false, true, true, false, false, false, false, false, false, false, false, false, false, false] rfl rfl (any_of HT_.out (by kernel_rfl)) (fun _ _ _ h => h) (Or.inl ⟨by rfl, ?_⟩) ?_ ?_
       rotate_left; (intro w'; go_simp; with_reducible rfl); rotate_left; (simp only [Act.put, List.setIfInBounds_toArray, List.set_cons_zero, List.set_cons_succ, i64_w, i32_w]; rfl)
       refine pure_ (i := 4) (N := some 113) (v := ?_) (a' := ?_) #[true, false, true, true, true, false, false, false, false, false, false, false, false, false, false] rfl rfl (any_of HT_.out (by kernel_rfl)) (fun _ _ _ h => h) (Or.inl ⟨by rfl, ?_⟩) ?_ ?_
       rotate_left; (intro w'; go_simp; with_reducible rfl); rotate_left; (simp only [Act.put, List.setIfInBounds_toArray, List.set_cons_zero, List.set_cons_succ, i64_w, i32_w]; rfl)
       refine pure_ (i := 7) (N := some 116) (v := ?_) (a' := ?_) #[true, false, true, true, true, false, false, true, false, false, false, false, false, false, false] rfl rfl (any_of HT_.out (by kernel_rfl)) (fun _ _ _ h => h) (Or.inl ⟨by rfl, ?_⟩) ?_ ?_
       rotate_left; (intro w'; go_simp; with_reducible rfl); rotate_left; (simp only [Act.put, List.setIfInBounds_toArray, List.set_cons_zero, List.set_cons_succ, i64_w, i32_w]; rfl)
       refine pure_ (i := 8) (N := some 117) (v := ?_) (a' := ?_) #[true, false, true, true, true, false, false, true, true, false, false, false, false, false, false] rfl rfl (any_of HT_.out (by kernel_rfl)) (fun _ _ _ h => h) (Or.inl ⟨by rfl, ?_⟩) ?_ ?_
       rotate_left; (intro w'; go_simp; with_reducible rfl); rotate_left; (simp only [Act.put, List.setIfInBounds_toArray, List.set_cons_zero, List.set_cons_succ, i64_w, i32_w]; rfl)
       refine pure_ (i := 11) (N := some 120) (v := ?_) (a' := ?_) #[true, false, true, true, true, false, false, true, true, false, false, true, false, false, false] rfl rfl (any_of HT_.out (by kernel_rfl)) (fun _ _ _ h => h) (Or.inl ⟨by rfl, ?_⟩) ?_ ?_
       rotate_left; (intro w'; go_simp; with_reducible rfl); rotate_left; (simp only [Act.put, List.setIfInBounds_toArray, List.set_cons_zero, List.set_cons_succ, i64_w, i32_w]; rfl)
       refine pure_ (i := 12) (N := some 121) (v := ?_) (a' := ?_) #[true, false, true, true, true, false, false, true, true, false, false, true, true, false, false] rfl rfl (any_of HT_.out (by kernel_rfl)) (fun _ _ _ h => h) (Or.inl ⟨by rfl, ?_⟩) ?_ ?_
       rotate_left; (intro w'; go_simp; with_reducible rfl); rotate_left; (simp only [Act.put, List.setIfInBounds_toArray, List.set_cons_zero, List.set_cons_succ, i64_w, i32_w]; rfl)
       refine take_ (i := 5) (N := some 114) (v := ?_) (a' := ?_) #[true, false, true, true, true, true, false, true, true, false, false, true, true, false, false] rfl rfl (take_ofW HT_.out HW_.out (by kernel_rfl)) (fun _ _ _ h => h) (Or.inl ⟨by rfl, ?_⟩) hHeld ?_ ?_
       rotate_left
       ·intro w' s0
        go_simp
        with_reducible rfl
       rotate_left
       ·simp only [Act.put, List.setIfInBounds_toArray, List.set_cons_zero, List.set_cons_succ, i64_w, i32_w]
        rfl
       refine pure_ (i := 6) (N := some 115) (v := ?_) (a' := ?_) #[true, false, true, true, true, true, true, true, true, false, false, true, true, false, false] rfl rfl (any_of HT_.out (by kernel_rfl)) (fun _ _ _ h => h) (Or.inl ⟨by rfl, ?_⟩) ?_ ?_
       rotate_left; (intro w'; go_simp; with_reducible rfl); rotate_left; (simp only [Act.put, List.setIfInBounds_toArray, List.set_cons_zero, List.set_cons_succ, i64_w, i32_w]; rfl)
       refine pure_ (i := 9) (N := some 118) (v := ?_) (a' := ?_) #[true, false, true, true, true, true, true, true, true, true, false, true, true, false, false] rfl rfl (any_of HT_.out (by kernel_rfl)) (fun _ _ _ h => h) (Or.inl ⟨by rfl, ?_⟩) ?_ ?_
       rotate_left; (intro w'; go_simp; with_reducible rfl); rotate_left; (simp only [Act.put, List.setIfInBounds_toArray, List.set_cons_zero, List.set_cons_succ, i64_w, i32_w]; rfl)
       refine one_ (i := 1) (N := some 110) #[true, true, true, true, true, true, true, true, true, true, false, true, true, false, false] rfl rfl (one_of HT_.out (by kernel_rfl)) (by decide) (fun K hK => ?_)
       refine goes_ Try.func39 (by kernel_rfl) rfl #[.slice (some ad1) l1.length c1] (by rfl) rfl rfl (by (try simp only [List.map_toArray, List.map_cons, List.map_nil]); first | done | rfl | (simp only [List.length_drop, List.length_take]; rfl)) ?_
       refine (HNN.out _ HRD.out).mono ?_
       rintro e_ w22 ⟨rfl, hd4⟩
       refine ⟨_, rfl, ?_⟩
       obtain ⟨hv4, hf4, hR4, hB4⟩ := HPW.out w22 hd4.below
       have HR4 := Aside0.mk hR4
       have HB4 := Aside0.mk hB4
       have hS4 := pw_cell_below hd4.below hx0
       clear hR4 hB4 hd4 HPW hx0 HRD
       refine hK.out _ _ hS4 (fun hHeld => ?_)
       clear hK K
       refine norm_ (a' := ?_) ?_ ?_
       rotate_left
       ·show Act.put _ (some 110) _ = _
        simp only [Act.put, List.setIfInBounds_toArray, List.set_cons_zero, List.set_cons_succ, i64_w, i32_w]
        rfl
       refine pure_ (i := 10) (N := some 119) (v := ?_) (a' := ?_) #[true, true, true, true, true, true, true, true, true, true, true, true, true, false, false] rfl rfl (any_of HT_.out (by kernel_rfl)) (fun _ _ _ h => h) (Or.inl ⟨by rfl, ?_⟩) ?_ ?_
       rotate_left; (intro w'; go_simp; with_reducible rfl); rotate_left; (simp only [Act.put, List.setIfInBounds_toArray, List.set_cons_zero, List.set_cons_succ, i64_w, i32_w]; rfl)
       refine pure_ (i := 13) (N := some 122) (v := ?_) (a' := ?_) #[true, true, true, true, true, true, true, true, true, true, true, true, true, true, false] rfl rfl (any_of HT_.out (by kernel_rfl)) (fun _ _ _ h => h) (Or.inl ⟨by rfl, ?_⟩) ?_ ?_
       rotate_left; (intro w'; go_simp; with_reducible rfl); rotate_left; (simp only [Act.put, List.setIfInBounds_toArray, List.set_cons_zero, List.set_cons_succ, i64_w, i32_w]; rfl)
       refine pure_ (i := 14) (N := some 15) (v := ?_) (a' := ?_) #[true, true, true, true, true, true, true, true, true, true, true, true, true, true, true] rfl rfl (any_of HT_.out (by kernel_rfl)) (fun _ _ _ h => h) (Or.inl ⟨by rfl, ?_⟩) ?_ ?_
       rotate_left; (intro w'; go_simp; with_reducible rfl); rotate_left; (simp only [Act.put, List.setIfInBounds_toArray, List.set_cons_zero, List.set_cons_succ, i64_w, i32_w]; rfl)
       refine done_ (done_of HT_.out (by kernel_rfl)) ?_
       clear hHeld HT_ HW_
       rw [HAT.out]
       go_wp2_with fail
       go_region
       go_wp2
       go_roundg (n - (k + 1))
       case measure => omega
       case rel => exact ⟨k + 1, F2, by omega, by omega, by go_num, HF2, ⟨Kd.R_drew HR4.out⟩, ⟨below_drew HB4.out⟩⟩
      ·have j3 : ((k : Int) < (l1.length : Int)) = False := eq_false (by omega)
       have j4 : (k < l1.length) = False := eq_false hk2
       have hR := HRR.out
       have hFl : (Poly.up F).length = e.length := by rw [Poly.up_length, HF.out.1, HEE.out, Poly.up_length]
       have hdb := dec_back (a := F) (b := ww) (n := n) (by have := HW.out; rw [HEE.out] at this; exact this) HF.out.2.1 HF.out.1 (by have := HF.out.2.2; omega)
       rw [← HEE.out] at hdb
       have hcn : (Enc.difs F ww).length ≤ n := by have := HF.out.2.2; omega
       have hpl : ((Enc.difs F ww).map (fun j => ((0 + j : Nat) : Int))).length = (Enc.difs F ww).length := List.length_map _
       generalize (Enc.difs F ww).map (fun j => ((0 + j : Nat) : Int)) = pl at hdb hpl
       generalize (Enc.difs F ww).length = cnt at hdb hpl hcn
       have h7 := impl_DecodeWord_ev (Poly.up F) (n : Int) (by rw [Poly.up_length, HF.out.1]; have := HWB.out; omega)
       rw [hdb.1] at h7
       obtain ⟨K8, h8⟩ := (impl_WrongPlaces_ev (Poly.up F) e).rounds
       rw [hdb.2] at h8
       have hq := fun W (hR : (Kd.int .i64).R 3 W w6.heap.size (fun _ => True) (.slice (some ⟨g, 0, none⟩) e.length cg) (Poly.up F)) => Kd.R_reads' hR
       have hcD := fun W (hC : (Kd.int .i64).C W (some ⟨g, 0, none⟩) (Poly.up F).length (Poly.up F)) (hle : (Poly.up F).length ≤ cg) => impl_DecodeWord.calls (some ⟨g, 0, none⟩) cg (Poly.up F) (n : Int) e (cnt : Int) true W hC hle h7
       have hcW := fun W (hC : (Kd.int .i64).C W (some ⟨g, 0, none⟩) (Poly.up F).length (Poly.up F)) (hle : (Poly.up F).length ≤ cg) (hC2 : (Kd.int .i64).C W (some ad) e.length e) => impl_WrongPlaces.calls K8 (some ⟨g, 0, none⟩) cg (Poly.up F) (some ad) n3 e pl true W hC hle hC2 HN3.out h8
       simp only [hFl] at hq hcD hcW
       have HQ := Aside0.mk hq
       have HCD2 := Aside0.mk hcD
       have HCW := Aside0.mk hcW
       have HR9 := Aside0.mk hR
       have v1 : ((cnt : Int) != (pl.length : Int)) = false := by rw [bne_eq_false_iff_eq]; omega
       have v2 : (cnt != pl.length) = false := by rw [bne_eq_false_iff_eq]; omega
       have v3 : ((n : Int) < (cnt : Int)) = False := eq_false (by omega)
       have v4 : (n < cnt) = False := eq_false (by omega)
       clear hR hFl hdb hcn hpl h7 h8 hq hcD hcW HRR
       go_wp2_with fail
       refine (HCD2.out _ (HQ.out _ HR9.out).2.2 (HQ.out _ HR9.out).2.1).mono ?_
       rintro e_ w31 ⟨va, rfl, hva, hb⟩
       obtain ⟨A5, n5, rfl, hn5, hC5⟩ := Kd.R_reads hva
       have HBK := Aside0.mk hC5
       have HN5 := Aside0.mk hn5
       have HR31 := Aside0.mk (Kd.R_below HR9.out hb)
       have HB31 := Aside0.mk (below_step HBR.out hb)
       have HD31 := Aside0.mk (Kd.C_below HD.out HB31.out)
       clear hva hC5 hn5 hb HCD2 HR9
       go_wp2_with fail
       refine (HCW.out _ (HQ.out _ HR31.out).2.2 (HQ.out _ HR31.out).2.1 HD31.out).mono ?_
       rintro e_ w32 ⟨va, rfl, hva, hb⟩
       obtain ⟨A6, n6, rfl⟩ := Kd.R_slice hva
       have HBK2 := Aside0.mk (Kd.C_below HBK.out hb)
       have HD32 := Aside0.mk (Kd.C_below HD31.out hb)
       have HB32 := Aside0.mk (below_step HB31.out hb)
       clear hva hb HCW HQ HR31 HD31 HB31 HBK
       go_wp2_with fail
       refine (sameI_c e HSM.out.1 HN5.out HN3.out _ HBK2.out HD32.out).mono ?_
       rintro e_ w33 ⟨rfl, hb⟩
       have HB33 := Aside0.mk (below_step HB32.out hb)
       clear hb HB32
       go_wp2
       go_meet
       exact ⟨⟨below_step HB.out HB33.out⟩, ⟨Kd.C_below HR1.out HB33.out⟩⟩
     ·have j1 : ((k : Int) < (n : Int)) = False := eq_false (by omega)
      have j2 : (k < n) = False := eq_false hk1
      have hR := HRR.out
      have hFl : (Poly.up F).length = e.length := by rw [Poly.up_length, HF.out.1, HEE.out, Poly.up_length]
      have hdb := dec_back (a := F) (b := ww) (n := n) (by have := HW.out; rw [HEE.out] at this; exact this) HF.out.2.1 HF.out.1 (by have := HF.out.2.2; omega)
      rw [← HEE.out] at hdb
      have hcn : (Enc.difs F ww).length ≤ n := by have := HF.out.2.2; omega
      have hpl : ((Enc.difs F ww).map (fun j => ((0 + j : Nat) : Int))).length = (Enc.difs F ww).length := List.length_map _
      generalize (Enc.difs F ww).map (fun j => ((0 + j : Nat) : Int)) = pl at hdb hpl
      generalize (Enc.difs F ww).length = cnt at hdb hpl hcn
      have h7 := impl_DecodeWord_ev (Poly.up F) (n : Int) (by rw [Poly.up_length, HF.out.1]; have := HWB.out; omega)
      rw [hdb.1] at h7
      obtain ⟨K8, h8⟩ := (impl_WrongPlaces_ev (Poly.up F) e).rounds
      rw [hdb.2] at h8
      have hq := fun W (hR : (Kd.int .i64).R 3 W w6.heap.size (fun _ => True) (.slice (some ⟨g, 0, none⟩) e.length cg) (Poly.up F)) => Kd.R_reads' hR
      have hcD := fun W (hC : (Kd.int .i64).C W (some ⟨g, 0, none⟩) (Poly.up F).length (Poly.up F)) (hle : (Poly.up F).length ≤ cg) => impl_DecodeWord.calls (some ⟨g, 0, none⟩) cg (Poly.up F) (n : Int) e (cnt : Int) true W hC hle h7
      have hcW := fun W (hC : (Kd.int .i64).C W (some ⟨g, 0, none⟩) (Poly.up F).length (Poly.up F)) (hle : (Poly.up F).length ≤ cg) (hC2 : (Kd.int .i64).C W (some ad) e.length e) => impl_WrongPlaces.calls K8 (some ⟨g, 0, none⟩) cg (Poly.up F) (some ad) n3 e pl true W hC hle hC2 HN3.out h8
      simp only [hFl] at hq hcD hcW
      have HQ := Aside0.mk hq
      have HCD2 := Aside0.mk hcD
      have HCW := Aside0.mk hcW
      have HR9 := Aside0.mk hR
      have v1 : ((cnt : Int) != (pl.length : Int)) = false := by rw [bne_eq_false_iff_eq]; omega
      have v2 : (cnt != pl.length) = false := by rw [bne_eq_false_iff_eq]; omega
      have v3 : ((n : Int) < (cnt : Int)) = False := eq_false (by omega)
      have v4 : (n < cnt) = False := eq_false (by omega)
      clear hR hFl hdb hcn hpl h7 h8 hq hcD hcW HRR
      go_wp2_with fail
      refine (HCD2.out _ (HQ.out _ HR9.out).2.2 (HQ.out _ HR9.out).2.1).mono ?_
      rintro e_ w31 ⟨va, rfl, hva, hb⟩
      obtain ⟨A5, n5, rfl, hn5, hC5⟩ := Kd.R_reads hva
      have HBK := Aside0.mk hC5
      have HN5 := Aside0.mk hn5
      have HR31 := Aside0.mk (Kd.R_below HR9.out hb)
      have HB31 := Aside0.mk (below_step HBR.out hb)
      have HD31 := Aside0.mk (Kd.C_below HD.out HB31.out)
      clear hva hC5 hn5 hb HCD2 HR9
      go_wp2_with fail
      refine (HCW.out _ (HQ.out _ HR31.out).2.2 (HQ.out _ HR31.out).2.1 HD31.out).mono ?_
      rintro e_ w32 ⟨va, rfl, hva, hb⟩
      obtain ⟨A6, n6, rfl⟩ := Kd.R_slice hva
      have HBK2 := Aside0.mk (Kd.C_below HBK.out hb)
      have HD32 := Aside0.mk (Kd.C_below HD31.out hb)
      have HB32 := Aside0.mk (below_step HB31.out hb)
      clear hva hb HCW HQ HR31 HD31 HB31 HBK
      go_wp2_with fail
      refine (sameI_c e HSM.out.1 HN5.out HN3.out _ HBK2.out HD32.out).mono ?_
      rintro e_ w33 ⟨rfl, hb⟩
      have HB33 := Aside0.mk (below_step HB32.out hb)
      clear hb HB32
      go_wp2
      go_meet
      exact ⟨⟨below_step HB.out HB33.out⟩, ⟨Kd.C_below HR1.out HB33.out⟩⟩
 case rest =>
  as_aux_lemma =>
   clear HB HR1 HP HD HN2 HN3 HNN HEV x1
   obtain ⟨HB, HR1⟩ := hcut
   go_wp2_with fail
   refine (cD2 _ HR1.out).mono ?_
   rintro e_ w11 ⟨va, rfl, hva, hb⟩
   obtain ⟨A2, n2, rfl, hn2, hC2⟩ := Kd.R_reads hva
   have HP := Aside0.mk hC2
   have HN2 := Aside0.mk hn2
   clear hva hC2 hn2
   replace HB := Aside0.mk (HB.out.trans (hb.mono HB.out.size))
   replace HR1 := Aside0.mk (Kd.C_below HR1.out hb)
   clear hb
   go_wp2_with fail
   refine (impl_DecodeWord.calls A2 n2 x u d cc q2 _ HP.out HN2.out H5.out).mono ?_
   rintro e_ w12 ⟨va, rfl, hva, hb⟩
   obtain ⟨A3, n3, rfl, hn3, hC3⟩ := Kd.R_reads hva
   have HD := Aside0.mk hC3
   have HN3 := Aside0.mk hn3
   clear hva hC3 hn3
   replace HB := Aside0.mk (HB.out.trans (hb.mono HB.out.size))
   replace HR1 := Aside0.mk (Kd.C_below HR1.out hb)
   replace HP := Aside0.mk (Kd.C_below HP.out hb)
   clear hb
   go_wp2_with fail
   refine (spec_DecodeWord.calls A2 n2 x u d cc q2 _ HP.out HN2.out H6.out).mono ?_
   rintro e_ w13 ⟨va, rfl, hva, hb⟩
   obtain ⟨A4, n4, rfl, hn4, hC4⟩ := Kd.R_reads hva
   have HE := Aside0.mk hC4
   have HN4 := Aside0.mk hn4
   clear hva hC4 hn4
   replace HB := Aside0.mk (HB.out.trans (hb.mono HB.out.size))
   replace HR1 := Aside0.mk (Kd.C_below HR1.out hb)
   replace HP := Aside0.mk (Kd.C_below HP.out hb)
   replace HD := Aside0.mk (Kd.C_below HD.out hb)
   clear hb
   go_wp2_with fail
   refine (sameI_c d HSM.out.2.1 HN3.out HN4.out _ HD.out HE.out).mono ?_
   rintro e_ w14 ⟨rfl, hb⟩
   replace HB := Aside0.mk (HB.out.trans (hb.mono HB.out.size))
   replace HR1 := Aside0.mk (Kd.C_below HR1.out hb)
   replace HP := Aside0.mk (Kd.C_below HP.out hb)
   replace HD := Aside0.mk (Kd.C_below HD.out hb)
   replace HE := Aside0.mk (Kd.C_below HE.out hb)
   clear hb
   cases q2 with
   | false =>
    go_wp2
    go_ret
    exact ⟨rfl, HB.out⟩
   | true =>
    have hdw := dec_word (l := x) (w := u) (by rw [HDV.out])
    rw [HDV.out] at hdw
    obtain ⟨K9, h9⟩ := (impl_IsWord_ev d u).rounds
    rw [show wordV d u = (true, true) from hdw.1] at h9
    have H9 := Aside0.mk h9
    have hcu : cc ≤ u := hdw.2.1
    have t1 : (cc ≤ u) = True := eq_true hcu
    have t2 : decide (cc ≤ u) = true := decide_eq_true hcu
    clear h9 hdw hcu
    go_wp2_with fail
    refine (impl_IsWord.calls K9 A3 n3 d u true true _ HD.out HN3.out H9.out).mono ?_
    rintro e_ w15 ⟨rfl, hb⟩
    replace HB := Aside0.mk (HB.out.trans (hb.mono HB.out.size))
    replace HR1 := Aside0.mk (Kd.C_below HR1.out hb)
    replace HP := Aside0.mk (Kd.C_below HP.out hb)
    replace HD := Aside0.mk (Kd.C_below HD.out hb)
    replace HE := Aside0.mk (Kd.C_below HE.out hb)
    clear hb
    go_wp2
    go_ret
    exact ⟨rfl, HB.out⟩

end Go.Proofs.Ytldlldfoaicjcaa.Pure
-- SHRUNK
