/- Of a matrix of Cauchy's any rows and as many columns can be inverted, its elements are the inverses of the sums, and what SolveBy answers solves: the walk of the law. No conditions beyond the row's own. -/
import Derived.Test.YtafijkfhjmdffaaPreFnCauchy
import Derived.Test.YtafijkfhjmdffaaMFnCauchyx6
import Derived.Test.YtafijkfhjmdffaaMFnCauchyx0
import Derived.Test.YtafijkfhjmdffaaMFnCauchyx1
import Derived.Test.YtafijkfhjmdffaaMFnCauchyx2
import Derived.Test.YtafijkfhjmdffaaMFnCauchyx3
import Derived.Test.YtafijkfhjmdffaaMFnCauchyx4
import Derived.Test.YtafijkfhjmdffaaMFnCauchyx5
import Derived.Test.YtafijkfhjmdffaaBit
import Derived.Test.YtafijkfhjmdffaaPoly
import Derived.Test.YtafijkfhjmdffaaMat
import Derived.Test.YtafijkfhjmdffaaLin
import Derived.Test.YtafijkfhjmdffaaRoot
import Derived.Test.YtafijkfhjmdffaaElim
import Derived.Test.YtafijkfhjmdffaaMx
import Derived.Test.YtafijkfhjmdffaaEnv
import Derived.Test.YtafijkfhjmdffaaSrt
import Derived.RegionTactic
import Derived.ChangeAlike
import Derived.BigRegion
import Derived.StillTailTactics
set_option linter.unusedVariables false
set_option linter.unusedSimpArgs false
namespace Go.Proofs.Ytafijkfhjmdffaa.Pure
open Go.RowKit Go.Proofs.Ytafijkfhjmdffaa Go.Proofs.Ytafijkfhjmdffaa.MFnCauchy Go.Proofs.YtafijkfhjmdffaaW.PrintWords Go.Proofs.YtafijkfhjmdffaaW.PrintLast Go.Proofs.Ytafijkfhjmdffaa.Bit
def pvz (k i : Nat) (m : List (List Nat)) : Int := match Mat.pv k (m.drop i) with
 | none => -1
 | some p => (i : Int) + (p : Int)
theorem pvz_end {k n : Nat} {m : List (List Nat)} (h : m.length = n) : pvz k n m = -1 := by
 unfold pvz
 rw [List.drop_eq_nil_of_le (by omega)]; rfl
theorem pvz_step {k i : Nat} {m : List (List Nat)} (h : i < m.length) : pvz k i m = if (m.getD i []).getD k 0 ≠ 0 then (i : Int) else pvz k (i + 1) m := by
 have e : m.getD i [] = m[i] := by rw [List.getD_eq_getElem?_getD, List.getElem?_eq_getElem h]; rfl
 have e2 : Mat.pv k (m[i] :: m.drop (i + 1)) = if m[i].getD k 0 ≠ 0 then some 0 else (Mat.pv k (m.drop (i + 1))).map (· + 1) := rfl
 unfold pvz
 rw [List.drop_eq_getElem_cons h, e, e2]
 by_cases h0 : m[i].getD k 0 ≠ 0
 ·rw [if_pos h0, if_pos h0]; show (i : Int) + ((0 : Nat) : Int) = _; omega
 ·rw [if_neg h0, if_neg h0]
  cases Mat.pv k (m.drop (i + 1)) with
  | none => rfl
  | some p => show (i : Int) + ((p + 1 : Nat) : Int) = ((i + 1 : Nat) : Int) + (p : Int); omega
def clr1 (m : List (List Nat)) (r k : Nat) : List (List Nat) := match Mat.pv k (m.drop r) with
 | none => m
 | some p => Mat.est m r (r + p) k
def clr2 (m s : List (List Nat)) (r k : Nat) : List (List Nat) := match Mat.pv k (m.drop r) with
 | none => s
 | some p => Mat.est2 m s r (r + p) k
set_option maxHeartbeats 16000000 in
set_option maxRecDepth 100000 in
theorem l2clear_e {w0 w : World} {L : List (Value × Env.It)} (E : Env.Env 22 3 w0 w L) (j1 j2 : Nat) (hj : j1 ≠ j2) {g1 c1 g2 c2 n : Nat} {m s : List (List Nat)} (h1 : L[j1]? = some (.slice (some ⟨g1, 0, none⟩) n c1, .mat (upM m))) (h2 : L[j2]? = some (.slice (some ⟨g2, 0, none⟩) n c2, .mat (upM s)))
  {a b : Nat} (hm : Mat.MB' a m) (hs : Mat.MB' b s) (hmn : m.length = n) (hsn : s.length = n) (ha : a ≤ 100) (hb : b ≤ 100) (hn : n ≤ 100) {r k : Nat} (hr : r < n) (hk : k < a) (hb0 : 0 < b) :
  Calls Try.prog 83 #[.slice (some ⟨g1, 0, none⟩) n c1, .slice (some ⟨g2, 0, none⟩) n c2, .int .i64 (r : Int), .int .i64 (k : Int)] w fun e w' => e = .returned (.bool (Mat.pv k (m.drop r)).isSome) ∧ Env.Env 22 3 w0 w' ((L.set j1 (.slice (some ⟨g1, 0, none⟩) n c1, .mat (upM (clr1 m r k)))).set j2 (.slice (some ⟨g2, 0, none⟩) n c2, .mat (upM (clr2 m s r k)))) := by
 obtain ⟨LX, hLX⟩ : ∃ LX : List (List Nat) → List (List Nat) → List (Value × Env.It), LX = fun Y Z => (L.set j1 (.slice (some ⟨g1, 0, none⟩) n c1, .mat (upM Y))).set j2 (.slice (some ⟨g2, 0, none⟩) n c2, .mat (upM Z)) := ⟨_, rfl⟩
 have eL : LX m s = L := by rw [hLX]; show (L.set j1 _).set j2 _ = L; rw [set_same h1, set_same h2]
 have HL1 := Aside0.mk (show ∀ Y Z, (LX Y Z)[j1]? = some (.slice (some ⟨g1, 0, none⟩) n c1, Env.It.mat (upM Y)) from fun Y Z => by rw [hLX]; show ((L.set j1 _).set j2 _)[j1]? = _; rw [List.getElem?_set_ne (Ne.symm hj)]; exact Env.set_at h1)
 have HL2 := Aside0.mk (show ∀ Y Z, (LX Y Z)[j2]? = some (.slice (some ⟨g2, 0, none⟩) n c2, Env.It.mat (upM Z)) from fun Y Z => by rw [hLX]; exact Env.set_at (x := (.slice (some ⟨g2, 0, none⟩) n c2, .mat (upM s))) (by rw [List.getElem?_set_ne hj]; exact h2))
 have HS1 := Aside0.mk (show ∀ Y Z Y', (LX Y Z).set j1 (.slice (some ⟨g1, 0, none⟩) n c1, .mat (upM Y')) = LX Y' Z from fun Y Z Y' => by rw [hLX]; show ((L.set j1 _).set j2 _).set j1 _ = (L.set j1 _).set j2 _; rw [List.set_comm _ _ hj.symm, List.set_set])
 have HS2 := Aside0.mk (show ∀ Y Z Z', (LX Y Z).set j2 (.slice (some ⟨g2, 0, none⟩) n c2, .mat (upM Z')) = LX Y Z' from fun Y Z Z' => by rw [hLX]; show ((L.set j1 _).set j2 _).set j2 _ = (L.set j1 _).set j2 _; rw [List.set_set])
 have HG := Aside0.mk (show ∀ Y Z, LX Y Z = (L.set j1 (.slice (some ⟨g1, 0, none⟩) n c1, .mat (upM Y))).set j2 (.slice (some ⟨g2, 0, none⟩) n c2, .mat (upM Z)) from fun Y Z => by rw [hLX])
 have HE := Aside0.mk (show Env.Env 22 3 w0 w (LX m s) from by rw [eL]; exact E)
 have HLE := Aside0.mk eL
 have HM := Aside0.mk (show Mat.MB' a m ∧ m.length = n from ⟨hm, hmn⟩)
 have HS := Aside0.mk (show Mat.MB' b s ∧ s.length = n from ⟨hs, hsn⟩)
 have HZ := Aside0.mk (show a ≤ 100 ∧ b ≤ 100 ∧ n ≤ 100 ∧ 0 < b from ⟨ha, hb, hn, hb0⟩)
 have r0 : (0 : Int) ≤ (r : Int) := by omega
 have r1 : (r : Int) ≤ 100 := by omega
 have n1 : (n : Int) ≤ 100 := by omega
 clear E hLX eL h1 h2 hm hs hmn hsn ha hb hn hb0 hj
 go_enter Try.func83, Try.ntmps83
 go_wp2
 go_loopg [9, 10] n (fun gg s9 s10 wr => ∃ (i : Nat) (z : Int), r ≤ i ∧ i ≤ n ∧ i - r ≤ gg ∧ z = (i : Int) - 1 ∧ s10 = .int .i64 z ∧ s9 = .int .i64 (pvz k i m) ∧ wr = w)
 case atStart => exact ⟨n, _, by omega, Nat.le_refl _, by omega, rfl, by go_num, by rw [pvz_end HM.out.2], rfl⟩
 case round =>
  obtain ⟨i, z, hri, hin, hgi, hz, rfl, rfl, rfl⟩ := hrel
  by_cases hlt : r < i
  ·obtain ⟨i, rfl⟩ : ∃ i', i = i' + 1 := ⟨i - 1, by omega⟩
   obtain rfl : z = (i : Int) := by omega
   clear hz
   have i0 : (0 : Int) ≤ (i : Int) := by omega
   have i1 : (i : Int) ≤ 100 := by omega
   have q2 : ((r : Int) ≤ (i : Int)) = True := eq_true (by omega)
   have q3 : (r ≤ i) = True := eq_true (by omega)
   have q4 : ((i : Int) < (n : Int)) = True := eq_true (by omega)
   have q5 : (i < n) = True := eq_true (by omega)
   have q6 : ((k : Int) < (a : Int)) = True := eq_true (by omega)
   have q7 : (k < a) = True := eq_true (by omega)
   obtain ⟨g', gi, ci, hA', hh, _, hx, _, _⟩ := HE.out.mput2 (by decide) (HL1.out _ _) (i := i) (q := k) (by rw [upM_length, HM.out.2]; omega) (by rw [upM_getD, Poly.up_length, (HM.out.1.get (i := i) (by rw [HM.out.2]; omega)).1]; exact hk)
   injection hA' with hA'
   injection hA' with hA'
   subst hA'
   rw [upM_getD, Poly.up_length, (HM.out.1.get (i := i) (by rw [HM.out.2]; omega)).1] at hh
   rw [upM_getD, Poly.rd_up] at hx
   have hst := pvz_step (k := k) (m := m) (i := i) (by rw [HM.out.2]; omega)
   have HST := Aside0.mk hst
   clear hst
   generalize (m.getD i []).getD k 0 = x at hx HST
   by_cases hx0 : x = 0
   ·have e1 : ((x : Int) != 0) = false := by rw [hx0]; rfl
    have e2 : ((x : Int) == 0) = true := by rw [hx0]; rfl
    have hst := HST.out
    rw [if_neg (by omega)] at hst
    replace HST := Aside0.mk hst
    clear hst hx0
    go_wp2
    go_roundg (i - r)
    case measure => omega
    case rel => exact ⟨i, _, by omega, by omega, by omega, rfl, by go_num, by rw [HST.out], rfl⟩
   ·have e1 : ((x : Int) != 0) = true := by rw [bne_iff_ne]; omega
    have e2 : ((x : Int) == 0) = false := by rw [beq_eq_false_iff_ne]; omega
    have hst := HST.out
    rw [if_pos hx0] at hst
    replace HST := Aside0.mk hst
    clear hst hx0
    go_wp2
    go_roundg (i - r)
    case measure => omega
    case rel => exact ⟨i, _, by omega, by omega, by omega, rfl, by go_num, by rw [HST.out], rfl⟩
  ·obtain rfl : i = r := by omega
   subst hz
   have q1 : ((i : Int) ≤ (i : Int) - 1) = False := eq_false (by omega)
   have i0 : (0 : Int) ≤ (i : Int) := by omega
   have i1 : (i : Int) ≤ 100 := by omega
   have epz : pvz k i m = match Mat.pv k (m.drop i) with | none => -1 | some p => (i : Int) + (p : Int) := rfl
   cases hpv : Mat.pv k (m.drop i) with
   | none =>
    rw [hpv] at epz
    replace epz : pvz k i m = -1 := epz
    rw [epz]
    have HPV := Aside0.mk hpv
    clear epz hpv
    go_wp2
    go_ret
    refine ⟨by rw [HPV.out]; rfl, ?_⟩
    unfold clr1 clr2
    rw [HPV.out, ← HG.out]
    exact HE.out
   | some p =>
    rw [hpv] at epz
    replace epz : pvz k i m = (i : Int) + (p : Int) := epz
    rw [epz]
    have HPV := Aside0.mk hpv
    have hps := Mat.pv_some hpv
    rw [List.length_drop, HM.out.2] at hps
    have hpn : i + p < n := by omega
    have q2 : ((i : Int) + (p : Int) < 0) = False := eq_false (by omega)
    have q3 : ((i + p : Nat) : Int) = (i : Int) + (p : Int) := by omega
    have hml := HM.out.2
    have hsl := HS.out.2
    have hsw1 := l2swap_e (HE.out) j1 (m := m) (c := c1) (A := some ⟨g1, 0, none⟩) (by rw [hml]; exact HL1.out _ _) (a := i) (b := i + p) (by omega) (by omega)
    rw [hml, HS1.out, q3] at hsw1
    have HSW1 := Aside0.mk hsw1
    have HPP := Aside0.mk (show i + p < n ∧ (0 ≤ (i : Int) + (p : Int)) from ⟨hpn, by omega⟩)
    clear hsw1 hps hpn hpv epz q3 hml hsl
    go_wp2_with fail
    refine HSW1.out.mono ?_
    rintro e w1 ⟨rfl, hE1⟩
    have HE1 := Aside0.mk hE1
    have hsl := HS.out.2
    have hsw2 := l2swap_e (HE1.out) j2 (m := s) (c := c2) (A := some ⟨g2, 0, none⟩) (by rw [hsl]; exact HL2.out _ _) (a := i) (b := i + p) (by rw [hsl]; omega) (by rw [hsl]; exact HPP.out.1)
    rw [hsl, HS2.out, show ((i + p : Nat) : Int) = (i : Int) + (p : Int) by omega] at hsw2
    have HSW2 := Aside0.mk hsw2
    clear hsw2 hsl hE1 HSW1
    go_wp2_with fail
    refine HSW2.out.mono ?_
    rintro e w2 ⟨rfl, hE2⟩
    obtain ⟨M1, hM1⟩ : ∃ M1, M1 = Mat.swp m i (i + p) := ⟨_, rfl⟩
    obtain ⟨S1, hS1⟩ : ∃ S1, S1 = Mat.swp s i (i + p) := ⟨_, rfl⟩
    rw [← hM1, ← hS1] at hE2
    have HM1 := Aside0.mk (show Mat.MB' a M1 ∧ M1.length = n from by rw [hM1]; exact ⟨Mat.swp_MB HM.out.1 (by rw [HM.out.2]; exact hr) (by rw [HM.out.2]; exact HPP.out.1), by rw [Mat.swp_length]; exact HM.out.2⟩)
    have HS1' := Aside0.mk (show Mat.MB' b S1 ∧ S1.length = n from by rw [hS1]; exact ⟨Mat.swp_MB HS.out.1 (by rw [HS.out.2]; exact hr) (by rw [HS.out.2]; exact HPP.out.1), by rw [Mat.swp_length]; exact HS.out.2⟩)
    have HME := Aside0.mk hM1
    have HSE := Aside0.mk hS1
    have HE2 := Aside0.mk hE2
    clear HE HE1 HSW2 hE2 hM1 hS1 q1 q2
    -- the row at i is divided by what it holds at k
    obtain ⟨x, hx⟩ : ∃ x, x = (M1.getD i []).getD k 0 := ⟨_, rfl⟩
    have HXE := Aside0.mk hx
    have hil : i < M1.length := by rw [HM1.out.2]; exact hr
    have hrw := HM1.out.1.get hil
    have HXB := Aside0.mk (show x < 256 from by rw [hx]; exact Poly.AllB.get hrw.2 k)
    obtain ⟨g', gu, cu, hA', hh1, _, hx1, _, _⟩ := HE2.out.mput2 (by decide) (HL1.out M1 S1) (i := i) (q := k) (by rw [upM_length]; exact hil) (by rw [upM_getD, Poly.up_length, hrw.1]; exact hk)
    injection hA' with hA'
    injection hA' with hA'
    subst hA'
    rw [upM_getD, Poly.up_length, hrw.1] at hh1
    rw [upM_getD, Poly.rd_up, ← hx] at hx1
    have hsc := l2scale_e (HE2.out) j1 (m := M1) (c := c1) (g := g1) (by rw [HM1.out.2]; exact HL1.out _ _) HM1.out.1 HZ.out.1 hil hh1 x HXB.out
    rw [HM1.out.2, HS1.out] at hsc
    have HSC := Aside0.mk hsc
    have q4 : ((i : Int) < (n : Int)) = True := eq_true (by omega)
    have q5 : (i < n) = True := eq_true hr
    have q6 : ((k : Int) < (a : Int)) = True := eq_true (by omega)
    have q7 : (k < a) = True := eq_true hk
    have k0 : (0 : Int) ≤ (k : Int) := by omega
    clear hsc hrw hil hx
    go_wp2_with fail
    refine HSC.out.mono ?_
    rintro e w3 ⟨rfl, hE3⟩
    obtain ⟨T, hT⟩ : ∃ T, T = Mat.rscale (Gf.gi x) (M1.getD i []) := ⟨_, rfl⟩
    rw [← hT] at hE3
    have HE3 := Aside0.mk hE3
    have HTE := Aside0.mk hT
    clear HSC hE3 hT HE2 hh1 hx1
    have hil : i < S1.length := by rw [HS1'.out.2]; exact hr
    have hrw := HS1'.out.1.get hil
    obtain ⟨g', gv, cv, hA', hh1, _, hx1, _, _⟩ := HE3.out.mput2 (by decide) (HL2.out _ S1) (i := i) (q := 0) (by rw [upM_length]; exact hil) (by rw [upM_getD, Poly.up_length, hrw.1]; exact HZ.out.2.2.2)
    injection hA' with hA'
    injection hA' with hA'
    subst hA'
    rw [upM_getD, Poly.up_length, hrw.1] at hh1
    have hsc := l2scale_e (HE3.out) j2 (m := S1) (c := c2) (g := g2) (by rw [HS1'.out.2]; exact HL2.out _ _) HS1'.out.1 HZ.out.2.1 hil hh1 x HXB.out
    rw [HS1'.out.2, HS2.out] at hsc
    have HSC := Aside0.mk hsc
    clear hsc hrw hil hx1
    go_wp2_with fail
    refine HSC.out.mono ?_
    rintro e w4 ⟨rfl, hE4⟩
    obtain ⟨U, hU⟩ : ∃ U, U = Mat.rscale (Gf.gi x) (S1.getD i []) := ⟨_, rfl⟩
    rw [← hU] at hE4
    have HE4 := Aside0.mk hE4
    have HUE := Aside0.mk hU
    clear HSC hE4 hU HE3 hh1
    -- the others are lessened
    obtain ⟨C, hC⟩ : ∃ C, C = Mat.col k M1 := ⟨_, rfl⟩
    have HCE := Aside0.mk hC
    have HCB := Aside0.mk (show Poly.AllB C from by rw [hC]; exact Mat.col_bytes HM1.out.1 k)
    have HCA := Aside0.mk (show ∀ q, C.getD q 0 = (M1.getD q []).getD k 0 from fun q => by rw [hC]; exact Mat.col_at k M1 q)
    have HCL := Aside0.mk (show C.length = (M1.set i T).length from by rw [hC, Mat.col_length, List.length_set])
    have HCL2 := Aside0.mk (show C.length = (S1.set i U).length from by rw [hC, Mat.col_length, List.length_set, HM1.out.2, HS1'.out.2])
    have HNL := Aside0.mk (show (M1.set i T).length = n from by rw [List.length_set]; exact HM1.out.2)
    have HNL2 := Aside0.mk (show (S1.set i U).length = n from by rw [List.length_set]; exact HS1'.out.2)
    have HTL := Aside0.mk (show T.length = a ∧ Poly.AllB T from by rw [HTE.out]; have h9 := HM1.out.1.get (i := i) (by rw [HM1.out.2]; exact hr); exact ⟨by rw [Mat.rscale_length]; exact h9.1, Mat.rscale_bytes _ h9.2⟩)
    have HUL := Aside0.mk (show U.length = b ∧ Poly.AllB U from by rw [HUE.out]; have h9 := HS1'.out.1.get (i := i) (by rw [HS1'.out.2]; exact hr); exact ⟨by rw [Mat.rscale_length]; exact h9.1, Mat.rscale_bytes _ h9.2⟩)
    have HB2 := Aside0.mk (show Mat.MB' a (M1.set i T) ∧ Mat.MB' b (S1.set i U) from ⟨HM1.out.1.set i HTL.out, HS1'.out.1.set i HUL.out⟩)
    have HMR := Aside0.mk (show (M1.set i T).getD i [] = T ∧ (S1.set i U).getD i [] = U from ⟨by rw [Mat.getD_setL _ _ _ _ (by rw [HM1.out.2]; exact hr), if_pos rfl], by rw [Mat.getD_setL _ _ _ _ (by rw [HS1'.out.2]; exact hr), if_pos rfl]⟩)
    have HMO := Aside0.mk (show ∀ q, ¬ q = i → (M1.set i T).getD q [] = M1.getD q [] from fun q hq => by rw [Mat.getD_setL _ _ _ _ (by rw [HM1.out.2]; exact hr), if_neg hq])
    have HEZ := Aside0.mk (show Env.Env 22 3 w0 w4 (LX (Mat.erT T i C (M1.set i T) 0) (Mat.erT U i C (S1.set i U) 0)) from by rw [Mat.erT_zero, Mat.erT_zero]; exact HE4.out)
    clear hC HE4
    go_wp2
    go_loopg [62] n (fun gg s62 wq => ∃ q : Nat, q ≤ n ∧ n - q ≤ gg ∧ s62 = .int .i64 q ∧ Aside0 (Env.Env 22 3 w0 wq (LX (Mat.erT T i C (M1.set i T) q) (Mat.erT U i C (S1.set i U) q))))
    case atStart => exact ⟨0, Nat.zero_le _, by omega, rfl, HEZ⟩
    case round =>
     clear HEZ
     obtain ⟨q, hq', hgq, rfl, HSI⟩ := hrel
     have z0 : (0 : Int) ≤ (q : Int) := by omega
     have z1 : (q : Int) ≤ 100 := by omega
     by_cases hqn : q < n
     ·have hYl : (Mat.erT T i C (M1.set i T) q).length = n := by rw [Mat.erT_length HCL.out]; exact HNL.out
      have hYi : (Mat.erT T i C (M1.set i T) q).getD q [] = (M1.set i T).getD q [] := by
       rw [List.getD_eq_getElem?_getD, Mat.erT_at HCL.out (Nat.le_refl _) (by rw [HNL.out]; exact hqn)]; rfl
      have hYr : (Mat.erT T i C (M1.set i T) q).getD i [] = T := by rw [Mat.erT_top HCL.out q (by rw [HNL.out]; exact hr)]; exact HMR.out.1
      have hY2l : (Mat.erT U i C (S1.set i U) q).length = n := by rw [Mat.erT_length HCL2.out]; exact HNL2.out
      have hY2i : (Mat.erT U i C (S1.set i U) q).getD q [] = (S1.set i U).getD q [] := by
       rw [List.getD_eq_getElem?_getD, Mat.erT_at HCL2.out (Nat.le_refl _) (by rw [HNL2.out]; exact hqn)]; rfl
      have hY2r : (Mat.erT U i C (S1.set i U) q).getD i [] = U := by rw [Mat.erT_top HCL2.out q (by rw [HNL2.out]; exact hr)]; exact HMR.out.2
      have hstep := Mat.erT_succ (top := T) (a := i) HCL.out (i := q) (by rw [HNL.out]; exact hqn)
      have hstep2 := Mat.erT_succ (top := U) (a := i) HCL2.out (i := q) (by rw [HNL2.out]; exact hqn)
      have hMB : Mat.MB' a (Mat.erT T i C (M1.set i T) q) := fun y hy => by
       unfold Mat.erT at hy
       rcases List.mem_append.1 hy with h9 | h9
       ·exact Mat.er_MB HTL.out.1 0 (fun z hz => HCB.out z (List.mem_of_mem_take hz)) (fun z hz => HB2.out.1 z (List.mem_of_mem_take hz)) y h9
       ·exact HB2.out.1 y (List.mem_of_mem_drop h9)
      have hMB2 : Mat.MB' b (Mat.erT U i C (S1.set i U) q) := fun y hy => by
       unfold Mat.erT at hy
       rcases List.mem_append.1 hy with h9 | h9
       ·exact Mat.er_MB HUL.out.1 0 (fun z hz => HCB.out z (List.mem_of_mem_take hz)) (fun z hz => HB2.out.2 z (List.mem_of_mem_take hz)) y h9
       ·exact HB2.out.2 y (List.mem_of_mem_drop h9)
      have hra := HB2.out.1.get (i := q) (by rw [HNL.out]; exact hqn)
      have hrb := HB2.out.2.get (i := q) (by rw [HNL2.out]; exact hqn)
      obtain ⟨Z, hZ⟩ : ∃ Z, Z = Mat.erT T i C (M1.set i T) q := ⟨_, rfl⟩
      obtain ⟨V, hV⟩ : ∃ V, V = Mat.erT U i C (S1.set i U) q := ⟨_, rfl⟩
      rw [← hZ] at hYl hYi hYr hstep HSI hMB
      rw [← hV] at hY2l hY2i hY2r hstep2 HSI hMB2
      obtain ⟨y, hy⟩ : ∃ y, y = (Z.getD q []).getD k 0 := ⟨_, rfl⟩
      have hyc : ¬ q = i → y = C.getD q 0 := fun h => by rw [hy, hYi, HMO.out q h, HCA.out]
      have HYB := Aside0.mk (show y < 256 from by rw [hy, hYi]; exact Poly.AllB.get hra.2 k)
      obtain ⟨g', gi, ci, hA', hh, _, hx, _, _⟩ := HSI.out.mput2 (by decide) (HL1.out Z V) (i := q) (q := k) (by rw [upM_length, hYl]; exact hqn) (by rw [upM_getD, hYi, Poly.up_length, hra.1]; exact hk)
      injection hA' with hA'
      injection hA' with hA'
      subst hA'
      rw [upM_getD, hYi, Poly.up_length, hra.1] at hh
      rw [upM_getD, Poly.rd_up, ← hy] at hx
      have p3 : ((q : Int) < (n : Int)) = True := eq_true (by omega)
      have p4 : (q < n) = True := eq_true hqn
      by_cases hwk : q = i ∨ y = 0
      ·have hst : Mat.erT T i C (M1.set i T) (q + 1) = Z ∧ Mat.erT U i C (S1.set i U) (q + 1) = V := by
        rw [← hstep, ← hstep2]
        unfold Mat.erow
        by_cases hqi : q = i
        ·rw [if_pos hqi, if_pos hqi, ← hYi, ← hY2i]; exact ⟨Mat.set_self _ _, Mat.set_self _ _⟩
        ·have hy0 : C.getD q 0 = 0 := by rw [← hyc hqi]; exact hwk.resolve_left hqi
         rw [if_neg hqi, if_neg hqi, hy0, Mat.radd_nul (by rw [hra.1, HTL.out.1]), Mat.radd_nul (by rw [hrb.1, HUL.out.1]), ← hYi, ← hY2i]; exact ⟨Mat.set_self _ _, Mat.set_self _ _⟩
       have HST := Aside0.mk hst
       clear hst hstep hstep2 hYl hYi hYr hY2l hY2i hY2r hMB hMB2 hra hrb hyc hZ hV hy
       by_cases hqi : q = i
       ·have e1 : ((q : Int) != (i : Int)) = false := by rw [hqi]; simp
        have e2 : ((q : Int) == (i : Int)) = true := by rw [hqi]; simp
        clear hwk hqi
        go_wp2
        go_roundg (n - (q + 1))
        case measure => omega
        case rel => exact ⟨q + 1, by omega, by omega, by go_num, ⟨by rw [HST.out.1, HST.out.2]; exact HSI.out⟩⟩
       ·have hy0 : y = 0 := hwk.resolve_left hqi
        subst hy0
        have e1 : ((q : Int) != (i : Int)) = true := by rw [bne_iff_ne]; omega
        have e2 : ((q : Int) == (i : Int)) = false := by rw [beq_eq_false_iff_ne]; omega
        clear hwk hqi
        go_wp2
        go_roundg (n - (q + 1))
        case measure => omega
        case rel => exact ⟨q + 1, by omega, by omega, by go_num, ⟨by rw [HST.out.1, HST.out.2]; exact HSI.out⟩⟩
      ·have hqi : ¬ q = i := fun h => hwk (.inl h)
       have hy0 : ¬ y = 0 := fun h => hwk (.inr h)
       have e1 : ((q : Int) != (i : Int)) = true := by rw [bne_iff_ne]; omega
       have e2 : ((q : Int) == (i : Int)) = false := by rw [beq_eq_false_iff_ne]; omega
       have e3 : ((y : Int) != 0) = true := by rw [bne_iff_ne]; omega
       have e4 : ((y : Int) == 0) = false := by rw [beq_eq_false_iff_ne]; omega
       have hst1 : Z.set q (Mat.radd y (Z.getD q []) (Z.getD i [])) = Mat.erT T i C (M1.set i T) (q + 1) := by
        rw [← hstep]; unfold Mat.erow; rw [if_neg hqi, ← hyc hqi, hYi, hYr]
       have hst2 : V.set q (Mat.radd y (V.getD q []) (V.getD i [])) = Mat.erT U i C (S1.set i U) (q + 1) := by
        rw [← hstep2]; unfold Mat.erow; rw [if_neg hqi, ← hyc hqi, hY2i, hY2r]
       have HQ := HSI.out.drewN 1
       obtain ⟨g', gt, ct, hA', ht, _, _, _, _⟩ := HQ.mput2 (by decide) (HL1.out Z V) (i := i) (q := k) (by rw [upM_length, hYl]; exact hr) (by rw [upM_getD, hYr, Poly.up_length, HTL.out.1]; exact hk)
       injection hA' with hA'
       injection hA' with hA'
       subst hA'
       rw [upM_getD, hYr, Poly.up_length, HTL.out.1] at ht
       have hadd := l2addM_e HQ j1 (m := Z) (c := c1) (g := g1) (by rw [hYl]; exact HL1.out _ _) hMB HZ.out.1 (i := q) (r := i) (by rw [hYl]; exact hqn) (by rw [hYl]; exact hr) hqi hh ht y HYB.out
       rw [hYl, hst1, HS1.out] at hadd
       have HAD := Aside0.mk hadd
       have hh0 : wr.cell? ⟨g1, q, none⟩ = some (.slice (some ⟨gi, 0, none⟩) a ci) := hh
       have ht0 : wr.cell? ⟨g1, i, none⟩ = some (.slice (some ⟨gt, 0, none⟩) a ct) := ht
       have HS2B := Aside0.mk (show Mat.MB' b V ∧ V.length = n ∧ (V.getD q []).length = b ∧ (V.getD i []).length = b from ⟨hMB2, hY2l, by rw [hY2i]; exact hrb.1, by rw [hY2r]; exact HUL.out.1⟩)
       have HST2 := Aside0.mk hst2
       have HQI := Aside0.mk hqi
       clear hh ht hst1 hst2 hadd HQ hstep hstep2 hYl hYi hYr hY2l hY2i hY2r hMB hMB2 hra hrb hyc hZ hV hy hwk hqi hy0
       go_wp2_with fail
       go_still_tail 9, (by kernel_rfl)
       change wpList _ _ _ _ _ (wr.drewN 1)
       go_wp2_with fail
       refine HAD.out.mono ?_
       rintro e w5 ⟨rfl, hE5⟩
       have HQ := hE5.drewN 1
       obtain ⟨g', gp, cp, hA', hh, _, _, _, _⟩ := HQ.mput2 (by decide) (HL2.out _ V) (i := q) (q := 0) (by rw [upM_length, HS2B.out.2.1]; exact hqn) (by rw [upM_getD, Poly.up_length, HS2B.out.2.2.1]; exact HZ.out.2.2.2)
       injection hA' with hA'
       injection hA' with hA'
       subst hA'
       obtain ⟨g', gt', ct', hA', ht, _, _, _, _⟩ := HQ.mput2 (by decide) (HL2.out _ V) (i := i) (q := 0) (by rw [upM_length, HS2B.out.2.1]; exact hr) (by rw [upM_getD, Poly.up_length, HS2B.out.2.2.2]; exact HZ.out.2.2.2)
       injection hA' with hA'
       injection hA' with hA'
       subst hA'
       rw [upM_getD, Poly.up_length, HS2B.out.2.2.1] at hh
       rw [upM_getD, Poly.up_length, HS2B.out.2.2.2] at ht
       have hadd := l2addM_e HQ j2 (m := V) (c := c2) (g := g2) (by rw [HS2B.out.2.1]; exact HL2.out _ _) HS2B.out.1 HZ.out.2.1 (i := q) (r := i) (by rw [HS2B.out.2.1]; exact hqn) (by rw [HS2B.out.2.1]; exact hr) HQI.out hh ht y HYB.out
       rw [HS2B.out.2.1, HST2.out, HS2.out] at hadd
       have HAD2 := Aside0.mk hadd
       have hh5 : w5.cell? ⟨g2, q, none⟩ = some (.slice (some ⟨gp, 0, none⟩) b cp) := hh
       have ht5 : w5.cell? ⟨g2, i, none⟩ = some (.slice (some ⟨gt', 0, none⟩) b ct') := ht
       clear hh ht hadd HQ hE5 HAD hh0 ht0 hx
       go_wp2_with fail
       go_still_tail 9, (by kernel_rfl)
       change wpList _ _ _ _ _ (w5.drewN 1)
       go_wp2_with fail
       refine HAD2.out.mono ?_
       rintro e w6 ⟨rfl, hE6⟩
       have HE6 := Aside0.mk hE6
       clear hE6 HAD2 hh5 ht5
       go_wp2
       go_roundg (n - (q + 1))
       case measure => omega
       case rel => exact ⟨q + 1, by omega, by omega, by go_num, HE6⟩
     ·have hqe : q = n := by omega
      have p3 : ((q : Int) < (n : Int)) = False := eq_false (by omega)
      have hest : Mat.erT T i C (M1.set i T) q = Mat.est m i (i + p) k := by
       rw [hqe, ← HNL.out, Mat.erT_all HCL.out]
       unfold Mat.est
       rw [← HME.out]
       unfold Mat.top
       rw [← HXE.out, ← HTE.out, ← HCE.out]
      have hest2 : Mat.erT U i C (S1.set i U) q = Mat.est2 m s i (i + p) k := by
       rw [hqe, ← HNL2.out, Mat.erT_all HCL2.out]
       unfold Mat.est2
       rw [← HME.out, ← HSE.out]
       unfold Mat.top
       rw [← HXE.out, ← HUE.out, ← HCE.out]
      have hE7 := HSI.out
      rw [hest, hest2, HG.out] at hE7
      have HE7 := Aside0.mk hE7
      clear hE7 hest hest2 HSI hqe
      go_wp2
      go_ret
      refine ⟨by rw [HPV.out]; rfl, ?_⟩
      unfold clr1 clr2
      rw [HPV.out]
      exact HE7.out

def gj : Nat → Nat → List (List Nat) → List (List Nat) → Option (List (List Nat))
 | 0, _, _, s => some s
 | d + 1, k, m, s => match Mat.pv k (m.drop k) with
  | none => none
  | some _ => gj d (k + 1) (clr1 m k k) (clr2 m s k k)
theorem gj_sv : ∀ (d k : Nat) (m s : List (List Nat)), k + d = m.length → gj d k m s = if (Mat.sv d k k m).2 < m.length then none else some (Mat.sv2 d k k m s)
 | 0, k, m, s, h => by
  show some s = if k < m.length then none else some s
  rw [if_neg (by omega)]
 | d + 1, k, m, s, h => by
  cases hp : Mat.pv k (m.drop k) with
  | none =>
   have h9 := Mat.sv_le d (k + 1) k m
   have e1 : Mat.sv (d + 1) k k m = Mat.sv d (k + 1) k m := by conv => lhs; unfold Mat.sv; rw [hp]
   have e3 : gj (d + 1) k m s = none := by unfold gj; rw [hp]
   rw [e3, e1, if_pos (by omega)]
  | some p =>
   have e1 : Mat.sv (d + 1) k k m = if k + 1 = m.length then (Mat.est m k (k + p) k, k + 1) else Mat.sv d (k + 1) (k + 1) (Mat.est m k (k + p) k) := by conv => lhs; unfold Mat.sv; rw [hp]
   have e2 : Mat.sv2 (d + 1) k k m s = if k + 1 = m.length then Mat.est2 m s k (k + p) k else Mat.sv2 d (k + 1) (k + 1) (Mat.est m k (k + p) k) (Mat.est2 m s k (k + p) k) := by conv => lhs; unfold Mat.sv2; rw [hp]
   have e3 : gj (d + 1) k m s = gj d (k + 1) (Mat.est m k (k + p) k) (Mat.est2 m s k (k + p) k) := by conv => lhs; unfold gj clr1 clr2; rw [hp]
   by_cases hk : k + 1 = m.length
   ·rw [if_pos hk] at e1 e2
    rw [e3, e1, e2, if_neg (by show ¬ k + 1 < m.length; omega)]
    obtain rfl : d = 0 := by omega
    rfl
   ·rw [if_neg hk] at e1 e2
    have ih := gj_sv d (k + 1) (Mat.est m k (k + p) k) (Mat.est2 m s k (k + p) k) (by rw [Mat.est_length]; omega)
    rw [Mat.est_length] at ih
    rw [e3, e1, e2, ih]
theorem gj_inv (m : List (List Nat)) : gj m.length 0 m (Mat.idM m.length) = Mat.inv m := gj_sv m.length 0 m (Mat.idM m.length) (by omega)
theorem clr1_MB {c : Nat} {m : List (List Nat)} (h : Mat.MB' c m) (r k : Nat) (hr : r < m.length) : Mat.MB' c (clr1 m r k) := by
 unfold clr1
 cases hp : Mat.pv k (m.drop r) with
 | none => exact h
 | some p =>
  have h9 := (Mat.pv_some hp).1
  rw [List.length_drop] at h9
  exact Mat.est_MB h k hr (by omega)
theorem clr1_length (m : List (List Nat)) (r k : Nat) : (clr1 m r k).length = m.length := by
 unfold clr1
 split
 ·rfl
 ·exact Mat.est_length ..
theorem clr2_MB {c d : Nat} {m s : List (List Nat)} (h : Mat.MB' c m) (hs : Mat.MB' d s) (hl : s.length = m.length) (r k : Nat) (hr : r < m.length) : Mat.MB' d (clr2 m s r k) := by
 unfold clr2
 cases hp : Mat.pv k (m.drop r) with
 | none => exact hs
 | some p =>
  have h9 := (Mat.pv_some hp).1
  rw [List.length_drop] at h9
  exact Mat.est2_MB h hs hl k hr (by omega)
theorem clr2_length {m s : List (List Nat)} (hl : s.length = m.length) (r k : Nat) : (clr2 m s r k).length = m.length := by
 unfold clr2
 split
 ·exact hl
 ·rw [Mat.est2_length hl]
def invW (m : List (List Nat)) : List (List Int) × Bool := match Mat.inv m with
 | none => ([], false)
 | some s => (upM s, true)

theorem idL_up (n : Nat) : idL n n = upM (Mat.idM n) := by
 unfold idL idR upM Mat.idM
 rw [List.map_map]
 refine List.map_congr_left fun i _ => ?_
 show _ = Poly.up ((List.replicate n 0).set i 1)
 rw [← Poly.up_set, ← Poly.up_zeros]; rfl

theorem pv_fidx {k : Nat} : ∀ (M : List (List Nat)) (i : Int), fidx (fun row : List Int => rd row (k : Int) != 0) (upM M) i = match Mat.pv k M with | none => -1 | some j => i + (j : Int)
 | [], i => rfl
 | r :: M, i => by
  have ih := pv_fidx (k := k) M (i + 1)
  have eU : Mat.pv k (r :: M) = if r.getD k 0 ≠ 0 then some 0 else (Mat.pv k M).map (· + 1) := rfl
  have e : (rd (Poly.up r) (k : Int) != 0) = decide (r.getD k 0 ≠ 0) := by
   rw [Poly.rd_up, Bool.eq_iff_iff, bne_iff_ne, decide_eq_true_eq]; omega
  show (if (rd (Poly.up r) (k : Int) != 0) = true then i else fidx _ (upM M) (i + 1)) = _
  rw [e, ih, eU]
  by_cases h : r.getD k 0 ≠ 0
  ·rw [decide_eq_true h, if_pos rfl, if_pos h]; simp
  ·rw [decide_eq_false h, if_neg (by decide), if_neg h]
   cases Mat.pv k M with
   | none => rfl
   | some j => show i + 1 + (j : Int) = i + ((j + 1 : Nat) : Int); omega

set_option maxHeartbeats 4000000 in
theorem scan_solved_idx (p : List Int → Bool) (k0 : Value) (A : Option Addr) (c : Nat) (l : List (List Int)) (w : World) (hr : Kd.C (Kd.slice 3 (Kd.int .i64)) w A l.length l) (hc : l.length ≤ c) (hone : ∀ (q : Nat) (A1 : Option Addr) (c1 : Nat) (x : List Int), x ∈ l → (Kd.int .i64).C (w.drewN q) A1 x.length x → x.length ≤ c1 → Calls Try.prog 80 #[.slice A1 x.length c1, k0] (w.drewN q) fun e w' => e = .returned (.bool (p x)) ∧ ∃ q', w' = (w.drewN q).drewN q') :
  Calls Try.prog 79 #[.slice A l.length c, .func (.func 80) #[] #[k0]] w fun e w' => e = .returned (.int .i64 (fidx p l 0)) ∧ Drawn0 w w' := by
 have hn : l.length ≤ 9223372036854775807 := hr.2.1
 have HR := Aside0.mk hr
 have HC := Aside0.mk hc
 have HO := Aside0.mk hone
 clear hr hc hone
 have eg : ∀ args w, (callFunc 80 args).run Try.prog w = .ok (.enter 80 args) w := enters_of Try.func80 (by kernel_rfl) rfl
 go_enter Try.func79, Try.ntmps79
 go_wp2
 go_loopg [5, 8] l.length (fun gg _ s8 wr => ∃ kk q : Nat, kk ≤ l.length ∧ l.length - kk ≤ gg ∧ s8 = .int .i64 kk ∧ wr = w.drewN q ∧ Aside0 (fidx p (l.drop kk) kk = fidx p l 0))
 case atStart => exact ⟨0, 0, Nat.zero_le _, by omega, rfl, rfl, ⟨rfl⟩⟩
 case round =>
  obtain ⟨kk, q, hkk, hg, rfl, rfl, E⟩ := hrel
  by_cases hlt : kk < l.length
  ·have hltz : (kk : Int) < (l.length : Int) := by omega
   obtain ⟨ad, A1, c1, ea, hx, hl1, hi⟩ := Mx.rows_at HR.out kk hlt hlt
   cases ea
   have E2 := Aside0.mk (List.drop_eq_getElem_cons hlt)
   have ED := E.out
   rw [E2.out, fidx_cons] at ED
   have hcall := HO.out q A1 c1 l[kk] (List.getElem_mem hlt) (Kd.C_drewN hi q) hl1
   clear hi
   generalize l[kk] = y at hx hl1 hcall ED
   cases hq : p y with
   | true =>
    rw [if_pos hq] at ED
    have ED' := Aside0.mk ED
    clear ED
    rw [hq] at hcall
    go_wp2_with (go_at_fn 80; refine hcall.mono ?_; rintro e w' ⟨rfl, q', rfl⟩)
    go_ret
    exact ⟨congrArg (fun z => Ending.returned (Value.int .i64 z)) ED'.out, ⟨_, rfl⟩⟩
   | false =>
    rw [if_neg (by rw [hq]; decide)] at ED
    have ED' := Aside0.mk ED
    clear ED
    rw [hq] at hcall
    go_wp2_with (go_at_fn 80; refine hcall.mono ?_; rintro e w' ⟨rfl, q', rfl⟩)
    go_roundg (l.length - (kk + 1))
    case measure => omega
    case rel => exact ⟨kk + 1, _, by omega, by omega, by go_num, rfl, ⟨by rw [← ED'.out]; congr 1⟩⟩
  ·have : kk = l.length := by omega
   subst this
   go_wp2
   go_ret
   refine ⟨?_, ⟨q, rfl⟩⟩
   have := E.out
   rw [List.drop_length] at this
   rw [← this]
   rfl

set_option maxHeartbeats 4000000 in
theorem impl_solved_one (g k : Nat) (A : Option Addr) (c : Nat) (row : List Int) (w : World) (hg : w.cell? ⟨g, 0, none⟩ = some (.int .i64 (k : Int))) (hk : k < row.length) (hr : (Kd.int .i64).C w A row.length row) :
  Calls Try.prog 80 #[.slice A row.length c, .pointer (some ⟨g, 0, none⟩)] w fun e w' => e = .returned (.bool (rd row (k : Int) != 0)) ∧ ∃ q', w' = w.drewN q' := by
 obtain ⟨ad, rfl, hx⟩ := Kd.at_int hr (k : Int) (by omega) (by omega)
 rw [Int.toNat_natCast] at hx
 have p1 : ((k : Int) < (row.length : Int)) = True := eq_true (by omega)
 have p2 : (k < row.length) = True := eq_true hk
 have p3 : (0 ≤ (k : Int)) = True := eq_true (by omega)
 generalize rd row (k : Int) = x at hx ⊢
 clear hr hk
 by_cases h : x = 0
 ·subst h
  go_enter Try.func80, Try.ntmps80
  go_wp2
  go_ret
  exact ⟨rfl, 0, rfl⟩
 ·have q1 : (x != 0) = true := bne_iff_ne.mpr h
  have q2 : (x == 0) = false := beq_eq_false_iff_ne.mpr h
  rw [q1]
  clear h
  go_enter Try.func80, Try.ntmps80
  go_wp2
  go_ret
  exact ⟨rfl, 0, rfl⟩
def T_so12 : Bool × List (List Nat × List Nat) := (true, [([], []), ([], []), ([0, 1], [0, 1]), ([2], [2]), ([], []), ([], []), ([], []), ([5, 6], [5, 6]), ([7], [7]), ([], []), ([8, 9], [8, 9]), ([10], [10]), ([], []), ([11, 12], [11, 12]), ([3, 4, 0, 1, 2, 3, 4, 5, 6, 7, 8, 9, 10, 11, 12, 13], [3, 4]), ([14, 13, 13, 0, 1, 2, 3, 4, 5, 6, 7, 8, 9, 10, 11, 12, 13], [13, 14])])
def B_so12 : List Nat := [0, 0, 3, 7, 0, 0, 0, 96, 224, 0, 992, 2016, 0, 8160, 16383, 32767]
theorem tab_so12 : rtab .any (opsOf Try.f63 12) = T_so12 := by kernel_rfl
theorem bits_so12 : waitsOk T_so12.2 B_so12 = true := by kernel_rfl
def T_so22 : Bool × List (List Nat × List Nat) := (true, [([], []), ([], []), ([0, 1], [0, 1]), ([2], [2]), ([], []), ([], []), ([], []), ([5, 6], [5, 6]), ([7], [7]), ([], []), ([8, 9], [8, 9]), ([10], [10]), ([4, 11], [4, 11]), ([3, 12], [3, 12]), ([0, 1, 0, 1, 2, 3, 4, 5, 6, 7, 8, 9, 10, 11, 12, 13], [0, 1]), ([14, 13, 12, 0, 1, 2, 3, 4, 5, 6, 7, 8, 9, 10, 11, 12, 13], [13, 14])])
def B_so22 : List Nat := [0, 0, 3, 7, 0, 0, 0, 96, 224, 0, 992, 2016, 4080, 8191, 16383, 32767]
theorem tab_so22 : rtab .any (opsOf Try.f63 22) = T_so22 := by kernel_rfl
theorem bits_so22 : waitsOk T_so22.2 B_so22 = true := by kernel_rfl
set_option maxHeartbeats 16000000 in
set_option maxRecDepth 100000 in
theorem solved_e {w0 w : World} {L : List (Value × Env.It)} (E : Env.Env 22 3 w0 w L) (j : Nat) {A : Option Addr} {c : Nat} {m : List (List Nat)} (hj : L[j]? = some (.slice A m.length c, .mat (upM m))) {cc : Nat} (hm : Mat.MB' cc m) (d : Nat) (hd : d ≤ cc) (hc : cc ≤ 100) (h0 : 0 < m.length) (hl : m.length ≤ 100) :
  Calls Try.prog 63 #[.slice A m.length c, .int .i64 (d : Int)] w fun e w' => e = .returned (.int .i64 (((Mat.sv d 0 0 m).2 : Nat) : Int)) ∧ Env.Env 22 3 w0 w' (L.set j (.slice A m.length c, .mat (upM (Mat.sv d 0 0 m).1))) := by
 obtain ⟨n, hn⟩ : ∃ n, n = m.length := ⟨_, rfl⟩
 rw [← hn] at hj h0 hl ⊢
 have hcap := E.cap (by decide) j hj
 obtain ⟨g, _, _, hA, _⟩ := E.mrow (by decide) hj (i := 0) (by rw [upM_length]; omega)
 subst hA
 have HJ := Aside0.mk hj
 have HM := Aside0.mk hm
 have HN := Aside0.mk hn
 have HD := Aside0.mk (show d ≤ cc ∧ cc ≤ 100 ∧ n ≤ 100 ∧ n ≤ c from ⟨hd, hc, hl, hcap⟩)
 have HX : ∀ M : List (List Nat), (L.set j (.slice (some ⟨g, 0, none⟩) n c, .mat (upM M)))[j]? = some (.slice (some ⟨g, 0, none⟩) n c, .mat (upM M)) := fun M => Env.set_at hj
 have HXX := Aside0.mk HX
 have E0 : Env.Env 22 3 w0 w (L.set j (.slice (some ⟨g, 0, none⟩) n c, .mat (upM m))) := by
  have : L.set j (.slice (some ⟨g, 0, none⟩) n c, .mat (upM m)) = L := by
   apply List.ext_getElem?
   intro i
   by_cases h : j = i
   ·subst h; rw [Env.set_at hj, hj]
   ·rw [List.getElem?_set_ne h]
  rw [this]; exact E
 have HE := Aside0.mk E0
 have d100 : (d : Int) ≤ 100 := by omega
 clear E E0 HX hj hm hn hd hc hl hcap
 go_enter Try.func63, Try.ntmps63
 go_wp2
 go_loopg [5, 15] d (fun gg s5 s15 wr => ∃ (k r : Nat) (M : List (List Nat)), k ≤ d ∧ d - k ≤ gg ∧ s15 = .int .i64 k ∧ s5 = .int .i64 r ∧ r < n ∧ Aside0 (M.length = n ∧ Mat.MB' cc M ∧ r ≤ k ∧ Mat.sv (d - k) k r M = Mat.sv d 0 0 m) ∧ Aside0 (Env.Env 22 3 w0 wr (L.set j (.slice (some ⟨g, 0, none⟩) n c, .mat (upM M)))))
 case atStart => exact ⟨0, 0, m, Nat.zero_le _, by omega, rfl, rfl, h0, ⟨HN.out.symm, HM.out, Nat.le_refl _, rfl⟩, HE⟩
 case round =>
  clear HE HJ
  obtain ⟨k, r, M, hk', hg', rfl, rfl, hrn, HMM, ENV⟩ := hrel
  by_cases hlt : k < d
  ·have k0 : (0 : Int) ≤ (k : Int) := by omega
   have k1 : (k : Int) < 100 := by omega
   have r0 : (0 : Int) ≤ (r : Int) := by omega
   have r1 : (r : Int) < 100 := by have := HD.out; omega
   have p1 : decide ((k : Int) < (d : Int)) = true := decide_eq_true (by omega)
   have p2 : decide (k < d) = true := decide_eq_true hlt
   obtain ⟨i0, hi0, _, hsz, _⟩ := info_parts infoR
   have hcut := cut_from (P := Try.prog) 23 22 .i64 Try.underlying23 hi0 1 hsz (some ⟨g, 0, none⟩) n c (r : Int) r0 (by omega)
   clear hi0 hsz
   have hMl : (M.drop r).length = n - r := by rw [List.length_drop, HMM.out.1]
   have hcr : ¬ c = r := by have := HD.out; omega
   have hE1 := ENV.out.box (k : Int)
   have hC1 := Kd.C_drop (m := r) (hE1.C (by decide) (j + 1) (HXX.out M)) (by rw [upM_length, HMM.out.1]; omega) (by rw [upM_length, HMM.out.1]; exact HD.out.2.2.2)
   rw [if_neg hcr] at hC1
   have eA : (some (⟨g, 0, none⟩ : Addr)).map (·.add (r * (Kd.slice 3 (Kd.int .i64)).sz)) = some ⟨g, r, none⟩ := by
    show some ((⟨g, 0, none⟩ : Addr).add (r * 1)) = _
    rw [Nat.mul_one, add_plain]
   have eD : (upM M).drop r = upM (M.drop r) := by unfold upM; rw [List.map_drop]
   rw [eA, eD] at hC1
   have hscan := scan_solved_idx (fun row : List Int => rd row (k : Int) != 0) (.pointer (some ⟨wr.heap.size, 0, none⟩)) (some ⟨g, r, none⟩) (c - r) (upM (M.drop r)) _ hC1 (by rw [upM_length, hMl]; have := HD.out; omega) (fun q A1 c1 x hx hxC hxc => impl_solved_one wr.heap.size k A1 c1 x _ ((blk_cell (blk_new wr _) 0).trans rfl) (by
    obtain ⟨y, hy, rfl⟩ := List.mem_map.1 hx
    have h8 := (HMM.out.2.1 y (List.mem_of_mem_drop hy)).1
    have h9 := HD.out
    rw [Poly.up_length]; omega) hxC)
   rw [pv_fidx, upM_length, hMl] at hscan
   have c1 : (c = r) = False := eq_false hcr
   have HE1 := Aside0.mk hE1
   clear hC1 eA eD hE1 hMl hcr
   cases hpv : Mat.pv k (M.drop r) with
   | none =>
    rw [hpv] at hscan
    have hsv : Mat.sv (d - (k + 1)) (k + 1) r M = Mat.sv d 0 0 m := by
     rw [← HMM.out.2.2.2, show d - k = (d - (k + 1)) + 1 by omega]
     conv => rhs; unfold Mat.sv
     rw [hpv]
    have HSV := Aside0.mk hsv
    clear hsv hpv
    change Calls _ _ _ _ fun e w' => e = Ending.returned (.int .i64 (-1)) ∧ Drawn0 _ w' at hscan
    go_wp2_with fail
    refine hscan.mono ?_
    rintro e w1 ⟨rfl, hd1⟩
    have HEW := Aside0.mk (HE1.out.below hd1.below)
    clear hscan HE1 hd1 hcut c1 ENV
    generalize wr.heap.size = gk at HEW ⊢
    go_wp2
    go_roundg (d - (k + 1))
    case measure => omega
    case rel => exact ⟨k + 1, r, M, by omega, by omega, by go_num, rfl, hrn, ⟨HMM.out.1, HMM.out.2.1, by have := HMM.out.2.2.1; omega, HSV.out⟩, ⟨HEW.out.tail⟩⟩
   | some p =>
    rw [hpv] at hscan
    have hps := Mat.pv_some hpv
    rw [List.length_drop, HMM.out.1] at hps
    have hpn : r + p < n := by omega
    have q2 : decide ((p : Int) < 0) = false := decide_eq_false (by omega)
    have pp0 : (0 : Int) ≤ (p : Int) := by omega
    have pp1 : (p : Int) < 100 := by have := HD.out; omega
    have HPV := Aside0.mk hpv
    have HPS := Aside0.mk hps
    clear hpv hps
    have hscan2 : Calls Try.prog 79 #[.slice (some ⟨g, r, none⟩) (n - r) (c - r), .func (.func 80) #[] #[.pointer (some ⟨wr.heap.size, 0, none⟩)]] (wr.alloc (.cells #[.int .i64 (k : Int)] 3 (0, 0))) fun e w' => e = Ending.returned (.int .i64 (p : Int)) ∧ Drawn0 (wr.alloc (.cells #[.int .i64 (k : Int)] 3 (0, 0))) w' := hscan.mono fun e w' ⟨h1, h2⟩ => ⟨h1.trans (by show Ending.returned (.int .i64 (0 + (p : Int))) = _; rw [Int.zero_add]), h2⟩
    clear hscan
    rename _ => hscan
    go_wp2_with fail
    refine hscan.mono ?_
    rintro e w1 ⟨rfl, hd1⟩
    have HEW := Aside0.mk (HE1.out.below hd1.below)
    clear hscan HE1 hd1 hcut c1 ENV
    generalize wr.heap.size = gk at HEW ⊢
    -- the rows change places
    obtain ⟨LX, hLX⟩ : ∃ LX : List (List Nat) → List (Value × Env.It), LX = fun Z => (.slice (some ⟨gk, 0, none⟩) 1 1, .row [(k : Int)]) :: L.set j (.slice (some ⟨g, 0, none⟩) n c, .mat (upM Z)) := ⟨_, rfl⟩
    have HL1 := Aside0.mk (show ∀ Z, (LX Z)[j + 1]? = some (.slice (some ⟨g, 0, none⟩) n c, .mat (upM Z)) from fun Z => by rw [hLX]; exact HXX.out Z)
    have HL2 := Aside0.mk (show ∀ Y Z, (LX Y).set (j + 1) (.slice (some ⟨g, 0, none⟩) n c, .mat (upM Z)) = LX Z from fun Y Z => by rw [hLX]; show (_ :: _) = (_ :: _); rw [List.set_set])
    have HL3 := Aside0.mk (show ∀ Z, (LX Z)[0]? = some (.slice (some ⟨gk, 0, none⟩) 1 1, .row [(k : Int)]) from fun Z => by rw [hLX]; rfl)
    have HL4 := Aside0.mk (show ∀ Z (W : World), Env.Env 22 3 w0 W (LX Z) → Env.Env 22 3 w0 W (L.set j (.slice (some ⟨g, 0, none⟩) n c, .mat (upM Z))) from fun Z W h => by rw [hLX] at h; exact h.tail)
    replace HEW := Aside0.mk (show Env.Env 22 3 w0 w1 (LX M) from by rw [hLX]; exact HEW.out)
    clear hLX
    obtain ⟨g', Aa, ca, Ab, cb, hA', hca, hfa, hcb, hfb, hsw⟩ := HEW.out.mswap (by decide) (HL1.out M) (a := r) (b := r + p) (by rw [upM_length, HMM.out.1]; exact hrn) (by rw [upM_length, HMM.out.1]; exact hpn)
    injection hA' with hA'
    injection hA' with hA'
    subst hA'
    rw [upM_getD] at hca
    rw [upM_getD] at hcb
    rw [upM_getD, upM_getD, upM_set, upM_set, HL2.out] at hsw
    obtain ⟨M1, hM1⟩ : ∃ M1, M1 = Mat.swp M r (r + p) := ⟨_, rfl⟩
    have HSW := Aside0.mk (show Env.Env 22 3 w0 _ (LX M1) from by rw [hM1]; exact hsw)
    have HM1 := Aside0.mk hM1
    have HB1 := Aside0.mk (show M1.length = n ∧ Mat.MB' cc M1 from by rw [hM1, Mat.swp_length, HMM.out.1]; exact ⟨rfl, Mat.swp_MB HMM.out.2.1 (by rw [HMM.out.1]; exact hrn) (by rw [HMM.out.1]; exact hpn)⟩)
    generalize M.getD r [] = ra at hca HSW
    generalize M.getD (r + p) [] = rb at hcb HSW
    have i1 : ((r : Int) < (n : Int)) = True := eq_true (by omega)
    have i2 : (((r : Int) + (p : Int)) < (n : Int)) = True := eq_true (by omega)
    have i3 : (0 ≤ (r : Int) + (p : Int)) = True := eq_true (by omega)
    have i4 : (r < n) = True := eq_true hrn
    have i5 : (r + p < n) = True := eq_true hpn
    have hcb2 : (w1.setCell ⟨g, r, none⟩ (.slice Ab (Poly.up rb).length cb)).cell? ⟨g, r + p, none⟩ = some (.slice Ab (Poly.up rb).length cb) := Env.cell_both hcb
    clear hsw hM1
    go_wp2_with fail
    go_region
    have hE2 := HSW.out.below (below_drew (Below.refl _ _))
    generalize ((w1.setCell ⟨g, r, none⟩ (.slice Ab (Poly.up rb).length cb)).setCell ⟨g, r + p, none⟩ (.slice Aa (Poly.up ra).length ca)).drew = w2 at hE2 ⊢
    clear HSW hca hfa hcb hfb hcb2 HEW i2 i3 i5 pp0 pp1 q2 hpn
    -- the number by which the row is divided
    have HR1 := Aside0.mk (HB1.out.2.get (i := r) (by rw [HB1.out.1]; exact hrn))
    obtain ⟨R1, hR1⟩ : ∃ R1, R1 = M1.getD r [] := ⟨_, rfl⟩
    have HER := Aside0.mk hR1
    have HRL := Aside0.mk (show R1.length = cc ∧ Poly.AllB R1 from by rw [hR1]; exact HR1.out)
    have kR : k < (Poly.up R1).length := by rw [Poly.up_length, HRL.out.1]; have := HD.out; omega
    obtain ⟨g', gu, cu, hA', hh1, _, hx1, _, _⟩ := hE2.mput2 (by decide) (HL1.out M1) (i := r) (q := k) (by rw [upM_length, HB1.out.1]; exact hrn) (by rw [upM_getD, ← hR1]; exact kR)
    injection hA' with hA'
    injection hA' with hA'
    subst hA'
    rw [upM_getD, ← hR1] at hh1 hx1
    rw [Poly.rd_up] at hx1
    have hbx := hE2.boxed 0 (HL3.out M1)
    obtain ⟨x, hx⟩ : ∃ x, x = R1.getD k 0 := ⟨_, rfl⟩
    have HXE := Aside0.mk hx
    have hxb : x < 256 := by rw [hx]; exact Poly.AllB.get HRL.out.2 k
    rw [← hx] at hx1
    have j1 : ((k : Int) < ((Poly.up R1).length : Int)) = True := eq_true (by omega)
    have j2 : (k < (Poly.up R1).length) = True := eq_true kR
    obtain ⟨K1, h1⟩ := (impl_inverse_ev x hxb).rounds
    have HK1 := Aside0.mk h1
    have HE2 := Aside0.mk hE2
    clear hR1 hx hxb kR h1 hE2
    go_wp2_with fail
    go_still_tail 7, (by kernel_rfl)
    change wpList _ _ _ _ _ (w2.drewN 1)
    go_wp2_with fail
    refine (impl_inverse.calls K1 (x : Int) _ _ HK1.out).mono ?_
    rintro e w3 ⟨rfl, hd3⟩
    have HE3 := Aside0.mk ((HE2.out.drewN 1).below hd3.below)
    clear hd3 HE2 HK1 hh1 hx1 hbx j1 j2
    -- the row is divided
    obtain ⟨f, hf⟩ : ∃ f, f = Gf.gi x := ⟨_, rfl⟩
    have HFE := Aside0.mk hf
    have hfb : f < 256 := by rw [hf]; exact Gf.gi_lt x
    rw [← hf]
    have hrl : (Poly.up R1).length = cc := by rw [Poly.up_length, HRL.out.1]
    obtain ⟨g', Au, cu, hA', hh3, _, _, _, _, _, _⟩ := HE3.out.mrow (by decide) (HL1.out M1) (i := r) (by rw [upM_length, HB1.out.1]; exact hrn)
    injection hA' with hA'
    injection hA' with hA'
    subst hA'
    rw [upM_getD, ← HER.out, hrl] at hh3
    have HS0 := Aside0.mk (show Env.Env 22 3 w0 w3 (LX (M1.set r (Mat.rscaleTo f R1 0))) from by rw [Mat.rscaleTo_zero, HER.out, Mat.set_self]; exact HE3.out)
    clear hf HE3
    go_wp2
    go_loopg [56] cc (fun gg s56 wq => ∃ i : Nat, i ≤ cc ∧ cc - i ≤ gg ∧ s56 = .int .i64 i ∧ Aside0 (Env.Env 22 3 w0 wq (LX (M1.set r (Mat.rscaleTo f R1 i)))))
    case atStart => exact ⟨0, Nat.zero_le _, by omega, rfl, HS0⟩
    case round =>
     clear HS0 hh3
     obtain ⟨i, hi', hgi, rfl, HSI⟩ := hrel
     by_cases hic : i < cc
     ·have c100 : (i : Int) < 100 := by have := HD.out; omega
      have c0 : (0 : Int) ≤ (i : Int) := by omega
      have hYl : (M1.set r (Mat.rscaleTo f R1 i)).length = n := by rw [List.length_set]; exact HB1.out.1
      have hYr : (M1.set r (Mat.rscaleTo f R1 i)).getD r [] = Mat.rscaleTo f R1 i := by rw [Mat.getD_setL _ _ _ _ (by rw [HB1.out.1]; exact hrn), if_pos rfl]
      have hrl2 : (Poly.up (Mat.rscaleTo f R1 i)).length = cc := by rw [Poly.up_length, Mat.rscaleTo_length, HRL.out.1]
      obtain ⟨g', gu, cu, hA', hh, _, hx, _, hput⟩ := (HSI.out.drewN 1).mput2 (by decide) (HL1.out _) (i := r) (q := i) (by rw [upM_length, hYl]; exact hrn) (by rw [upM_getD, hYr, hrl2]; exact hic)
      injection hA' with hA'
      injection hA' with hA'
      subst hA'
      rw [upM_getD, hYr, hrl2] at hh
      rw [upM_getD, hYr, Poly.rd_up, Mat.rscaleTo_at f (by rw [HRL.out.1]; exact hic)] at hx
      have hset : (upM (M1.set r (Mat.rscaleTo f R1 i))).set r ((Poly.up (Mat.rscaleTo f R1 i)).set i ((Gf.gm (R1.getD i 0) f : Nat) : Int)) = upM (M1.set r (Mat.rscaleTo f R1 (i + 1))) := by rw [Poly.up_set, Mat.rscaleTo_succ f (by rw [HRL.out.1]; exact hic), upM_set, List.set_set]
      have hput2 : ∀ W, Below (wr.drewN 1).heap.size (wr.drewN 1) W → (∃ v, W.cell? ⟨gu, i, none⟩ = some v) ∧ W.frozen? ⟨gu, i, none⟩ = false ∧ Env.Env 22 3 w0 (W.setCell ⟨gu, i, none⟩ (.int .i64 ((Gf.gm (R1.getD i 0) f : Nat) : Int))) (LX (M1.set r (Mat.rscaleTo f R1 (i + 1)))) := fun W hW => by
       have h8 := hput W hW
       have h9 := h8.2.2 ((Gf.gm (R1.getD i 0) f : Nat) : Int)
       rw [upM_getD, hYr, hset, HL2.out] at h9
       exact ⟨⟨_, h8.1⟩, h8.2.1, h9⟩
      have HP := Aside0.mk hput2
      have hxi : R1.getD i 0 < 256 := Poly.AllB.get HRL.out.2 i
      obtain ⟨K2, h2⟩ := (impl_mul_ev (R1.getD i 0) f hxi hfb).rounds
      have HK2 := Aside0.mk h2
      have hh0 : wr.drew.cell? ⟨g, r, none⟩ = some (.slice (some ⟨gu, 0, none⟩) cc cu) := hh
      have hx0 : wr.drew.cell? ⟨gu, i, none⟩ = some (.int .i64 ((R1.getD i 0 : Nat) : Int)) := hx
      have hpw : ∀ W, Below wr.drew.heap.size wr.drew W → (∃ v, W.cell? ⟨gu, i, none⟩ = some v) ∧ W.frozen? ⟨gu, i, none⟩ = false ∧ Env.Env 22 3 w0 (W.setCell ⟨gu, i, none⟩ (.int .i64 ((Gf.gm (R1.getD i 0) f : Nat) : Int))) (LX (M1.set r (Mat.rscaleTo f R1 (i + 1)))) := HP.out
      have HPW := Aside0.mk hpw
      have j1 : ((i : Int) < (cc : Int)) = True := eq_true (by omega)
      have j2 : (i < cc) = True := eq_true hic
      generalize R1.getD i 0 = y at hx hx0 HPW HP HK2 hput2 hpw
      clear hput hput2 hset hYl hYr hrl2 hxi h2 hh hx HP hpw
      go_wp2_with fail
      refine start_ (n := 16) (S := fun w' => w'.cell? ⟨g, r, none⟩ = some (.slice (some ⟨gu, 0, none⟩) cc cu) ∧ w'.cell? ⟨gu, i, none⟩ = some (.int .i64 (y : Int))) (ds := [15]) #[false, false, false, false, false, false, false, false, false, false, false, false, false, false, false, false] (by kernel_rfl) rfl rfl (⟨hh0, hx0⟩) (fun hHeld => ?_); refine with_tabW tab_so12 bits_so12 (fun HT_ HW_ => ?_)
      generalize wr.drew = w5 at HPW hh0 hx0 hHeld ⊢
      refine pure_ (i := 0) (N := some 59) (v := ?_) (a' := ?_) #[true, false, false, false, false, false, false, false, false, false, false, false, false, false, false, false] rfl rfl (any_of HT_.out (by kernel_rfl)) (fun _ _ _ h => h) (Or.inl ⟨by rfl, ?_⟩) ?_ ?_
      rotate_left
      ·intro w'
       go_simp
       with_reducible rfl
      rotate_left
      ·simp only [Act.put, List.setIfInBounds_toArray, List.set_cons_zero, List.set_cons_succ, i64_w, i32_w]
       rfl
      refine pure_ (i := 1) (N := some 60) (v := ?_) (a' := ?_) #[true, true, false, false, false, false, false, false, false, false, false, false, false, false, false, false] rfl rfl (any_of HT_.out (by kernel_rfl)) (fun _ _ _ h => h) (Or.inl ⟨by rfl, ?_⟩) ?_ ?_
      rotate_left
      ·intro w'
       go_simp
       with_reducible rfl
      rotate_left
      ·simp only [Act.put, List.setIfInBounds_toArray, List.set_cons_zero, List.set_cons_succ, i64_w, i32_w]
       rfl
      refine pure_ (i := 2) (N := some 61) (v := ?_) (a' := ?_) #[true, true, true, false, false, false, false, false, false, false, false, false, false, false, false, false] rfl rfl (any_of HT_.out (by kernel_rfl)) (fun _ _ _ h => h) (Or.inl ⟨by rfl, ?_⟩) ?_ ?_
      rotate_left
      ·intro w'
       go_simp
       with_reducible rfl
      rotate_left
      ·simp only [Act.put, List.setIfInBounds_toArray, List.set_cons_zero, List.set_cons_succ, i64_w, i32_w]
       rfl
      refine pure_ (i := 4) (N := some 63) (v := ?_) (a' := ?_) #[true, true, true, false, true, false, false, false, false, false, false, false, false, false, false, false] rfl rfl (any_of HT_.out (by kernel_rfl)) (fun _ _ _ h => h) (Or.inl ⟨by rfl, ?_⟩) ?_ ?_
      rotate_left
      ·intro w'
       go_simp
       with_reducible rfl
      rotate_left
      ·simp only [Act.put, List.setIfInBounds_toArray, List.set_cons_zero, List.set_cons_succ, i64_w, i32_w]
       rfl
      refine pure_ (i := 5) (N := some 64) (v := ?_) (a' := ?_) #[true, true, true, false, true, true, false, false, false, false, false, false, false, false, false, false] rfl rfl (any_of HT_.out (by kernel_rfl)) (fun _ _ _ h => h) (Or.inl ⟨by rfl, ?_⟩) ?_ ?_
      rotate_left
      ·intro w'
       go_simp
       with_reducible rfl
      rotate_left
      ·simp only [Act.put, List.setIfInBounds_toArray, List.set_cons_zero, List.set_cons_succ, i64_w, i32_w]
       rfl
      refine pure_ (i := 6) (N := some 65) (v := ?_) (a' := ?_) #[true, true, true, false, true, true, true, false, false, false, false, false, false, false, false, false] rfl rfl (any_of HT_.out (by kernel_rfl)) (fun _ _ _ h => h) (Or.inl ⟨by rfl, ?_⟩) ?_ ?_
      rotate_left
      ·intro w'
       go_simp
       with_reducible rfl
      rotate_left
      ·simp only [Act.put, List.setIfInBounds_toArray, List.set_cons_zero, List.set_cons_succ, i64_w, i32_w]
       rfl
      refine pure_ (i := 7) (N := some 66) (v := ?_) (a' := ?_) #[true, true, true, false, true, true, true, true, false, false, false, false, false, false, false, false] rfl rfl (any_of HT_.out (by kernel_rfl)) (fun _ _ _ h => h) (Or.inl ⟨by rfl, ?_⟩) ?_ ?_
      rotate_left
      ·intro w'
       go_simp
       with_reducible rfl
      rotate_left
      ·simp only [Act.put, List.setIfInBounds_toArray, List.set_cons_zero, List.set_cons_succ, i64_w, i32_w]
       rfl
      refine pure_ (i := 9) (N := some 68) (v := ?_) (a' := ?_) #[true, true, true, false, true, true, true, true, false, true, false, false, false, false, false, false] rfl rfl (any_of HT_.out (by kernel_rfl)) (fun _ _ _ h => h) (Or.inl ⟨by rfl, ?_⟩) ?_ ?_
      rotate_left
      ·intro w'
       go_simp
       with_reducible rfl
      rotate_left
      ·simp only [Act.put, List.setIfInBounds_toArray, List.set_cons_zero, List.set_cons_succ, i64_w, i32_w]
       rfl
      refine pure_ (i := 12) (N := some 71) (v := ?_) (a' := ?_) #[true, true, true, false, true, true, true, true, false, true, false, false, true, false, false, false] rfl rfl (any_of HT_.out (by kernel_rfl)) (fun _ _ _ h => h) (Or.inl ⟨by rfl, ?_⟩) ?_ ?_
      rotate_left
      ·intro w'
       go_simp
       with_reducible rfl
      rotate_left
      ·simp only [Act.put, List.setIfInBounds_toArray, List.set_cons_zero, List.set_cons_succ, i64_w, i32_w]
       rfl
      refine take_ (i := 3) (N := some 62) (v := ?_) (a' := ?_) #[true, true, true, true, true, true, true, true, false, true, false, false, true, false, false, false] rfl rfl (take_ofW HT_.out HW_.out (by kernel_rfl)) (fun _ _ _ h => h) (Or.inl ⟨by rfl, ?_⟩) hHeld ?_ ?_
      rotate_left
      ·rintro w' ⟨s0, s1⟩
       go_simp
       with_reducible rfl
      rotate_left
      ·simp only [Act.put, List.setIfInBounds_toArray, List.set_cons_zero, List.set_cons_succ, i64_w, i32_w]
       rfl
      refine take_ (i := 8) (N := some 67) (v := ?_) (a' := ?_) #[true, true, true, true, true, true, true, true, true, true, false, false, true, false, false, false] rfl rfl (take_ofW HT_.out HW_.out (by kernel_rfl)) (fun _ _ _ h => h) (Or.inl ⟨by rfl, ?_⟩) hHeld ?_ ?_
      rotate_left
      ·rintro w' ⟨s0, s1⟩
       go_simp
       with_reducible rfl
      rotate_left
      ·simp only [Act.put, List.setIfInBounds_toArray, List.set_cons_zero, List.set_cons_succ, i64_w, i32_w]
       rfl
      refine pure_ (i := 10) (N := some 69) (v := ?_) (a' := ?_) #[true, true, true, true, true, true, true, true, true, true, true, false, true, false, false, false] rfl rfl (any_of HT_.out (by kernel_rfl)) (fun _ _ _ h => h) (Or.inl ⟨by rfl, ?_⟩) ?_ ?_
      rotate_left
      ·intro w'
       go_simp
       with_reducible rfl
      rotate_left
      ·simp only [Act.put, List.setIfInBounds_toArray, List.set_cons_zero, List.set_cons_succ, i64_w, i32_w]
       rfl
      refine take_ (i := 11) (N := some 70) (v := ?_) (a' := ?_) #[true, true, true, true, true, true, true, true, true, true, true, true, true, false, false, false] rfl rfl (take_ofW HT_.out HW_.out (by kernel_rfl)) (fun _ _ _ h => h) (Or.inl ⟨by rfl, ?_⟩) hHeld ?_ ?_
      rotate_left
      ·rintro w' ⟨s0, s1⟩
       go_simp
       with_reducible rfl
      rotate_left
      ·simp only [Act.put, List.setIfInBounds_toArray, List.set_cons_zero, List.set_cons_succ, i64_w, i32_w]
       rfl
      refine one_ (i := 13) (N := some 72) #[true, true, true, true, true, true, true, true, true, true, true, true, true, true, false, false] rfl rfl (one_of HT_.out (by kernel_rfl)) (by decide) (fun K hK => ?_)
      refine goes_ Try.func43 (by kernel_rfl) rfl #[.int .i64 (y : Int), .int .i64 (f : Int)] (by rfl) rfl rfl (by (try simp only [List.map_toArray, List.map_cons, List.map_nil]); first | done | rfl | (simp only [List.length_drop, List.length_take]; rfl)) ?_
      refine (impl_mul.calls K2 (y : Int) (f : Int) _ _ HK2.out).mono ?_
      rintro e w4 ⟨rfl, hd4⟩
      refine ⟨_, rfl, ?_⟩
      obtain ⟨⟨v4, hv4⟩, hf4, hE4⟩ := HPW.out w4 hd4.below
      have HE4 := Aside0.mk hE4
      have hS4 := And.intro (pw_cell_below hd4.below hh0) (pw_cell_below hd4.below hx0)
      clear hE4 hd4 HPW HK2 hh0 hx0
      refine hK.out _ _ hS4 (fun hHeld => ?_)
      clear hK K hS4
      refine norm_ (a' := ?_) ?_ ?_
      rotate_left
      ·show Act.put _ (some 72) _ = _
       simp only [Act.put, List.setIfInBounds_toArray, List.set_cons_zero, List.set_cons_succ, i64_w, i32_w]
       rfl
      refine pure_ (i := 14) (N := some 73) (v := ?_) (a' := ?_) #[true, true, true, true, true, true, true, true, true, true, true, true, true, true, true, false] rfl rfl (any_of HT_.out (by kernel_rfl)) (fun _ _ _ h => h) (Or.inl ⟨by rfl, ?_⟩) ?_ ?_
      rotate_left
      ·intro w'
       go_simp
       with_reducible rfl
      rotate_left
      ·simp only [Act.put, List.setIfInBounds_toArray, List.set_cons_zero, List.set_cons_succ, i64_w, i32_w]
       rfl
      refine last_ (i := 15) (N := none) #[true, true, true, true, true, true, true, true, true, true, true, true, true, true, true, true] rfl rfl (one_of HT_.out (by kernel_rfl)) (by decide) (fun K hK => ?_)
      refine skip_ (w1 := ?_) (by rfl) rfl ?_ ?_
      rotate_left
      ·go_simp
       rfl
      refine hK.out _ _ ?_
      clear hK K
      refine done_ (done_of HT_.out (by kernel_rfl)) ?_
      go_wp2
      go_roundg (cc - (i + 1))
      case measure => omega
      case rel => exact ⟨i + 1, by omega, by omega, by go_num, HE4⟩
     ·have hie : i = cc := by omega
      have hTL : Mat.rscaleTo f R1 i = Mat.rscale f R1 := by rw [hie, ← HRL.out.1, Mat.rscaleTo_all]
      have hE5 := HSI.out
      rw [hTL] at hE5
      obtain ⟨T, hT⟩ : ∃ T, T = Mat.rscale f R1 := ⟨_, rfl⟩
      have HTE := Aside0.mk hT
      rw [← hT] at hE5
      have HTL := Aside0.mk (show T.length = cc ∧ Poly.AllB T from by rw [hT]; exact ⟨by rw [Mat.rscale_length]; exact HRL.out.1, Mat.rscale_bytes _ HRL.out.2⟩)
      obtain ⟨C, hC⟩ : ∃ C, C = Mat.col k M1 := ⟨_, rfl⟩
      have HCE := Aside0.mk hC
      have HCB := Aside0.mk (show Poly.AllB C from by rw [hC]; exact Mat.col_bytes HB1.out.2 k)
      have HCA := Aside0.mk (show ∀ i, C.getD i 0 = (M1.getD i []).getD k 0 from fun i => by rw [hC]; exact Mat.col_at k M1 i)
      have HCL := Aside0.mk (show C.length = (M1.set r T).length from by rw [hC, Mat.col_length, List.length_set])
      have HNL := Aside0.mk (show (M1.set r T).length = n from by rw [List.length_set]; exact HB1.out.1)
      have HMR := Aside0.mk (show (M1.set r T).getD r [] = T from by rw [Mat.getD_setL _ _ _ _ (by rw [HB1.out.1]; exact hrn), if_pos rfl])
      have HMO := Aside0.mk (show ∀ i, ¬ i = r → (M1.set r T).getD i [] = M1.getD i [] from fun i hi => by rw [Mat.getD_setL _ _ _ _ (by rw [HB1.out.1]; exact hrn), if_neg hi])
      have HEZ := Aside0.mk (show Env.Env 22 3 w0 wr (LX (Mat.erT T r C (M1.set r T) 0)) from by rw [Mat.erT_zero]; exact hE5)
      have qie : ((cc : Int) < (cc : Int)) = False := eq_false (by omega)
      obtain rfl : cc = i := hie.symm
      clear hE5 hT hTL hC HSI hgi hfb hie
      go_wp2
      go_loopg [77] n (fun gg s77 wq => ∃ i : Nat, i ≤ n ∧ n - i ≤ gg ∧ s77 = .int .i64 i ∧ Aside0 (Env.Env 22 3 w0 wq (LX (Mat.erT T r C (M1.set r T) i))))
      case atStart => exact ⟨0, Nat.zero_le _, by omega, rfl, HEZ⟩
      case round =>
       clear HEZ
       obtain ⟨i, hi', hgi, rfl, HSI⟩ := hrel
       by_cases hin : i < n
       ·have z0 : (0 : Int) ≤ (i : Int) := by omega
        have z1 : (i : Int) < 100 := by have := HD.out; omega
        have hYl : (Mat.erT T r C (M1.set r T) i).length = n := by rw [Mat.erT_length HCL.out]; exact HNL.out
        have hYi : (Mat.erT T r C (M1.set r T) i).getD i [] = (M1.set r T).getD i [] := by
         rw [List.getD_eq_getElem?_getD, Mat.erT_at HCL.out (Nat.le_refl _) (by rw [HNL.out]; exact hin)]; rfl
        have hYr : (Mat.erT T r C (M1.set r T) i).getD r [] = T := by rw [Mat.erT_top HCL.out i (by rw [HNL.out]; exact hrn)]; exact HMR.out
        have hstep := Mat.erT_succ (top := T) (a := r) HCL.out (i := i) (by rw [HNL.out]; exact hin)
        have hkc : k < cc := by have := HD.out; omega
        have p3 : ((i : Int) < (n : Int)) = True := eq_true (by omega)
        have p4 : (i < n) = True := eq_true hin
        have p5 : ((k : Int) < (cc : Int)) = True := eq_true (by omega)
        have p6 : (k < cc) = True := eq_true hkc
        obtain ⟨Z, hZ⟩ : ∃ Z, Z = Mat.erT T r C (M1.set r T) i := ⟨_, rfl⟩
        have HZ := Aside0.mk hZ
        have hbx := HSI.out.boxed 0 (HL3.out _)
        rw [← hZ] at hYl hYi hYr hstep HSI
        by_cases hir : i = r
        ·have hRi : Z.getD i [] = T := by rw [hir]; exact hYr
         obtain ⟨g', gi, ci, hA', hh, _, hx, _, _⟩ := HSI.out.mput2 (by decide) (HL1.out _) (i := i) (q := k) (by rw [upM_length, hYl]; exact hin) (by rw [upM_getD, hRi, Poly.up_length, HTL.out.1]; exact hkc)
         injection hA' with hA'
         injection hA' with hA'
         subst hA'
         rw [upM_getD, hRi, Poly.up_length, HTL.out.1] at hh
         rw [upM_getD, hRi, Poly.rd_up] at hx
         have hst : Mat.erT T r C (M1.set r T) (i + 1) = Z := by rw [← hstep]; unfold Mat.erow; rw [if_pos hir, ← hYi]; exact Mat.set_self _ _
         have HST := Aside0.mk hst
         have e1 : ((i : Int) != (r : Int)) = false := by rw [hir]; simp
         have e2 : ((i : Int) == (r : Int)) = true := by rw [hir]; simp
         generalize T.getD k 0 = tk at hx
         clear hRi hst hstep hYr hYi hYl hZ hkc hir
         go_wp2_with fail
         go_loopg [88] cc (fun gg s88 wq => ∃ q : Nat, q ≤ cc ∧ cc - q ≤ gg ∧ s88 = .int .i64 q ∧ Aside0 (Env.Env 22 3 w0 wq (LX Z)))
         case atStart => exact ⟨0, Nat.zero_le _, by omega, rfl, HSI⟩
         case round =>
          clear HSI hh hx hbx
          obtain ⟨q, hq', hgq, rfl, HSQ⟩ := hrel
          have y0 : (0 : Int) ≤ (q : Int) := by omega
          have y1 : (q : Int) ≤ 100 := by have := HD.out; omega
          by_cases hqc : q < cc
          ·have j1 : ((q : Int) < (cc : Int)) = True := eq_true (by omega)
           go_wp2
           go_roundg (cc - (q + 1))
           case measure => omega
           case rel => exact ⟨q + 1, by omega, by omega, by go_num, HSQ⟩
          ·have j1 : ((q : Int) < (cc : Int)) = False := eq_false (by omega)
           go_wp2
           go_roundg (n - (i + 1))
           case measure => omega
           case rel => exact ⟨i + 1, by omega, by omega, by go_num, ⟨by rw [HST.out]; exact HSQ.out⟩⟩
        ·obtain ⟨R, hR⟩ : ∃ R, R = M1.getD i [] := ⟨_, rfl⟩
         have hRi : Z.getD i [] = R := by rw [hYi, hR]; exact HMO.out i hir
         have HRB := Aside0.mk (show R.length = cc ∧ Poly.AllB R from by rw [hR]; exact HB1.out.2.get (by rw [HB1.out.1]; exact hin))
         obtain ⟨y0, hy0⟩ : ∃ y0, y0 = R.getD k 0 := ⟨_, rfl⟩
         have HYB := Aside0.mk (show y0 < 256 from by rw [hy0]; exact Poly.AllB.get HRB.out.2 k)
         have HST := Aside0.mk (show Z.set i (Mat.radd y0 R T) = Mat.erT T r C (M1.set r T) (i + 1) from by rw [← hstep]; unfold Mat.erow; rw [if_neg hir, HMO.out i hir, HCA.out, ← hR, ← hy0])
         have HZI := Aside0.mk (show ∀ X, (Z.set i X).getD i [] = X from fun X => by rw [Mat.getD_setL _ _ _ _ (by rw [hYl]; exact hin), if_pos rfl])
         have HZR := Aside0.mk (show ∀ X, (Z.set i X).getD r [] = T from fun X => by rw [Mat.getD_setL _ _ _ _ (by rw [hYl]; exact hin), if_neg (fun h => hir h.symm)]; exact hYr)
         have HZL := Aside0.mk hYl
         obtain ⟨g', gi, ci, hA', hh, _, hx, _, _⟩ := HSI.out.mput2 (by decide) (HL1.out _) (i := i) (q := k) (by rw [upM_length, hYl]; exact hin) (by rw [upM_getD, hRi, Poly.up_length, HRB.out.1]; exact hkc)
         injection hA' with hA'
         injection hA' with hA'
         subst hA'
         rw [upM_getD, hRi, Poly.up_length, HRB.out.1] at hh
         rw [upM_getD, hRi, Poly.rd_up, ← hy0] at hx
         have HSI0 := Aside0.mk (show Env.Env 22 3 w0 wr (LX (Z.set i (Mat.raddTo y0 R T 0))) from by rw [Mat.raddTo_zero, ← hRi, Mat.set_self]; exact HSI.out)
         have HHK := Aside0.mk hh
         have e1 : ((i : Int) != (r : Int)) = true := by simp; omega
         have e2 : ((i : Int) == (r : Int)) = false := by simp; omega
         clear hRi hstep hYr hYi hYl hZ hkc HSI hy0 hR
         go_wp2_with fail
         go_loopg [88] cc (fun gg s88 wq => ∃ q : Nat, q ≤ cc ∧ cc - q ≤ gg ∧ s88 = .int .i64 q ∧ Aside0 (Env.Env 22 3 w0 wq (LX (Z.set i (Mat.raddTo y0 R T q)))) ∧ Aside0 (wq.cell? ⟨g, i, none⟩ = some (.slice (some ⟨gi, 0, none⟩) cc ci)))
         case atStart => exact ⟨0, Nat.zero_le _, by omega, rfl, HSI0, HHK⟩
         case round =>
          clear HSI0 HHK hh hx hbx
          obtain ⟨q, hq', hgq, rfl, HSQ, HHK⟩ := hrel
          have x0 : (0 : Int) ≤ (q : Int) := by omega
          have x1 : (q : Int) ≤ 100 := by have := HD.out; omega
          have hRT : R.length = T.length := by rw [HRB.out.1, HTL.out.1]
          by_cases hqc : q < cc
          ·have hqR : q < R.length := by rw [HRB.out.1]; exact hqc
           have hrl2 : (Poly.up (Mat.raddTo y0 R T q)).length = cc := by rw [Poly.up_length, Mat.raddTo_length hRT, HRB.out.1]
           have HQ := HSQ.out.drewN 1
           obtain ⟨g', gu, cu, hA', hh, _, hx, _, hput⟩ := HQ.mput2 (by decide) (HL1.out _) (i := i) (q := q) (by rw [upM_length, List.length_set, HZL.out]; exact hin) (by rw [upM_getD, HZI.out, hrl2]; exact hqc)
           injection hA' with hA'
           injection hA' with hA'
           subst hA'
           rw [upM_getD, HZI.out, hrl2] at hh
           have hne := HQ.mne (by decide) (HL1.out _) (i := i) (by rw [upM_length, List.length_set, HZL.out]; exact hin) hh
           have hk2 := hh.symm.trans HHK.out
           injection hk2 with hk2
           injection hk2 with hk3 _ hk4
           injection hk3 with hk3
           injection hk3 with hk3
           subst hk3 hk4
           rw [upM_getD, HZI.out, Poly.rd_up, Mat.raddTo_at hRT hqR] at hx
           obtain ⟨g', gt, ct, hA', ht, _, htx, _, _⟩ := HQ.mput2 (by decide) (HL1.out _) (i := r) (q := q) (by rw [upM_length, List.length_set, HZL.out]; exact hrn) (by rw [upM_getD, HZR.out, Poly.up_length, HTL.out.1]; exact hqc)
           injection hA' with hA'
           injection hA' with hA'
           subst hA'
           rw [upM_getD, HZR.out, Poly.up_length, HTL.out.1] at ht
           rw [upM_getD, HZR.out, Poly.rd_up] at htx
           have hyb : R.getD q 0 < 256 := Poly.AllB.get HRB.out.2 q
           have htb : T.getD q 0 < 256 := Poly.AllB.get HTL.out.2 q
           have hxr := xor_up hyb (Gf.gm_lt (T.getD q 0) HYB.out)
           have hset : (upM (Z.set i (Mat.raddTo y0 R T q))).set i ((Poly.up (Mat.raddTo y0 R T q)).set q (Go.bits .xor .i64 ((R.getD q 0 : Nat) : Int) ((Gf.gm y0 (T.getD q 0) : Nat) : Int))) = upM (Z.set i (Mat.raddTo y0 R T (q + 1))) := by rw [hxr, Poly.up_set, Mat.raddTo_succ hRT hqR, upM_set, List.set_set]
           have hput2 : ∀ W, Below wr.drew.heap.size wr.drew W → (∃ v, W.cell? ⟨gu, q, none⟩ = some v) ∧ W.frozen? ⟨gu, q, none⟩ = false ∧ Env.Env 22 3 w0 (W.setCell ⟨gu, q, none⟩ (.int .i64 (Go.bits .xor .i64 ((R.getD q 0 : Nat) : Int) ((Gf.gm y0 (T.getD q 0) : Nat) : Int)))) (LX (Z.set i (Mat.raddTo y0 R T (q + 1)))) ∧ (W.setCell ⟨gu, q, none⟩ (.int .i64 (Go.bits .xor .i64 ((R.getD q 0 : Nat) : Int) ((Gf.gm y0 (T.getD q 0) : Nat) : Int)))).cell? ⟨g, i, none⟩ = some (.slice (some ⟨gu, 0, none⟩) cc cu) := fun W hW => by
            have h8 := hput W hW
            have h9 := h8.2.2 (Go.bits .xor .i64 ((R.getD q 0 : Nat) : Int) ((Gf.gm y0 (T.getD q 0) : Nat) : Int))
            rw [upM_getD, HZI.out, hset, HL2.out] at h9
            exact ⟨⟨_, h8.1⟩, h8.2.1, h9, Env.cell_far (pw_cell_below hW hh) hne⟩
           have HPW := Aside0.mk hput2
           obtain ⟨K2, h2⟩ := (impl_mul_ev y0 (T.getD q 0) HYB.out htb).rounds
           have HK2 := Aside0.mk h2
           have hx0 : wr.drew.cell? ⟨gu, q, none⟩ = some (.int .i64 ((R.getD q 0 : Nat) : Int)) := hx
           have ht0 : wr.drew.cell? ⟨g, r, none⟩ = some (.slice (some ⟨gt, 0, none⟩) cc ct) := ht
           have htx0 : wr.drew.cell? ⟨gt, q, none⟩ = some (.int .i64 ((T.getD q 0 : Nat) : Int)) := htx
           have j1 : ((q : Int) < (cc : Int)) = True := eq_true (by omega)
           have j2 : (q < cc) = True := eq_true hqc
           generalize R.getD q 0 = y at hx0 HPW
           generalize T.getD q 0 = tq at htx0 HPW HK2
           clear hput hput2 hset hxr hyb htb h2 hh hx ht htx hne HQ hqR hrl2 hRT HHK HSQ
           go_wp2_with fail
           refine start_ (n := 16) (S := fun w' => w'.cell? ⟨gu, q, none⟩ = some (.int .i64 (y : Int)) ∧ w'.cell? ⟨g, r, none⟩ = some (.slice (some ⟨gt, 0, none⟩) cc ct) ∧ w'.cell? ⟨gt, q, none⟩ = some (.int .i64 (tq : Int))) (ds := [15]) #[false, false, false, false, false, false, false, false, false, false, false, false, false, false, false, false] (by kernel_rfl) rfl rfl (⟨hx0, ht0, htx0⟩) (fun hHeld => ?_); refine with_tabW tab_so22 bits_so22 (fun HT_ HW_ => ?_)
           generalize wr.drew = w5 at HPW hx0 ht0 htx0 hHeld ⊢
           refine pure_ (i := 0) (N := some 94) (v := ?_) (a' := ?_) #[true, false, false, false, false, false, false, false, false, false, false, false, false, false, false, false] rfl rfl (any_of HT_.out (by kernel_rfl)) (fun _ _ _ h => h) (Or.inl ⟨by rfl, ?_⟩) ?_ ?_
           rotate_left
           ·intro w'
            go_simp
            with_reducible rfl
           rotate_left
           ·simp only [Act.put, List.setIfInBounds_toArray, List.set_cons_zero, List.set_cons_succ, i64_w, i32_w]
            rfl
           refine pure_ (i := 1) (N := some 95) (v := ?_) (a' := ?_) #[true, true, false, false, false, false, false, false, false, false, false, false, false, false, false, false] rfl rfl (any_of HT_.out (by kernel_rfl)) (fun _ _ _ h => h) (Or.inl ⟨by rfl, ?_⟩) ?_ ?_
           rotate_left
           ·intro w'
            go_simp
            with_reducible rfl
           rotate_left
           ·simp only [Act.put, List.setIfInBounds_toArray, List.set_cons_zero, List.set_cons_succ, i64_w, i32_w]
            rfl
           refine pure_ (i := 2) (N := some 96) (v := ?_) (a' := ?_) #[true, true, true, false, false, false, false, false, false, false, false, false, false, false, false, false] rfl rfl (any_of HT_.out (by kernel_rfl)) (fun _ _ _ h => h) (Or.inl ⟨by rfl, ?_⟩) ?_ ?_
           rotate_left
           ·intro w'
            go_simp
            with_reducible rfl
           rotate_left
           ·simp only [Act.put, List.setIfInBounds_toArray, List.set_cons_zero, List.set_cons_succ, i64_w, i32_w]
            rfl
           refine pure_ (i := 4) (N := some 98) (v := ?_) (a' := ?_) #[true, true, true, false, true, false, false, false, false, false, false, false, false, false, false, false] rfl rfl (any_of HT_.out (by kernel_rfl)) (fun _ _ _ h => h) (Or.inl ⟨by rfl, ?_⟩) ?_ ?_
           rotate_left
           ·intro w'
            go_simp
            with_reducible rfl
           rotate_left
           ·simp only [Act.put, List.setIfInBounds_toArray, List.set_cons_zero, List.set_cons_succ, i64_w, i32_w]
            rfl
           refine pure_ (i := 5) (N := some 99) (v := ?_) (a' := ?_) #[true, true, true, false, true, true, false, false, false, false, false, false, false, false, false, false] rfl rfl (any_of HT_.out (by kernel_rfl)) (fun _ _ _ h => h) (Or.inl ⟨by rfl, ?_⟩) ?_ ?_
           rotate_left
           ·intro w'
            go_simp
            with_reducible rfl
           rotate_left
           ·simp only [Act.put, List.setIfInBounds_toArray, List.set_cons_zero, List.set_cons_succ, i64_w, i32_w]
            rfl
           refine pure_ (i := 6) (N := some 100) (v := ?_) (a' := ?_) #[true, true, true, false, true, true, true, false, false, false, false, false, false, false, false, false] rfl rfl (any_of HT_.out (by kernel_rfl)) (fun _ _ _ h => h) (Or.inl ⟨by rfl, ?_⟩) ?_ ?_
           rotate_left
           ·intro w'
            go_simp
            with_reducible rfl
           rotate_left
           ·simp only [Act.put, List.setIfInBounds_toArray, List.set_cons_zero, List.set_cons_succ, i64_w, i32_w]
            rfl
           refine pure_ (i := 7) (N := some 101) (v := ?_) (a' := ?_) #[true, true, true, false, true, true, true, true, false, false, false, false, false, false, false, false] rfl rfl (any_of HT_.out (by kernel_rfl)) (fun _ _ _ h => h) (Or.inl ⟨by rfl, ?_⟩) ?_ ?_
           rotate_left
           ·intro w'
            go_simp
            with_reducible rfl
           rotate_left
           ·simp only [Act.put, List.setIfInBounds_toArray, List.set_cons_zero, List.set_cons_succ, i64_w, i32_w]
            rfl
           refine pure_ (i := 9) (N := some 103) (v := ?_) (a' := ?_) #[true, true, true, false, true, true, true, true, false, true, false, false, false, false, false, false] rfl rfl (any_of HT_.out (by kernel_rfl)) (fun _ _ _ h => h) (Or.inl ⟨by rfl, ?_⟩) ?_ ?_
           rotate_left
           ·intro w'
            go_simp
            with_reducible rfl
           rotate_left
           ·simp only [Act.put, List.setIfInBounds_toArray, List.set_cons_zero, List.set_cons_succ, i64_w, i32_w]
            rfl
           refine take_ (i := 3) (N := some 97) (v := ?_) (a' := ?_) #[true, true, true, true, true, true, true, true, false, true, false, false, false, false, false, false] rfl rfl (take_ofW HT_.out HW_.out (by kernel_rfl)) (fun _ _ _ h => h) (Or.inl ⟨by rfl, ?_⟩) hHeld ?_ ?_
           rotate_left
           ·rintro w' ⟨s0, s1, s2⟩
            go_simp
            with_reducible rfl
           rotate_left
           ·simp only [Act.put, List.setIfInBounds_toArray, List.set_cons_zero, List.set_cons_succ, i64_w, i32_w]
            rfl
           refine take_ (i := 8) (N := some 102) (v := ?_) (a' := ?_) #[true, true, true, true, true, true, true, true, true, true, false, false, false, false, false, false] rfl rfl (take_ofW HT_.out HW_.out (by kernel_rfl)) (fun _ _ _ h => h) (Or.inl ⟨by rfl, ?_⟩) hHeld ?_ ?_
           rotate_left
           ·rintro w' ⟨s0, s1, s2⟩
            go_simp
            with_reducible rfl
           rotate_left
           ·simp only [Act.put, List.setIfInBounds_toArray, List.set_cons_zero, List.set_cons_succ, i64_w, i32_w]
            rfl
           refine pure_ (i := 10) (N := some 104) (v := ?_) (a' := ?_) #[true, true, true, true, true, true, true, true, true, true, true, false, false, false, false, false] rfl rfl (any_of HT_.out (by kernel_rfl)) (fun _ _ _ h => h) (Or.inl ⟨by rfl, ?_⟩) ?_ ?_
           rotate_left
           ·intro w'
            go_simp
            with_reducible rfl
           rotate_left
           ·simp only [Act.put, List.setIfInBounds_toArray, List.set_cons_zero, List.set_cons_succ, i64_w, i32_w]
            rfl
           refine take_ (i := 11) (N := some 105) (v := ?_) (a' := ?_) #[true, true, true, true, true, true, true, true, true, true, true, true, false, false, false, false] rfl rfl (take_ofW HT_.out HW_.out (by kernel_rfl)) (fun _ _ _ h => h) (Or.inl ⟨by rfl, ?_⟩) hHeld ?_ ?_
           rotate_left
           ·rintro w' ⟨s0, s1, s2⟩
            go_simp
            with_reducible rfl
           rotate_left
           ·simp only [Act.put, List.setIfInBounds_toArray, List.set_cons_zero, List.set_cons_succ, i64_w, i32_w]
            rfl
           refine one_ (i := 12) (N := some 106) #[true, true, true, true, true, true, true, true, true, true, true, true, true, false, false, false] rfl rfl (one_of HT_.out (by kernel_rfl)) (by decide) (fun K hK => ?_)
           refine goes_ Try.func43 (by kernel_rfl) rfl #[.int .i64 (y0 : Int), .int .i64 (tq : Int)] (by rfl) rfl rfl (by (try simp only [List.map_toArray, List.map_cons, List.map_nil]); first | done | rfl | (simp only [List.length_drop, List.length_take]; rfl)) ?_
           refine (impl_mul.calls K2 (y0 : Int) (tq : Int) _ _ HK2.out).mono ?_
           rintro e w4 ⟨rfl, hd4⟩
           refine ⟨_, rfl, ?_⟩
           obtain ⟨⟨v4, hv4⟩, hf4, hE4, hC4⟩ := HPW.out w4 hd4.below
           have HE4 := Aside0.mk hE4
           have HC4 := Aside0.mk hC4
           have hS4 := And.intro (pw_cell_below hd4.below hx0) (And.intro (pw_cell_below hd4.below ht0) (pw_cell_below hd4.below htx0))
           clear hE4 hC4 hd4 HPW HK2 hx0 ht0 htx0
           refine hK.out _ _ hS4 (fun hHeld => ?_)
           clear hK K hS4
           refine norm_ (a' := ?_) ?_ ?_
           rotate_left
           ·show Act.put _ (some 106) _ = _
            simp only [Act.put, List.setIfInBounds_toArray, List.set_cons_zero, List.set_cons_succ, i64_w, i32_w]
            rfl
           refine pure_ (i := 13) (N := some 107) (v := ?_) (a' := ?_) #[true, true, true, true, true, true, true, true, true, true, true, true, true, true, false, false] rfl rfl (any_of HT_.out (by kernel_rfl)) (fun _ _ _ h => h) (Or.inl ⟨by rfl, ?_⟩) ?_ ?_
           rotate_left
           ·intro w'
            go_simp
            with_reducible rfl
           rotate_left
           ·simp only [Act.put, List.setIfInBounds_toArray, List.set_cons_zero, List.set_cons_succ, i64_w, i32_w]
            rfl
           refine pure_ (i := 14) (N := some 108) (v := ?_) (a' := ?_) #[true, true, true, true, true, true, true, true, true, true, true, true, true, true, true, false] rfl rfl (any_of HT_.out (by kernel_rfl)) (fun _ _ _ h => h) (Or.inl ⟨by rfl, ?_⟩) ?_ ?_
           rotate_left
           ·intro w'
            go_simp
            with_reducible rfl
           rotate_left
           ·simp only [Act.put, List.setIfInBounds_toArray, List.set_cons_zero, List.set_cons_succ, i64_w, i32_w]
            rfl
           refine last_ (i := 15) (N := none) #[true, true, true, true, true, true, true, true, true, true, true, true, true, true, true, true] rfl rfl (one_of HT_.out (by kernel_rfl)) (by decide) (fun K hK => ?_)
           refine skip_ (w1 := ?_) (by rfl) rfl ?_ ?_
           rotate_left
           ·go_simp
            rfl
           refine hK.out _ _ ?_
           clear hK K
           refine done_ (done_of HT_.out (by kernel_rfl)) ?_
           go_wp2
           go_roundg (cc - (q + 1))
           case measure => omega
           case rel => exact ⟨q + 1, by omega, by omega, by go_num, HE4, HC4⟩
          ·have j1 : ((q : Int) < (cc : Int)) = False := eq_false (by omega)
           have hqe : q = R.length := by rw [HRB.out.1]; omega
           have HE6 := Aside0.mk (show Env.Env 22 3 w0 wr (LX (Mat.erT T r C (M1.set r T) (i + 1))) from by
            have h9 := HSQ.out
            rw [hqe, Mat.raddTo_all hRT, HST.out] at h9
            exact h9)
           clear hqe hRT HSQ HHK
           go_wp2
           go_roundg (n - (i + 1))
           case measure => omega
           case rel => exact ⟨i + 1, by omega, by omega, by go_num, HE6⟩
       ·have hie : i = n := by omega
        have hest : Mat.erT T r C (M1.set r T) i = Mat.est M r (r + p) k := by
         rw [hie, ← HNL.out, Mat.erT_all HCL.out]
         unfold Mat.est
         rw [← HM1.out]
         unfold Mat.top
         rw [← HER.out, ← HXE.out, ← HFE.out, ← HTE.out, ← HCE.out]
        have hE7 := HL4.out _ _ HSI.out
        rw [hest] at hE7
        have HE7 := Aside0.mk hE7
        have hsvr := HMM.out.2.2.2
        rw [show d - k = (d - (k + 1)) + 1 by omega] at hsvr
        conv at hsvr => lhs; unfold Mat.sv
        rw [HPV.out] at hsvr
        dsimp only at hsvr
        rw [HMM.out.1] at hsvr
        have p1 : ((i : Int) < (n : Int)) = False := eq_false (by omega)
        have HPN := Aside0.mk (show r + p < n from by have := HPS.out; omega)
        clear hE7 hest HSI
        by_cases hr1 : r + 1 = n
        ·rw [if_pos hr1] at hsvr
         have HSV := Aside0.mk hsvr
         have e1 : ((r : Int) + 1 == (n : Int)) = true := by simp; omega
         have e2 : (((r + 1 : Nat) : Int) == (n : Int)) = true := by simp; omega
         clear hsvr
         go_wp2
         go_ret
         rw [← HSV.out]
         exact ⟨by go_num, HE7.out⟩
        ·rw [if_neg hr1] at hsvr
         have HSV := Aside0.mk hsvr
         have e1 : ((r : Int) + 1 == (n : Int)) = false := by simp; omega
         have e2 : (((r + 1 : Nat) : Int) == (n : Int)) = false := by simp; omega
         clear hsvr
         go_wp2
         go_roundg (d - (k + 1))
         case measure => omega
         case rel => exact ⟨k + 1, r + 1, Mat.est M r (r + p) k, by omega, by omega, by go_num, by go_num, by omega, ⟨by rw [Mat.est_length]; exact HMM.out.1, Mat.est_MB HMM.out.2.1 k (by rw [HMM.out.1]; exact hrn) (by rw [HMM.out.1]; exact HPN.out), by have := HMM.out.2.2.1; omega, HSV.out⟩, HE7⟩
  ·obtain rfl : k = d := by omega
   have hs := HMM.out.2.2.2
   rw [Nat.sub_self] at hs
   have HS := Aside0.mk (show Mat.sv k 0 0 m = (M, r) from hs.symm)
   have p1 : decide ((k : Int) < (k : Int)) = false := decide_eq_false (by omega)
   clear hs
   go_wp2
   go_ret
   rw [HS.out]
   exact ⟨rfl, ENV.out⟩

set_option maxHeartbeats 8000000 in
set_option maxRecDepth 100000 in
theorem inverted_e (A0 : Option Addr) (c0 n : Nat) (m : List (List Nat)) (w : World) (hm : Mat.MB' n m) (hmn : m.length = n) (h1 : 1 ≤ n) (h8 : n ≤ 8) (hr0 : Kd.C (Kd.slice 3 (Kd.int .i64)) w A0 (upM m).length (upM m)) (hc0 : (upM m).length ≤ c0) :
  Calls Try.prog 41 #[.slice A0 n c0] w fun e w' => ∃ v0_ : Value, e = .returned (.tuple #[v0_, .bool (invW m).2]) ∧ Kd.S (Kd.slice 3 (Kd.int .i64)) 22 w' w.heap.size (fun _ => True) v0_ (invW m).1 ∧ Below w.heap.size w w' := by
 have HM := Aside0.mk (show Mat.MB' n m ∧ m.length = n ∧ 1 ≤ n ∧ n ≤ 8 from ⟨hm, hmn, h1, h8⟩)
 have hul : (upM m).length = n := by rw [upM_length, hmn]
 have hil : (upM (Mat.idM n)).length = n := by rw [upM_length, Mat.idM_length]
 have hrow : ∀ i, (m.getD i []).length ≤ 1000 := fun i => by
  by_cases hi : i < m.length
  ·rw [(hm.get hi).1]; omega
  ·rw [List.getD_eq_getElem?_getD, List.getElem?_eq_none (by omega)]; simp
 have hrow2 : ∀ i, ((Mat.idM n).getD i []).length ≤ 1000 := fun i => by
  by_cases hi : i < (Mat.idM n).length
  ·rw [((Mat.idM_MB n).get hi).1]; omega
  ·rw [List.getD_eq_getElem?_getD, List.getElem?_eq_none (by omega)]; simp
 obtain ⟨K2, hk2⟩ := (impl_identity_ev n (by omega)).rounds
 obtain ⟨K3, hk3⟩ := (impl_beside_ev m (Mat.idM n) (by rw [hmn, Mat.idM_length]) (by omega) hrow hrow2).rounds
 rw [idL_up] at hk2
 have H2 := Aside0.mk hk2
 have H3 := Aside0.mk hk3
 have HR := Aside0.mk hr0
 have HC := Aside0.mk hc0
 have HUL := Aside0.mk (show (upM m).length = n ∧ (upM (Mat.idM n)).length = n from ⟨hul, hil⟩)
 have n0 : (0 : Int) ≤ (n : Int) := by omega
 have n1 : (n : Int) ≤ 8 := by omega
 clear hk2 hk3 hr0 hc0 hm hmn h1 h8 hul hil hrow hrow2
 go_enter Try.func41, Try.ntmps41
 go_wp2_with fail
 refine (impl_identity.calls K2 (n : Int) (upM (Mat.idM n)) w H2.out).mono ?_
 rintro e w1 ⟨v1, rfl, hS_, hb_⟩
 obtain ⟨B1, d1, rfl, hE_⟩ := (Env.Env.start (e := 22) (t := 3) w).madeS (by decide) hS_ hb_
 have hbes := impl_beside.calls K3 A0 c0 (upM m) B1 d1 (upM (Mat.idM n)) (upM (Mat.bes m (Mat.idM n))) w1 (hE_.came HR.out) HC.out (hE_.C (by decide) 0 rfl) (hE_.cap (by decide) 0 rfl) H3.out
 rw [HUL.out.1, HUL.out.2] at hbes
 rw [HUL.out.2] at hE_ ⊢
 have HBES := Aside0.mk hbes
 have ENV := Aside0.mk hE_
 clear hE_ hS_ hb_ hbes H3 H2
 go_wp2_with fail
 refine HBES.out.mono ?_
 rintro e w2 ⟨v2, rfl, hS_, hb_⟩
 obtain ⟨B2, d2, rfl, hE_⟩ := ENV.out.madeS (by decide) hS_ hb_
 have hPl : (Mat.bes m (Mat.idM n)).length = n := by rw [Mat.bes_length (by rw [HM.out.2.1, Mat.idM_length]), HM.out.2.1]
 obtain ⟨g, _, _, hB, _⟩ := hE_.mrow (by decide) (j := 0) rfl (i := 0) (by rw [upM_length, hPl]; have := HM.out.2.2.1; omega)
 subst hB
 rw [upM_length, hPl] at hE_ ⊢
 have hsv := solved_e hE_ 0 (m := Mat.bes m (Mat.idM n)) (c := d2) (A := some ⟨g, 0, none⟩) (by rw [hPl]; rfl) (cc := n + n) (Mat.bes_MB HM.out.1 (Mat.idM_MB n)) n (by omega) (by have := HM.out; omega) (by rw [hPl]; have := HM.out; omega) (by rw [hPl]; have := HM.out; omega)
 rw [hPl, Mat.bes_sv n 0 0 HM.out.1 (by rw [HM.out.2.1, Mat.idM_length]) (by omega)] at hsv
 have HSV := Aside0.mk hsv
 clear hE_ hS_ hb_ HBES hsv ENV hPl
 go_wp2_with fail
 refine HSV.out.mono ?_
 rintro e w3 ⟨rfl, hE3⟩
 obtain ⟨rk, hrk⟩ : ∃ rk, rk = (Mat.sv n 0 0 m).2 := ⟨_, rfl⟩
 obtain ⟨P, hP⟩ : ∃ P, P = (Mat.sv n 0 0 m).1 := ⟨_, rfl⟩
 obtain ⟨t, ht⟩ : ∃ t, t = Mat.sv2 n 0 0 m (Mat.idM n) := ⟨_, rfl⟩
 have HIV := Aside0.mk (show invW m = match (if rk < n then none else some t) with | none => ([], false) | some s => (upM s, true) from by
  unfold invW Mat.inv Mat.rank
  rw [HM.out.2.1, ← hrk, ← ht] <;> rfl)
 have HPT := Aside0.mk (show (Mat.MB' n P ∧ P.length = n) ∧ (Mat.MB' n t ∧ t.length = n) from by
  rw [hP, ht]
  exact ⟨⟨Mat.sv_MB _ _ _ HM.out.1, by rw [Mat.sv_length]; exact HM.out.2.1⟩, Mat.sv2_MB _ _ _ HM.out.1 (Mat.idM_MB n) (by rw [Mat.idM_length, HM.out.2.1]), by rw [Mat.sv2_length _ _ _ (by rw [Mat.idM_length, HM.out.2.1]), HM.out.2.1]⟩)
 try dsimp only at hE3
 try dsimp only
 rw [← hP, ← ht] at hE3
 rw [← hrk]
 replace hE3 : Env.Env 22 3 w w3 [(.slice (some ⟨g, 0, none⟩) n d2, .mat (upM (Mat.bes P t))), (.slice B1 n d1, .mat (upM (Mat.idM n)))] := hE3
 have ENV := Aside0.mk hE3
 clear hE3 HSV hrk hP ht
 by_cases hk : rk < n
 ·have p1 : ((rk : Int) < (n : Int)) = True := eq_true (by omega)
  have p2 : (rk < n) = True := eq_true hk
  have HI := HIV.out
  rw [if_pos hk] at HI
  replace HI := Aside0.mk (show invW m = ([], false) from HI)
  have HBE := Aside0.mk ENV.out.1
  clear hk
  go_wp2
  go_ret2
  rw [HI.out]
  exact ⟨_, rfl, Kd.S_nil _ _ _ _ _, HBE.out⟩
 ·have p1 : ((rk : Int) < (n : Int)) = False := eq_false (by omega)
  have p2 : (rk < n) = False := eq_false hk
  have HI := HIV.out
  rw [if_neg hk] at HI
  replace HI := Aside0.mk (show invW m = (upM t, true) from HI)
  clear hk
  go_wp2_with ((with_reducible refine gate_dst (N := 20) rfl ?_); refine Kd.R_lit (Kd.slice 3 (Kd.int .i64)) _ 22 ?hg (N := 20) ?hd (xs := ([] : List (List Int))) (inner := []) (ok := fun _ => True) (okp := fun _ => True) ?hr ?hp (fun _ hk => hk) trivial (Below.refl _ _) (Nat.le_refl _) (by simp) ?_; (case hd => rfl); (case hg => rfl); (case hr => first | (go_simp; done) | (go_simp; rfl)); (case hp => exact (Reps.none _ _)); intro v20 w20 ho20 hb20 _ _; have HBL0 := Aside0.mk hb20; have HSL0 := Aside0.mk (S_empty ho20); clear ho20 hb20)
  go_loopg [5, 23] n (fun gg v5 v23 wr => ∃ i : Nat, i ≤ n ∧ n - i ≤ gg ∧ v23 = .int .i64 i ∧ Aside0 ((Kd.slice 3 (Kd.int .i64)).S 22 wr w3.heap.size (fun _ => True) v5 (upM (t.take i))) ∧ Aside0 (Below w3.heap.size w3 wr))
  case atStart => exact ⟨0, Nat.zero_le _, by omega, rfl, HSL0, HBL0⟩
  case round =>
   clear HBL0 HSL0
   obtain ⟨i, hi', hgi, rfl, HS, HB⟩ := hrel
   have z0 : (0 : Int) ≤ (i : Int) := by omega
   have z1 : (i : Int) ≤ 100 := by omega
   by_cases hlt : i < n
   ·have p3 : ((i : Int) < (n : Int)) = True := eq_true (by omega)
    have p4 : (i < n) = True := eq_true hlt
    have hE := ENV.out.below HB.out
    have hbl : (Mat.bes P t).length = n := by rw [Mat.bes_length (by rw [HPT.out.1.2, HPT.out.2.2]), HPT.out.1.2]
    have hbi : (Mat.bes P t).getD i [] = P.getD i [] ++ t.getD i [] := Mat.bes_at (by rw [HPT.out.1.2, HPT.out.2.2]) i
    have hpr := HPT.out.1.1.get (i := i) (by rw [HPT.out.1.2]; exact hlt)
    have htr := HPT.out.2.1.get (i := i) (by rw [HPT.out.2.2]; exact hlt)
    have hrl : (Poly.up ((Mat.bes P t).getD i [])).length = n + n := by rw [Poly.up_length, hbi, List.length_append, hpr.1, htr.1]
    have hdr : (Poly.up ((Mat.bes P t).getD i [])).drop n = Poly.up (t.getD i []) := by
     unfold Poly.up
     rw [hbi, List.map_append, List.drop_left' (by rw [List.length_map]; exact hpr.1)]
    obtain ⟨g', gu, cu, hA', hh, hcu, _, _, _⟩ := hE.mput2 (by decide) (j := 0) rfl (i := i) (q := 0) (by rw [upM_length, hbl]; exact hlt) (by rw [upM_getD, hrl]; omega)
    injection hA' with hA'
    injection hA' with hA'
    subst hA'
    obtain ⟨g', Au, cu', hA', hh2, _, _, _, hRu, _, _⟩ := hE.mrow (by decide) (j := 0) rfl (i := i) (by rw [upM_length, hbl]; exact hlt)
    injection hA' with hA'
    injection hA' with hA'
    subst hA'
    rw [upM_getD, hrl] at hh hcu hh2 hRu
    have hk2 := hh2.symm.trans hh
    injection hk2 with hk2
    injection hk2 with hk3 _ hk4
    subst hk3 hk4
    have hC := (Kd.R_reads' hRu).2.2
    have hCd := Kd.C_drop (m := n) hC (by rw [hrl]; omega) (show (Poly.up ((Mat.bes P t).getD i [])).length ≤ cu' from by rw [hrl]; exact hcu)
    have hcn : ¬ cu' = n := by omega
    rw [if_neg hcn, hdr] at hCd
    have eA : (some (⟨gu, 0, none⟩ : Addr)).map (·.add (n * (Kd.int .i64).sz)) = some ⟨gu, n, none⟩ := by
     show some ((⟨gu, 0, none⟩ : Addr).add (n * 1)) = _
     rw [Nat.mul_one, add_plain]
    rw [eA] at hCd
    obtain ⟨i0, hi0, _, hsz, _⟩ := info_parts infoJ
    have hcut := cut_from (P := Try.prog) 22 3 .i64 Try.underlying22 hi0 1 hsz (some ⟨gu, 0, none⟩) (n + n) cu' (n : Int) n0 (by omega)
    have htl : (Poly.up (t.getD i [])).length = n := by rw [Poly.up_length]; exact htr.1
    have hcl := slices_Clone_int_int.calls (some ⟨gu, n, none⟩) (cu' - n) (Poly.up (t.getD i [])) (Poly.up (t.getD i [])) wr hCd (by rw [htl]; omega) (by unfold slices_Clone_int_int.f; rw [if_pos (by rw [htl]; omega)])
    rw [htl] at hcl
    have HSL := Aside0.mk (show (upM (t.take i)).length ≤ 1000000 by rw [upM_length, List.length_take]; omega)
    have HTS := Aside0.mk (show upM (t.take i) ++ [Poly.up (t.getD i [])] = upM (t.take (i + 1)) from by
     have hi9 : i < t.length := by rw [HPT.out.2.2]; exact hlt
     rw [List.take_succ_eq_append_getElem hi9, ← upM_snoc, List.getD_eq_getElem?_getD, List.getElem?_eq_getElem hi9]; rfl)
    have HTL := Aside0.mk htl
    have q1 : (cu' = n) = False := eq_false hcn
    have q2 : n + n - n = n := by omega
    generalize t.getD i [] = row at hcl HTS HTL
    clear hi0 hsz eA hCd hcn hC hRu hh2 hdr hrl htr hpr hbi hbl hE htl
    go_wp2_with fail
    refine hcl.mono ?_
    rintro e w4 ⟨v1, rfl, hR1, hb1⟩
    obtain ⟨A9, c9, rfl⟩ := Kd.R_slice hR1
    have HB1 := Aside0.mk hb1
    have HR3 := Aside0.mk hR1
    clear hb1 hR1 hcl hcut
    go_wp2_with ((with_reducible refine gate_builtin (b := .append) (xs := #[.tmp 27, .tmp 33]) rfl ?_); at_builtin; refine app_event (w0 := w3) w3.heap.size rfl (.tmp 27) (.tmp 33) rfl _ (upM (t.take i)) A9 c9 (Poly.up row) rfl rfl HS.out HB1.out HR3.out ?aB ?aS HSL.out ?_; (case aB => exact below_step HB.out HB1.out); (case aS => exact HB.out.size); intro A10 c10 w2 hS2 hB2 HK2; rw [HTS.out] at hS2; have HS2 := Aside0.mk hS2; have HB2 := Aside0.mk hB2; clear hS2 hB2)
    go_roundg (n - (i + 1))
    case measure => omega
    case rel => exact ⟨i + 1, by omega, by omega, by go_num, HS2, HB2⟩
   ·have p3 : ((i : Int) < (n : Int)) = False := eq_false (by omega)
    have p4 : (i < n) = False := eq_false hlt
    have hS := HS.out
    rw [show t.take i = t from by rw [List.take_of_length_le (by rw [HPT.out.2.2]; omega)]] at hS
    have HS' := Aside0.mk (Kd.S_lower hS ENV.out.1.size)
    have HBE := Aside0.mk (below_step ENV.out.1 HB.out)
    clear hS
    go_wp2
    go_ret2
    rw [HI.out]
    exact ⟨_, rfl, HS'.out, HBE.out⟩

def impl_InvertMatrix.f (l : List (List Int)) : Option (List (List Int) × Bool) := some (invV l)
theorem impl_InvertMatrix_eq (l : List (List Int)) : impl_InvertMatrix.f l = some (invV l) := rfl
set_option maxHeartbeats 4000000 in
theorem impl_InvertMatrix.calls (A0 : Option Addr) (c0 : Nat) (l0 : List (List Int)) (r1 : List (List Int)) (r2 : Bool) (w : World) (hr0 : Kd.C (Kd.slice 3 (Kd.int .i64)) w A0 l0.length l0) (hc0 : l0.length ≤ c0) (h : impl_InvertMatrix.f l0 = some (r1, r2)) :
  Calls Try.prog 16 #[.slice A0 l0.length c0] w fun e w' => ∃ v0_ : Value, e = .returned (.tuple #[v0_, .bool r2]) ∧ Kd.S (Kd.slice 3 (Kd.int .i64)) 22 w' w.heap.size (fun _ => True) v0_ r1 ∧ Below w.heap.size w w' := by
 have HR := Aside0.mk hr0
 have HC := Aside0.mk hc0
 clear hr0 hc0
 unfold impl_InvertMatrix.f at h
 have H0 := Option.some.inj h
 clear h
 have hk := impl_GoodMatrix_eq l0
 cases hg : goodM l0 with
 | false =>
  rw [hg] at hk
  have H1 := Aside0.mk hk
  unfold invV at H0
  rw [hg] at H0
  injection H0 with e1 e2
  subst e1 e2
  clear hk hg
  go_enter Try.func16, Try.ntmps16
  go_wp2_with (go_at_call 40; refine (impl_GoodMatrix.calls A0 c0 l0 false _ HR.out HC.out H1.out).mono ?_; rintro e w' ⟨rfl, hb⟩; have HB := Aside0.mk hb; clear hb)
  go_ret2
  exact ⟨_, rfl, Kd.S_nil _ _ _ _ _, HB.out⟩
 | true =>
  rw [hg] at hk
  have H1 := Aside0.mk hk
  obtain ⟨c, m, rfl, hm, e1, e2, h1, h2, h3, h4⟩ := goodM_up hg
  have hlen : 0 < (upM m).length := by rw [upM_length]; omega
  obtain ⟨ad, A1, c1, rfl, hx, hl1, hi1⟩ := Mx.rows_at HR.out 0 hlen hlen
  have e0 : (upM m).getD 0 [] = (upM m)[0] := by rw [List.getD_eq_getElem?_getD, List.getElem?_eq_getElem hlen]; rfl
  rw [Addr.add_zero'] at hx
  have e3 : (upM m)[0].length = c := by rw [← e0, e1]
  generalize (upM m)[0] = r0 at hx hl1 hi1 e3
  have p0 := eq_true hlen
  have p1 : (0 < ((upM m).length : Int)) = True := eq_true (by omega)
  have HX := Aside0.mk hx
  by_cases hq : m.length = c
  ·have hv : invV (upM m) = invW m := by
    unfold invV invW
    rw [hg, e1, upM_length, decide_eq_true hq, dnM_upM]
    rfl
   rw [hv] at H0
   have H0' := Aside0.mk H0
   have q1 : (((upM m).length : Int) != (r0.length : Int)) = false := by rw [upM_length, e3, hq]; simp
   have q2 : ((upM m).length != r0.length) = false := by rw [upM_length, e3, hq]; simp
   have HI := Aside0.mk (fun w' (hC : Kd.C (Kd.slice 3 (Kd.int .i64)) w' (some ad) (upM m).length (upM m)) => show Calls Try.prog 41 #[.slice (some ad) (upM m).length c0] w' _ from by
    have h9 := inverted_e (some ad) c0 c m w' hm hq h3 h4 hC HC.out
    rw [show c = (upM m).length from by rw [upM_length, hq]] at h9
    exact h9)
   clear H0 hv hk hg hm e0 e1 e2 e3 h1 h2 h3 h4 hl1 hi1 hq hlen hx
   go_enter Try.func16, Try.ntmps16
   go_wp2_with (first | (go_at_call 40; refine (impl_GoodMatrix.calls (some ad) c0 (upM m) true _ HR.out HC.out H1.out).mono ?_; rintro e w' ⟨rfl, hb⟩; have HB := Aside0.mk hb; have hx2 := pw_cell_below hb HX.out; clear hb) | (go_at_call 41; refine (HI.out _ (Kd.C_below HR.out HB.out)).mono ?_; rintro e w2 ⟨v2, rfl, hS_, hb_⟩; have HS_ := Aside0.mk hS_; have HB_ := Aside0.mk hb_; clear hS_ hb_))
   go_ret2
   have e9 := H0'.out
   rw [e9] at HS_
   rw [e9]
   exact ⟨_, rfl, Kd.S_lower HS_.out HB.out.size, below_step HB.out HB_.out⟩
  ·have hv : invV (upM m) = ([], false) := by
    unfold invV
    rw [hg, e1, upM_length, decide_eq_false hq]
    rfl
   rw [hv] at H0
   injection H0 with e8 e9
   subst e8 e9
   have q1 : (((upM m).length : Int) != (r0.length : Int)) = true := by rw [upM_length, e3, bne_iff_ne]; omega
   have q2 : ((upM m).length != r0.length) = true := by rw [upM_length, e3, bne_iff_ne]; exact hq
   clear hv hk hg hm e0 e1 e2 e3 h1 h2 h3 h4 hl1 hi1 hq hlen hx
   go_enter Try.func16, Try.ntmps16
   go_wp2_with (go_at_call 40; refine (impl_GoodMatrix.calls (some ad) c0 (upM m) true _ HR.out HC.out H1.out).mono ?_; rintro e w' ⟨rfl, hb⟩; have HB := Aside0.mk hb; have hx2 := pw_cell_below hb HX.out; clear hb)
   go_ret2
   exact ⟨_, rfl, Kd.S_nil _ _ _ _ _, HB.out⟩

def solW (m : List (List Nat)) (y : List Nat) : List Int × Bool := match Mat.inv m with
 | none => ([], false)
 | some s => (Poly.up (Mat.colM s y), true)
set_option maxHeartbeats 8000000 in
set_option maxRecDepth 100000 in
theorem solve_e (A0 : Option Addr) (c0 n : Nat) (m : List (List Nat)) (w : World) (hm : Mat.MB' n m) (hmn : m.length = n) (h1 : 1 ≤ n) (h8 : n ≤ 8) (hr0 : Kd.C (Kd.slice 3 (Kd.int .i64)) w A0 (upM m).length (upM m)) (hc0 : (upM m).length ≤ c0)
  (A1 : Option Addr) (c1 : Nat) (y : List Nat) (hy : Poly.AllB y) (hyl : y.length = n) (hr1 : (Kd.int .i64).C w A1 (Poly.up y).length (Poly.up y)) :
  Calls Try.prog 45 #[.slice A0 n c0, .slice A1 n c1] w fun e w' => ∃ v0_ : Value, e = .returned (.tuple #[v0_, .bool (solW m y).2]) ∧ (Kd.int .i64).R 3 w' w.heap.size (fun _ => True) v0_ (solW m y).1 ∧ Below w.heap.size w w' := by
 have HINV := Aside0.mk (inverted_e A0 c0 n m w hm hmn h1 h8 hr0 hc0)
 have HM := Aside0.mk (show Mat.MB' n m ∧ m.length = n ∧ 1 ≤ n ∧ n ≤ 8 from ⟨hm, hmn, h1, h8⟩)
 have HY := Aside0.mk (show Poly.AllB y ∧ y.length = n from ⟨hy, hyl⟩)
 have HV := Aside0.mk hr1
 have n0 : (0 : Int) ≤ (n : Int) := by omega
 have n1 : (n : Int) ≤ 8 := by omega
 clear hm hmn h1 h8 hr0 hc0 hy hyl hr1
 go_enter Try.func45, Try.ntmps45
 go_wp2_with fail
 refine HINV.out.mono ?_
 rintro e w3 ⟨v3, rfl, hS, hb⟩
 have HB3 := Aside0.mk hb
 cases hi : Mat.inv m with
 | none =>
  have HW := Aside0.mk (show solW m y = ([], false) from by unfold solW; rw [hi])
  have hw : invW m = ([], false) := by unfold invW; rw [hi]
  rw [hw]
  clear hi hw hS hb HINV
  go_wp2
  go_ret2
  rw [HW.out]
  exact ⟨_, rfl, Kd.R_nil _ _ _ _ _, HB3.out⟩
 | some s =>
  have HW := Aside0.mk (show solW m y = (Poly.up (Mat.colM s y), true) from by unfold solW; rw [hi])
  have HS := Aside0.mk (inv_MB HM.out.1 HM.out.2.1 hi)
  have hw : invW m = (upM s, true) := by unfold invW; rw [hi]
  rw [hw] at hS ⊢
  obtain ⟨B1, d1, rfl, hE⟩ := (Env.Env.start (e := 22) (t := 3) w).madeS (by decide) hS hb
  have HC3 := Aside0.mk (hE.C (by decide) 0 rfl)
  have HV3 := Aside0.mk (hE.camer HV.out)
  have HSL := Aside0.mk (show (upM s).length = n from by rw [upM_length]; exact HS.out.2)
  clear hi hw hS hb HINV hE
  go_wp2_with ((with_reducible refine gate_dst (N := 21) rfl ?_); refine Kd.R_lit (Kd.int .i64) _ 3 ?hg (N := 21) ?hd (xs := ([] : List Int)) (inner := []) (ok := fun _ => True) (okp := fun _ => True) ?hr ?hp (fun _ hk => hk) trivial (Below.refl _ _) (Nat.le_refl _) (by simp) ?_; (case hd => rfl); (case hg => rfl); (case hr => first | (go_simp; done) | (go_simp; rfl)); (case hp => exact (Reps.none _ _)); intro v20 w20 ho20 hb20 _ _; have HBL0 := Aside0.mk hb20; have HSL0 := Aside0.mk ho20; clear ho20 hb20)
  go_loopg [8, 24] n (fun gg v8 v24 wr => ∃ i : Nat, i ≤ n ∧ n - i ≤ gg ∧ v24 = .int .i64 i ∧ Aside0 ((Kd.int .i64).R 3 wr w3.heap.size (fun _ => True) v8 (Poly.up (Mat.colM (s.take i) y))) ∧ Aside0 (Below w3.heap.size w3 wr))
  case atStart => exact ⟨0, Nat.zero_le _, by omega, rfl, HSL0, HBL0⟩
  case round =>
   clear HBL0 HSL0
   obtain ⟨i, hi', hgi, rfl, HRR, HB⟩ := hrel
   have z0 : (0 : Int) ≤ (i : Int) := by omega
   have z1 : (i : Int) ≤ 100 := by omega
   by_cases hlt : i < n
   ·have hil : i < (upM s).length := by rw [HSL.out]; exact hlt
    have p3 : ((i : Int) < ((upM s).length : Int)) = True := eq_true (by omega)
    have p4 : (i < (upM s).length) = True := eq_true hil
    obtain ⟨ad0, A2, c2, rfl, hx2, hl2, hr2⟩ := Mx.rows_at HC3.out i hil hil
    have hri := HS.out.1.get (i := i) (by rw [HS.out.2]; exact hlt)
    have erow : (upM s)[i] = Poly.up (s.getD i []) := by
     have h9 := upM_getD s i
     rw [List.getD_eq_getElem?_getD, List.getElem?_eq_getElem hil] at h9
     exact h9
    have hrl : (Poly.up (s.getD i [])).length = n := by rw [Poly.up_length]; exact hri.1
    rw [erow] at hx2 hl2 hr2
    rw [hrl] at hx2
    have hxb := pw_cell_below HB.out hx2
    have HTS := Aside0.mk (colM_snoc s y (i := i) (by rw [HS.out.2]; exact hlt))
    obtain ⟨R, hR⟩ : ∃ R, R = s.getD i [] := ⟨_, rfl⟩
    rw [← hR] at hri hr2 HTS hrl
    have HRB := Aside0.mk hri
    have HRC := Aside0.mk hr2
    have HRL := Aside0.mk hrl
    clear hx2 hr2 hri erow hil hl2 hR hrl
    go_wp2
    go_loopg [11, 30] n (fun gg v11 v30 wq => ∃ (j a : Nat), j ≤ n ∧ n - j ≤ gg ∧ Aside0 (a = Mat.dotL (R.take j) (y.take j)) ∧ v11 = .int .i64 a ∧ v30 = .int .i64 j ∧ Aside0 ((Kd.int .i64).R 3 wq w3.heap.size (fun _ => True) u8 (Poly.up (Mat.colM (s.take i) y))) ∧ Aside0 (Below w3.heap.size w3 wq))
    case atStart => exact ⟨0, 0, Nat.zero_le _, by omega, ⟨by simp [Mat.dotL]⟩, rfl, rfl, HRR, HB⟩
    case round =>
     clear HRR HB hxb
     obtain ⟨j, a, hj', hgj, HA, rfl, rfl, HRR, HB⟩ := hrel
     have y0 : (0 : Int) ≤ (j : Int) := by omega
     have y1 : (j : Int) ≤ 100 := by omega
     by_cases hjn : j < n
     ·have j1 : ((j : Int) < (n : Int)) = True := eq_true (by omega)
      have j2 : (j < n) = True := eq_true hjn
      obtain ⟨ad2, e2, hx3⟩ := Kd.at_int HRC.out (j : Int) (by omega) (by rw [HRL.out]; omega)
      cases e2
      obtain ⟨ad3, e3, hx4⟩ := Kd.at_int HV3.out (j : Int) (by omega) (by rw [Poly.up_length, HY.out.2]; omega)
      cases e3
      rw [Poly.rd_up, Int.toNat_natCast] at hx3 hx4
      have hx5 := pw_cell_below HB.out hx3
      have hx6 := pw_cell_below HB.out hx4
      have hrb : R.getD j 0 < 256 := Poly.AllB.get HRB.out.2 j
      have hyb : y.getD j 0 < 256 := Poly.AllB.get HY.out.1 j
      obtain ⟨K2, h2⟩ := (impl_mul_ev (R.getD j 0) (y.getD j 0) hrb hyb).rounds
      have HK2 := Aside0.mk h2
      have HX := Aside0.mk (show Go.bits .xor .i64 (a : Int) ((Gf.gm (R.getD j 0) (y.getD j 0) : Nat) : Int) = ((Mat.dotL (R.take (j + 1)) (y.take (j + 1)) : Nat) : Int) from by
       rw [HA.out, xor_up (dotL_take_lt R y HRB.out.2 j) (Gf.gm_lt _ hrb), dotL_take R y j (by rw [HRB.out.1, HY.out.2]) (by rw [HRB.out.1]; exact hjn)])
      generalize R.getD j 0 = x at hx5 HK2 HX
      generalize y.getD j 0 = z at hx6 HK2 HX
      clear hx3 hx4 hrb hyb h2
      go_wp2_with (go_at_call 43; refine (impl_mul.calls K2 (x : Int) (z : Int) _ _ HK2.out).mono ?_; rintro e w4 ⟨rfl, hd4⟩; have HB4 := Aside0.mk hd4.below; clear hd4)
      go_roundg (n - (j + 1))
      case measure => omega
      case rel => exact ⟨j + 1, _, by omega, by omega, ⟨rfl⟩, by rw [← HX.out], by go_num, ⟨Kd.R_below HRR.out HB4.out⟩, ⟨below_step HB.out HB4.out⟩⟩
     ·have j1 : ((j : Int) < (n : Int)) = False := eq_false (by omega)
      have j2 : (j < n) = False := eq_false hjn
      have ha : a = Mat.dotL R y := by
       rw [HA.out, List.take_of_length_le (by rw [HRB.out.1]; omega), List.take_of_length_le (by rw [HY.out.2]; omega)]
      have HSZ := Aside0.mk (show (Poly.up (Mat.colM (s.take i) y)).length ≤ 8 from by rw [Poly.up_length, Mat.colM_length, List.length_take]; omega)
      have HTA := Aside0.mk (show Poly.up (Mat.colM (s.take i) y) ++ [(a : Int)] = Poly.up (Mat.colM (s.take (i + 1)) y) from by rw [ha]; exact HTS.out)
      clear ha HA
      go_wp2_with ((with_reducible refine gate_builtin (b := .append) (xs := #[.tmp 44, .tmp 46]) rfl ?_); at_builtin; refine Kd.R_append (Kd.int .i64) (w0 := w3) w3.heap.size rfl (.tmp 44) (.tmp 46) 22 3 (.int .i64 0) 8 rfl Try.underlying22 infoJ rfl (by decide) (by omega) u8 (Poly.up (Mat.colM (s.take i) y)) (a : Int) [.int .i64 (a : Int)] (fun _ => True) (fun _ => False) rfl rfl ?aP (fun _ hk => hk.elim) ?aF ?aO ?aB ?aS ?aL ?_; (case aP => exact rfl); (case aB => exact HB.out); (case aF => exact (fun _ _ => trivial)); (case aO => exact HRR.out); (case aS => exact HB.out.size); (case aL => have := HSZ.out; omega); intro v159 w12 ho hb hg hat; rw [HTA.out] at ho; have HO9 := Aside0.mk ho; have HB9 := Aside0.mk hb; clear ho hb hg hat)
      go_roundg (n - (i + 1))
      case measure => omega
      case rel => exact ⟨i + 1, by omega, by omega, by go_num, HO9, HB9⟩
   ·have p3 : ((i : Int) < ((upM s).length : Int)) = False := eq_false (by have := HSL.out; omega)
    have p4 : (i < (upM s).length) = False := eq_false (by have := HSL.out; omega)
    have hR := HRR.out
    rw [show s.take i = s from by rw [List.take_of_length_le (by rw [HS.out.2]; omega)]] at hR
    have HR9 := Aside0.mk (Kd.R_lower hR HB3.out.size)
    have HBE := Aside0.mk (below_step HB3.out HB.out)
    clear hR
    go_wp2
    go_ret2
    rw [HW.out]
    exact ⟨_, rfl, HR9.out, HBE.out⟩

def impl_SolveBy.f (l : List (List Int)) (v : List Int) : Option (List Int × Bool) := some (solveV l v)
theorem impl_SolveBy_eq (l : List (List Int)) (v : List Int) : impl_SolveBy.f l v = some (solveV l v) := rfl
set_option maxHeartbeats 4000000 in
theorem impl_SolveBy.calls (A0 : Option Addr) (c0 : Nat) (l0 : List (List Int)) (A1 : Option Addr) (c1 : Nat) (l1 : List Int) (r1 : List Int) (r2 : Bool) (w : World) (hr0 : Kd.C (Kd.slice 3 (Kd.int .i64)) w A0 l0.length l0) (hc0 : l0.length ≤ c0) (hr1 : (Kd.int .i64).C w A1 l1.length l1) (hc1 : l1.length ≤ c1) (h : impl_SolveBy.f l0 l1 = some (r1, r2)) :
  Calls Try.prog 19 #[.slice A0 l0.length c0, .slice A1 l1.length c1] w fun e w' => ∃ v0_ : Value, e = .returned (.tuple #[v0_, .bool r2]) ∧ (Kd.int .i64).R 3 w' w.heap.size (fun _ => True) v0_ r1 ∧ Below w.heap.size w w' := by
 have HR := Aside0.mk hr0
 have HC := Aside0.mk hc0
 have HR1 := Aside0.mk hr1
 have HC1 := Aside0.mk hc1
 clear hr0 hc0 hr1 hc1
 unfold impl_SolveBy.f at h
 have H0 := Option.some.inj h
 clear h
 have hk := impl_GoodMatrix_eq l0
 have h6 := impl_areGf_eq l1
 have no : ∀ {x : Bool}, solveOk l0 l1 = x → x = false → r1 = [] ∧ r2 = false := fun hx he => by
  unfold solveV at H0
  rw [hx.trans he] at H0
  injection H0 with e1 e2
  exact ⟨e1.symm, e2.symm⟩
 cases hg : goodM l0 with
 | false =>
  obtain ⟨rfl, rfl⟩ := no rfl (by unfold solveOk; rw [hg]; rfl)
  rw [hg] at hk
  have H1 := Aside0.mk hk
  clear no H0 hk hg h6
  go_enter Try.func19, Try.ntmps19
  go_wp2_with (go_at_call 40; refine (impl_GoodMatrix.calls A0 c0 l0 false _ HR.out HC.out H1.out).mono ?_; rintro e w' ⟨rfl, hb⟩; have HB := Aside0.mk hb; clear hb)
  go_ret2
  exact ⟨_, rfl, Kd.R_nil _ _ _ _ _, HB.out⟩
 | true =>
  rw [hg] at hk
  have H1 := Aside0.mk hk
  obtain ⟨c, m, rfl, hm, e1, e2, h1, h2, h3, h4⟩ := goodM_up hg
  have hlen : 0 < (upM m).length := by rw [upM_length]; omega
  obtain ⟨ad, A2, c2, rfl, hx, hl1, hi1⟩ := Mx.rows_at HR.out 0 hlen hlen
  have e0 : (upM m).getD 0 [] = (upM m)[0] := by rw [List.getD_eq_getElem?_getD, List.getElem?_eq_getElem hlen]; rfl
  rw [Addr.add_zero'] at hx
  have e3 : (upM m)[0].length = c := by rw [← e0, e1]
  generalize (upM m)[0] = r0 at hx hl1 hi1 e3
  have p0 := eq_true hlen
  have p1 : (0 < ((upM m).length : Int)) = True := eq_true (by omega)
  have HX := Aside0.mk hx
  have d1 : decide ((upM m).length = ((upM m).getD 0 []).length) = decide (m.length = c) := by rw [e1, upM_length]
  by_cases hq : m.length = c
  rotate_left
  ·obtain ⟨rfl, rfl⟩ := no rfl (by unfold solveOk; rw [hg, d1, decide_eq_false hq]; rfl)
   have q1 : (((upM m).length : Int) != (r0.length : Int)) = true := by rw [upM_length, e3, bne_iff_ne]; omega
   have q2 : ((upM m).length != r0.length) = true := by rw [upM_length, e3, bne_iff_ne]; exact hq
   clear no H0 hk hg hm e0 e1 e2 e3 h1 h2 h3 h4 hl1 hi1 hq hlen h6 d1 hx
   go_enter Try.func19, Try.ntmps19
   go_wp2_with (go_at_call 40; refine (impl_GoodMatrix.calls (some ad) c0 (upM m) true _ HR.out HC.out H1.out).mono ?_; rintro e w' ⟨rfl, hb⟩; have HB := Aside0.mk hb; have hx2 := pw_cell_below hb HX.out; clear hb)
   go_ret2
   exact ⟨_, rfl, Kd.R_nil _ _ _ _ _, HB.out⟩
  have q1 : (((upM m).length : Int) != (r0.length : Int)) = false := by rw [upM_length, e3, hq]; simp
  have q2 : ((upM m).length != r0.length) = false := by rw [upM_length, e3, hq]; simp
  by_cases g2 : l1.length = (upM m).length
  rotate_left
  ·obtain ⟨rfl, rfl⟩ := no rfl (by unfold solveOk; rw [hg, d1, decide_eq_true hq, decide_eq_false g2]; rfl)
   have q3 : ((l1.length : Int) != ((upM m).length : Int)) = true := by rw [bne_iff_ne]; omega
   have q4 : (l1.length != (upM m).length) = true := by rw [bne_iff_ne]; exact g2
   clear no H0 hk hg hm e0 e1 e2 e3 h1 h2 h3 h4 hl1 hi1 hq hlen h6 d1 hx g2
   go_enter Try.func19, Try.ntmps19
   go_wp2_with (go_at_call 40; refine (impl_GoodMatrix.calls (some ad) c0 (upM m) true _ HR.out HC.out H1.out).mono ?_; rintro e w' ⟨rfl, hb⟩; have HB := Aside0.mk hb; have hx2 := pw_cell_below hb HX.out; clear hb)
   go_ret2
   exact ⟨_, rfl, Kd.R_nil _ _ _ _ _, HB.out⟩
  have q3 : ((l1.length : Int) != ((upM m).length : Int)) = false := by rw [g2]; simp
  have q4 : (l1.length != (upM m).length) = false := by rw [g2]; simp
  cases g3 : l1.all isB with
  | false =>
   obtain ⟨rfl, rfl⟩ := no rfl (by unfold solveOk; rw [hg, d1, decide_eq_true hq, decide_eq_true g2, g3]; rfl)
   rw [g3] at h6
   have H6 := Aside0.mk h6
   clear no H0 hk hg hm e0 e1 e2 e3 h1 h2 h3 h4 hl1 hi1 hq hlen h6 d1 hx g2 g3
   go_enter Try.func19, Try.ntmps19
   go_wp2_with (first | (go_at_call 40; refine (impl_GoodMatrix.calls (some ad) c0 (upM m) true _ HR.out HC.out H1.out).mono ?_; rintro e w' ⟨rfl, hb⟩; have HB := Aside0.mk hb; have hx2 := pw_cell_below hb HX.out; clear hb) | (go_at_call 32; refine (impl_areGf.calls A1 c1 l1 false _ (Kd.C_below HR1.out HB.out) HC1.out H6.out).mono ?_; rintro e w' ⟨rfl, ⟨nd3, rfl⟩⟩))
   go_ret2
   exact ⟨_, rfl, Kd.R_nil _ _ _ _ _, pw_below_drewN HB.out _⟩
  | true =>
   have hok : solveOk (upM m) l1 = true := by unfold solveOk; rw [hg, d1, decide_eq_true hq, decide_eq_true g2, g3]; rfl
   unfold solveV at H0
   rw [hok, if_pos rfl, dnM_upM] at H0
   rw [g3] at h6
   have H6 := Aside0.mk h6
   obtain ⟨y, rfl, hy⟩ := allB_up g3
   rw [dn_up] at H0
   have H0' := Aside0.mk (show solW m y = (r1, r2) from H0)
   have hul : (upM m).length = c := by rw [upM_length]; exact hq
   have hyl : y.length = c := by rw [Poly.up_length] at g2; omega
   have hpl : (Poly.up y).length = c := by rw [Poly.up_length]; exact hyl
   have HI := Aside0.mk (fun w' (hC : Kd.C (Kd.slice 3 (Kd.int .i64)) w' (some ad) (upM m).length (upM m)) (hV : (Kd.int .i64).C w' A1 (Poly.up y).length (Poly.up y)) => show Calls Try.prog 45 #[.slice (some ad) (upM m).length c0, .slice A1 (Poly.up y).length c1] w' fun e w2 => ∃ v0_ : Value, e = .returned (.tuple #[v0_, .bool r2]) ∧ (Kd.int .i64).R 3 w2 w'.heap.size (fun _ => True) v0_ r1 ∧ Below w'.heap.size w' w2 from by
    have h9 := solve_e (some ad) c0 c m w' hm hq h3 h4 hC HC.out A1 c1 y hy hyl hV
    rw [H0'.out] at h9
    rw [hul, hpl]
    exact h9)
   clear no H0 hk hg hm e0 e1 e2 e3 h1 h2 h3 h4 hl1 hi1 hq hlen h6 d1 hx g2 g3 hok hy hyl hul hpl
   go_enter Try.func19, Try.ntmps19
   go_wp2_with (first | (go_at_call 40; refine (impl_GoodMatrix.calls (some ad) c0 (upM m) true _ HR.out HC.out H1.out).mono ?_; rintro e w' ⟨rfl, hb⟩; have HB := Aside0.mk hb; have hx2 := pw_cell_below hb HX.out; clear hb) | (go_at_call 32; refine (impl_areGf.calls A1 c1 (Poly.up y) true _ (Kd.C_below HR1.out HB.out) HC1.out H6.out).mono ?_; rintro e w' ⟨rfl, ⟨nd3, rfl⟩⟩) | (go_at_call 45; refine (HI.out _ (Kd.C_drewN (Kd.C_below HR.out HB.out) _) (Kd.C_drewN (Kd.C_below HR1.out HB.out) _)).mono ?_; rintro e w2 ⟨v2, rfl, hS_, hb_⟩; have HS_ := Aside0.mk hS_; have HB_ := Aside0.mk hb_; clear hS_ hb_))
   go_ret2
   exact ⟨_, rfl, Kd.R_lower HS_.out (pw_below_drewN HB.out nd3).size, below_step (pw_below_drewN HB.out nd3) HB_.out⟩

set_option maxHeartbeats 2000000 in
set_option maxRecDepth 100000 in
theorem l2invert_e (A0 : Option Addr) (c0 n : Nat) (m : List (List Nat)) (w : World) (hm : Mat.MB' n m) (hmn : m.length = n) (h1 : 1 ≤ n) (h8 : n ≤ 8) (hr0 : Kd.C (Kd.slice 3 (Kd.int .i64)) w A0 (upM m).length (upM m)) (hc0 : (upM m).length ≤ c0) :
  Calls Try.prog 64 #[.slice A0 (upM m).length c0] w fun e w' => ∃ v0_ : Value, e = .returned (.tuple #[v0_, .bool (invW m).2]) ∧ Kd.S (Kd.slice 3 (Kd.int .i64)) 22 w' w.heap.size (fun _ => True) v0_ (invW m).1 ∧ Below w.heap.size w w' := by
 have HM := Aside0.mk (show Mat.MB' n m ∧ m.length = n ∧ 1 ≤ n ∧ n ≤ 8 from ⟨hm, hmn, h1, h8⟩)
 have hul : (upM m).length = n := by rw [upM_length, hmn]
 obtain ⟨K1, hk1⟩ := (spec_l2Own_ev (upM m) (by rw [hul]; omega) (fun r hr => by have := (upM_small hm (k := 8) (by omega) (by omega)).2 r hr; omega)).rounds
 obtain ⟨K2, hk2⟩ := (spec_l2Identity_ev n (by omega)).rounds
 rw [idL_up, show (n : Int) = ((upM m).length : Int) from by rw [hul]] at hk2
 have H1 := Aside0.mk hk1
 have H2 := Aside0.mk hk2
 have HR := Aside0.mk hr0
 have HC := Aside0.mk hc0
 have HG := Aside0.mk (show invW m = match gj n 0 m (Mat.idM n) with | none => ([], false) | some s => (upM s, true) from by rw [← hmn, gj_inv]; rfl)
 have n0 : (0 : Int) ≤ (n : Int) := by omega
 have n1 : (n : Int) ≤ 8 := by omega
 clear hk1 hk2 hr0 hc0 hm hmn h1 h8 hul
 go_enter Try.func64, Try.ntmps64
 go_wp2_with fail
 refine (spec_l2Own.calls K1 A0 c0 (upM m) (upM m) w HR.out HC.out H1.out).mono ?_
 rintro e w1 ⟨v1, rfl, hS_, hb_⟩
 obtain ⟨B1, d1, rfl, hE_⟩ := (Env.Env.start (e := 22) (t := 3) w).madeS (by decide) hS_ hb_
 obtain ⟨g1, _, _, hB, _⟩ := hE_.mrow (by decide) (j := 0) rfl (i := 0) (by rw [upM_length, HM.out.2.1]; have := HM.out.2.2.1; omega)
 subst hB
 have ENV := Aside0.mk hE_
 clear hE_ hS_ hb_
 go_wp2_with fail
 refine (spec_l2Identity.calls K2 ((upM m).length : Int) (upM (Mat.idM n)) _ H2.out).mono ?_
 rintro e w2 ⟨v2, rfl, hS_, hb_⟩
 obtain ⟨B2, d2, rfl, hE_⟩ := ENV.out.madeS (by decide) hS_ hb_
 obtain ⟨g2, _, _, hB, _⟩ := hE_.mrow (by decide) (j := 0) rfl (i := 0) (by rw [upM_length, Mat.idM_length]; have := HM.out.2.2.1; omega)
 subst hB
 rw [upM_length, upM_length, Mat.idM_length, HM.out.2.1] at hE_
 rw [upM_length, upM_length, Mat.idM_length, HM.out.2.1]
 replace ENV := Aside0.mk hE_
 clear hE_ hS_ hb_
 go_wp2
 go_loopg [14] n (fun gg s14 wr => ∃ (i : Nat) (M1 S1 : List (List Nat)), i ≤ n ∧ n - i ≤ gg ∧ s14 = .int .i64 i ∧ Aside0 (gj (n - i) i M1 S1 = gj n 0 m (Mat.idM n)) ∧ Aside0 (Mat.MB' n M1 ∧ M1.length = n ∧ Mat.MB' n S1 ∧ S1.length = n) ∧ Aside0 (Env.Env 22 3 w wr [(.slice (some ⟨g2, 0, none⟩) n d2, .mat (upM S1)), (.slice (some ⟨g1, 0, none⟩) n d1, .mat (upM M1))]))
 case atStart => exact ⟨0, m, Mat.idM n, Nat.zero_le _, by omega, rfl, ⟨rfl⟩, ⟨HM.out.1, HM.out.2.1, Mat.idM_MB n, Mat.idM_length n⟩, ENV⟩
 case round =>
  clear ENV
  obtain ⟨i, M1, S1, hi', hgi, rfl, HJ, HB, ENV⟩ := hrel
  have z0 : (0 : Int) ≤ (i : Int) := by omega
  have z1 : (i : Int) ≤ 100 := by omega
  by_cases hlt : i < n
  ·have p1 : ((i : Int) < (n : Int)) = True := eq_true (by omega)
   have hcl := l2clear_e ENV.out 1 0 (by decide) (g1 := g1) (c1 := d1) (g2 := g2) (c2 := d2) (n := n) (m := M1) (s := S1) rfl rfl HB.out.1 HB.out.2.2.1 HB.out.2.1 HB.out.2.2.2 (by have := HM.out; omega) (by have := HM.out; omega) (by have := HM.out; omega) (r := i) (k := i) hlt hlt (by have := HM.out; omega)
   cases hpv : Mat.pv i (M1.drop i) with
   | none =>
    rw [hpv] at hcl
    have HCL := Aside0.mk hcl
    have HI := Aside0.mk (show invW m = ([], false) from by
     rw [HG.out, ← HJ.out, show n - i = (n - (i + 1)) + 1 by omega]
     unfold gj
     rw [hpv])
    clear hcl hpv
    go_wp2_with fail
    refine HCL.out.mono ?_
    rintro e w3 ⟨he, hE⟩
    replace he : e = .returned (.bool false) := he
    subst he
    have HBE := Aside0.mk hE.1
    clear hE HCL
    go_wp2
    go_ret2
    rw [HI.out]
    exact ⟨_, rfl, Kd.S_nil _ _ _ _ _, HBE.out⟩
   | some q =>
    rw [hpv] at hcl
    have HCL := Aside0.mk hcl
    have HI := Aside0.mk (show gj (n - (i + 1)) (i + 1) (clr1 M1 i i) (clr2 M1 S1 i i) = gj n 0 m (Mat.idM n) from by
     rw [← HJ.out, show n - i = (n - (i + 1)) + 1 by omega]
     conv => rhs; unfold gj
     rw [hpv])
    clear hcl hpv
    go_wp2_with fail
    refine HCL.out.mono ?_
    rintro e w3 ⟨he, hE⟩
    replace he : e = .returned (.bool true) := he
    subst he
    have HEE := Aside0.mk hE
    clear hE HCL
    go_wp2
    go_roundg (n - (i + 1))
    case measure => omega
    case rel => exact ⟨i + 1, clr1 M1 i i, clr2 M1 S1 i i, by omega, by omega, by go_num, HI, ⟨clr1_MB HB.out.1 _ _ (by rw [HB.out.2.1]; exact hlt), by rw [clr1_length]; exact HB.out.2.1, clr2_MB HB.out.1 HB.out.2.2.1 (by rw [HB.out.2.1, HB.out.2.2.2]) _ _ (by rw [HB.out.2.1]; exact hlt), by rw [clr2_length (by rw [HB.out.2.1, HB.out.2.2.2]), HB.out.2.1]⟩, HEE⟩
  ·have p1 : ((i : Int) < (n : Int)) = False := eq_false (by omega)
   have HI := Aside0.mk (show invW m = (upM S1, true) from by
    rw [HG.out, ← HJ.out, show n - i = 0 by omega]
    rfl)
   obtain ⟨lo_, hi_, hlo_, _, ⟨vs_, hM_⟩, _⟩ := ENV.out.turn 0 rfl
   have HS_ := Aside0.mk (Kd.S_mono (ok' := fun _ => True) (Kd.S_lower (hM_.S (by decide)) hlo_) (fun _ _ => trivial))
   have HBE := Aside0.mk ENV.out.1
   clear hM_
   go_wp2
   go_ret2
   rw [HI.out]
   exact ⟨_, rfl, HS_.out, HBE.out⟩
def spec_InvertMatrix.f (l : List (List Int)) : Option (List (List Int) × Bool) := if l.length ≤ 1048576 ∧ (∀ r ∈ l, r.length ≤ 1048576) then some (invV l) else none
set_option maxHeartbeats 4000000 in
theorem spec_InvertMatrix.calls (A0 : Option Addr) (c0 : Nat) (l0 : List (List Int)) (r1 : List (List Int)) (r2 : Bool) (w : World) (hr0 : Kd.C (Kd.slice 3 (Kd.int .i64)) w A0 l0.length l0) (hc0 : l0.length ≤ c0) (h : spec_InvertMatrix.f l0 = some (r1, r2)) :
  Calls Try.prog 46 #[.slice A0 l0.length c0] w fun e w' => ∃ v0_ : Value, e = .returned (.tuple #[v0_, .bool r2]) ∧ Kd.S (Kd.slice 3 (Kd.int .i64)) 22 w' w.heap.size (fun _ => True) v0_ r1 ∧ Below w.heap.size w w' := by
 have HR := Aside0.mk hr0
 have HC := Aside0.mk hc0
 clear hr0 hc0
 unfold spec_InvertMatrix.f at h
 split at h
 rotate_left
 ·cases h
 rename_i hsz
 have H0 := Option.some.inj h
 clear h
 obtain ⟨K, hk⟩ := (spec_GoodMatrix_ev l0 (by omega) (fun r h => by have := hsz.2 r h; omega)).rounds
 clear hsz
 cases hg : goodM l0 with
 | false =>
  rw [hg] at hk
  have H1 := Aside0.mk hk
  unfold invV at H0
  rw [hg] at H0
  injection H0 with e1 e2
  subst e1 e2
  clear hk hg
  go_enter Try.func46, Try.ntmps46
  go_wp2_with (go_at_call 51; refine (spec_GoodMatrix.calls K A0 c0 l0 false _ HR.out HC.out H1.out).mono ?_; rintro e w' ⟨rfl, ⟨nd1, rfl⟩⟩)
  go_ret2
  exact ⟨_, rfl, Kd.S_nil _ _ _ _ _, by repeat (first | exact Below.refl _ _ | apply pw_below_drewN)⟩
 | true =>
  rw [hg] at hk
  have H1 := Aside0.mk hk
  obtain ⟨c, m, rfl, hm, e1, e2, h1, h2, h3, h4⟩ := goodM_up hg
  have hlen : 0 < (upM m).length := by rw [upM_length]; omega
  obtain ⟨ad, A1, c1, rfl, hx, hl1, hi1⟩ := Mx.rows_at HR.out 0 hlen hlen
  have e0 : (upM m).getD 0 [] = (upM m)[0] := by rw [List.getD_eq_getElem?_getD, List.getElem?_eq_getElem hlen]; rfl
  rw [Addr.add_zero'] at hx
  have e3 : (upM m)[0].length = c := by rw [← e0, e1]
  generalize (upM m)[0] = r0 at hx hl1 hi1 e3
  have p0 := eq_true hlen
  have p1 : (0 < ((upM m).length : Int)) = True := eq_true (by omega)
  by_cases hq : m.length = c
  ·have hv : invV (upM m) = invW m := by
    unfold invV invW
    rw [hg, e1, upM_length, decide_eq_true hq, dnM_upM]
    rfl
   rw [hv] at H0
   have H0' := Aside0.mk H0
   have q1 : (((upM m).length : Int) != (r0.length : Int)) = false := by rw [upM_length, e3, hq]; simp
   have q2 : ((upM m).length != r0.length) = false := by rw [upM_length, e3, hq]; simp
   have HI := Aside0.mk (fun w' (hC : Kd.C (Kd.slice 3 (Kd.int .i64)) w' (some ad) (upM m).length (upM m)) => l2invert_e (some ad) c0 c m w' hm hq h3 h4 hC HC.out)
   clear H0 hv hk hg hm e0 e1 e2 e3 h1 h2 h3 h4 hl1 hi1 hq hlen
   go_enter Try.func46, Try.ntmps46
   go_wp2_with (first | (go_at_call 51; refine (spec_GoodMatrix.calls K (some ad) c0 (upM m) true _ HR.out HC.out H1.out).mono ?_; rintro e w' ⟨rfl, ⟨nd1, rfl⟩⟩) | (go_at_call 64; refine (HI.out _ (Kd.C_drewN HR.out _)).mono ?_; rintro e w' ⟨v2, rfl, hS_, hb_⟩; have HS_ := Aside0.mk hS_; have HB_ := Aside0.mk hb_; clear hS_ hb_))
   go_ret2
   have e9 := H0'.out
   rw [e9] at HS_ 
   rw [e9]
   exact ⟨_, rfl, HS_.out, below_step (pw_below_drewN (Below.refl _ _) _) HB_.out⟩
  ·have hv : invV (upM m) = ([], false) := by
    unfold invV
    rw [hg, e1, upM_length, decide_eq_false hq]
    rfl
   rw [hv] at H0
   injection H0 with e8 e9
   subst e8 e9
   have q1 : (((upM m).length : Int) != (r0.length : Int)) = true := by rw [upM_length, e3, bne_iff_ne]; omega
   have q2 : ((upM m).length != r0.length) = true := by rw [upM_length, e3, bne_iff_ne]; exact hq
   clear hv hk hg hm e0 e1 e2 e3 h1 h2 h3 h4 hl1 hi1 hq hlen
   go_enter Try.func46, Try.ntmps46
   go_wp2_with (go_at_call 51; refine (spec_GoodMatrix.calls K (some ad) c0 (upM m) true _ HR.out HC.out H1.out).mono ?_; rintro e w' ⟨rfl, ⟨nd1, rfl⟩⟩)
   go_ret2
   exact ⟨_, rfl, Kd.S_nil _ _ _ _ _, by repeat (first | exact Below.refl _ _ | apply pw_below_drewN)⟩
theorem spec_InvertMatrix_ev (l : List (List Int)) (h : l.length ≤ 1048576) (hr : ∀ r ∈ l, r.length ≤ 1048576) : spec_InvertMatrix.f l = some (invV l) := if_pos ⟨h, hr⟩

def spec_SolveBy.f (l : List (List Int)) (v : List Int) : Option (List Int × Bool) := if l.length ≤ 1048576 ∧ (∀ r ∈ l, r.length ≤ 1048576) ∧ v.length ≤ 1048576 then some (solveV l v) else none
theorem spec_SolveBy_ev (l : List (List Int)) (v : List Int) (h : l.length ≤ 1048576) (hr : ∀ r ∈ l, r.length ≤ 1048576) (hv : v.length ≤ 1048576) : spec_SolveBy.f l v = some (solveV l v) := if_pos ⟨h, hr, hv⟩
set_option maxHeartbeats 4000000 in
set_option maxRecDepth 100000 in
theorem spec_SolveBy.calls (A0 : Option Addr) (c0 : Nat) (l0 : List (List Int)) (A1 : Option Addr) (c1 : Nat) (l1 : List Int) (r1 : List Int) (r2 : Bool) (w : World) (hr0 : Kd.C (Kd.slice 3 (Kd.int .i64)) w A0 l0.length l0) (hc0 : l0.length ≤ c0) (hr1 : (Kd.int .i64).C w A1 l1.length l1) (hc1 : l1.length ≤ c1) (h : spec_SolveBy.f l0 l1 = some (r1, r2)) :
  Calls Try.prog 20 #[.slice A0 l0.length c0, .slice A1 l1.length c1] w fun e w' => ∃ v0_ : Value, e = .returned (.tuple #[v0_, .bool r2]) ∧ (Kd.int .i64).R 3 w' w.heap.size (fun _ => True) v0_ r1 ∧ Below w.heap.size w w' := by
 have HR := Aside0.mk hr0
 have HC := Aside0.mk hc0
 have HR1 := Aside0.mk hr1
 have HC1 := Aside0.mk hc1
 clear hr0 hc0 hr1 hc1
 unfold spec_SolveBy.f at h
 split at h
 rotate_left
 ·cases h
 rename_i hsz
 have H0 := Option.some.inj h
 clear h
 have hinv := spec_InvertMatrix.calls A0 c0 l0 (invV l0).1 (invV l0).2 w HR.out HC.out (spec_InvertMatrix_ev l0 hsz.1 hsz.2.1)
 obtain ⟨K6, h6⟩ := (spec_l1All_ev l1 (by have := hsz.2.2; omega)).rounds
 rw [solveV_inv] at H0
 cases g1 : (invV l0).2 with
 | false =>
  rw [g1] at H0 hinv
  injection H0 with e1 e2
  subst e1 e2
  have HI := Aside0.mk hinv
  clear hinv h6 g1 hsz
  go_enter Try.func20, Try.ntmps20
  go_wp2_with fail
  refine HI.out.mono ?_
  rintro e w1 ⟨v1, rfl, hS_, hb_⟩
  have HB := Aside0.mk hb_
  clear hS_ hb_ HI
  go_wp2
  go_ret2
  exact ⟨_, rfl, Kd.R_nil _ _ _ _ _, HB.out⟩
 | true =>
  obtain ⟨c, m, s, rfl, hm, hmc, hc1', hc8, hi, hiv, hs, hsc⟩ := invV_true g1
  rw [g1] at H0
  rw [hiv] at H0 hinv
  have HI := Aside0.mk hinv
  have HMS := Aside0.mk (show m.length = c ∧ 1 ≤ c ∧ c ≤ 8 ∧ Mat.MB' c s ∧ s.length = c from ⟨hmc, hc1', hc8, hs, hsc⟩)
  clear hinv hsz g1 hm hmc hc1' hc8 hi hiv hs hsc
  by_cases g2 : l1.length = (upM m).length
  rotate_left
  ·rw [decide_eq_false g2] at H0
   injection H0 with e1 e2
   subst e1 e2
   have q1 : ((l1.length : Int) != ((upM m).length : Int)) = true := by rw [bne_iff_ne]; omega
   have q2 : (l1.length != (upM m).length) = true := by rw [bne_iff_ne]; exact g2
   clear h6 g2
   go_enter Try.func20, Try.ntmps20
   go_wp2_with fail
   refine HI.out.mono ?_
   rintro e w1 ⟨v1, rfl, hS_, hb_⟩
   have HB := Aside0.mk hb_
   clear hS_ hb_ HI
   go_wp2
   go_ret2
   exact ⟨_, rfl, Kd.R_nil _ _ _ _ _, HB.out⟩
  rw [decide_eq_true g2] at H0
  have q1 : ((l1.length : Int) != ((upM m).length : Int)) = false := by rw [g2]; simp
  have q2 : (l1.length != (upM m).length) = false := by rw [g2]; simp
  cases g3 : l1.all isB with
  | false =>
   rw [g3] at H0 h6
   injection H0 with e1 e2
   subst e1 e2
   have H6 := Aside0.mk h6
   clear h6 g2 g3
   go_enter Try.func20, Try.ntmps20
   go_wp2_with fail
   refine HI.out.mono ?_
   rintro e w1 ⟨v1, rfl, hS_, hb_⟩
   have HB := Aside0.mk hb_
   clear hS_ hb_ HI
   go_wp2_with (go_at_call 47; refine (spec_l1All.calls K6 A1 c1 l1 false _ (Kd.C_below HR1.out HB.out) HC1.out H6.out).mono ?_; rintro e w' ⟨rfl, ⟨nd3, rfl⟩⟩)
   go_ret2
   exact ⟨_, rfl, Kd.R_nil _ _ _ _ _, pw_below_drewN HB.out _⟩
  | true =>
   rw [g3] at H0 h6
   have H6 := Aside0.mk h6
   obtain ⟨y, rfl, hy⟩ := allB_up g3
   rw [dn_up, dnM_upM] at H0
   injection H0 with e1 e2
   subst e1 e2
   have hyl : y.length = c := by rw [Poly.up_length, upM_length] at g2; have := HMS.out.1; omega
   obtain ⟨K7, h7⟩ := (spec_l2Column_ev c s y HMS.out.2.2.2.1 hy hyl (by have := HMS.out; omega) (by have := HMS.out; omega)).rounds
   have H7 := Aside0.mk h7
   clear h6 g2 g3 h7 hy hyl
   go_enter Try.func20, Try.ntmps20
   go_wp2_with fail
   refine HI.out.mono ?_
   rintro e w1 ⟨v1, rfl, hS_, hb_⟩
   obtain ⟨B1, d1, rfl, hE_⟩ := (Env.Env.start (e := 22) (t := 3) w).madeS (by decide) hS_ hb_
   have HB := Aside0.mk hb_
   have HE := Aside0.mk hE_
   clear hS_ hb_ hE_ HI
   go_wp2_with (go_at_call 47; refine (spec_l1All.calls K6 A1 c1 (Poly.up y) true _ (Kd.C_below HR1.out HB.out) HC1.out H6.out).mono ?_; rintro e w' ⟨rfl, ⟨nd3, rfl⟩⟩)
   refine (spec_l2Column.calls K7 B1 d1 (upM s) A1 c1 (Poly.up y) (Poly.up (Mat.colM s y)) _ ((HE.out.drewN nd3).C (by decide) 0 rfl) (HE.out.cap (by decide) 0 rfl) ((HE.out.drewN nd3).camer HR1.out) HC1.out H7.out).mono ?_
   rintro e w4 ⟨v4, rfl, hR_, hb_⟩
   have HR4 := Aside0.mk (Kd.R_lower hR_ (HE.out.drewN nd3).1.size)
   have HB4 := Aside0.mk (below_step (HE.out.drewN nd3).1 hb_)
   clear hR_ hb_
   go_wp2
   go_ret2
   exact ⟨_, rfl, HR4.out, HB4.out⟩

set_option maxHeartbeats 4000000 in
theorem scan_rowsOf_idx (p : Int → Bool) (k0 : Value) (A : Option Addr) (c : Nat) (l : List Int) (w : World) (hr : (Kd.int .i64).C w A l.length l) (hc : l.length ≤ c) (hone : ∀ (q : Nat) (x : Int), Calls Try.prog 50 #[.int .i64 x, k0] (w.drewN q) fun e w' => e = .returned (.bool (p x)) ∧ ∃ q', w' = (w.drewN q).drewN q') :
  Calls Try.prog 66 #[.slice A l.length c, .func (.func 50) #[] #[k0]] w fun e w' => e = .returned (.int .i64 (fidx p l 0)) ∧ Drawn0 w w' := by
 have hn : l.length ≤ 9223372036854775807 := hr.2.1
 have HR := Aside0.mk hr
 have HC := Aside0.mk hc
 have HO := Aside0.mk hone
 clear hr hc hone
 have eg : ∀ args w, (callFunc 50 args).run Try.prog w = .ok (.enter 50 args) w := enters_of Try.func50 (by kernel_rfl) rfl
 go_enter Try.func66, Try.ntmps66
 go_wp2
 go_loopg [5, 8] l.length (fun gg _ s8 wr => ∃ kk q : Nat, kk ≤ l.length ∧ l.length - kk ≤ gg ∧ s8 = .int .i64 kk ∧ wr = w.drewN q ∧ Aside0 (fidx p (l.drop kk) kk = fidx p l 0))
 case atStart => exact ⟨0, 0, Nat.zero_le _, by omega, rfl, rfl, ⟨rfl⟩⟩
 case round =>
  obtain ⟨kk, q, hkk, hg, rfl, rfl, E⟩ := hrel
  by_cases hlt : kk < l.length
  ·have hltz : (kk : Int) < (l.length : Int) := by omega
   obtain ⟨ad, ea, hx⟩ := Kd.at_int HR.out (kk : Int) (by omega) hltz
   cases ea
   have ER : rd l (kk : Int) = l[kk] := by unfold rd; simp [List.getD_eq_getElem?_getD, List.getElem?_eq_getElem hlt]
   rw [ER, Int.toNat_natCast] at hx
   have E2 := Aside0.mk (List.drop_eq_getElem_cons hlt)
   have ED := E.out
   rw [E2.out, fidx_cons] at ED
   clear ER
   have hcall := HO.out q l[kk]
   generalize l[kk] = y at hx hcall ED
   cases hq : p y with
   | true =>
    rw [if_pos hq] at ED
    have ED' := Aside0.mk ED
    clear ED
    rw [hq] at hcall
    go_wp2_with (go_at_fn 50; refine hcall.mono ?_; rintro e w' ⟨rfl, q', rfl⟩)
    go_ret
    exact ⟨congrArg (fun z => Ending.returned (Value.int .i64 z)) ED'.out, ⟨_, rfl⟩⟩
   | false =>
    rw [if_neg (by rw [hq]; decide)] at ED
    have ED' := Aside0.mk ED
    clear ED
    rw [hq] at hcall
    go_wp2_with (go_at_fn 50; refine hcall.mono ?_; rintro e w' ⟨rfl, q', rfl⟩)
    go_roundg (l.length - (kk + 1))
    case measure => omega
    case rel => exact ⟨kk + 1, _, by omega, by omega, by go_num, rfl, ⟨by rw [← ED'.out]; congr 1⟩⟩
  ·have : kk = l.length := by omega
   subst this
   go_wp2
   go_ret
   refine ⟨?_, ⟨q, rfl⟩⟩
   have := E.out
   rw [List.drop_length] at this
   rw [← this]
   rfl
set_option maxHeartbeats 2000000 in
theorem scan_rowsOf_has (p : Int → Bool) (k0 : Value) (A : Option Addr) (c : Nat) (l : List Int) (w : World) (hr : (Kd.int .i64).C w A l.length l) (hc : l.length ≤ c) (hone : ∀ (q : Nat) (x : Int), Calls Try.prog 50 #[.int .i64 x, k0] (w.drewN q) fun e w' => e = .returned (.bool (p x)) ∧ ∃ q', w' = (w.drewN q).drewN q') :
  Calls Try.prog 49 #[.slice A l.length c, .func (.func 50) #[] #[k0]] w fun e w' => e = .returned (.bool (l.any p)) ∧ Drawn0 w w' := by
 have hcon := scan_rowsOf_idx p k0 A c l w hr hc hone
 have E := Aside0.mk (fidx_any p l 0 (Int.le_refl _))
 generalize fidx p l 0 = r at hcon E
 clear hr hc hone
 go_enter Try.func49, Try.ntmps49
 go_wp2_with (go_at_call 66; refine hcon.mono ?_; rintro e w' ⟨rfl, ⟨nd, rfl⟩⟩)
 go_ret
 exact ⟨congrArg (fun z => Ending.returned (Value.bool z)) E.out, ⟨_, rfl⟩⟩

def impl_RowsOf.f (m : List (List Int)) (rows : List Int) : Option (List (List Int) × Bool) := some (rowsV m rows)
theorem impl_RowsOf_eq (m : List (List Int)) (rows : List Int) : impl_RowsOf.f m rows = some (rowsV m rows) := rfl
set_option maxHeartbeats 4000000 in
theorem impl_RowsOf_one (g : Nat) (A0 : Option Addr) (c0 : Nat) (m : List (List Int)) (x : Int) (w : World) (hg : w.cell? ⟨g, 0, none⟩ = some (.slice A0 m.length c0)) (hm : m.length ≤ 1048576) :
  Calls Try.prog 50 #[.int .i64 x, .pointer (some ⟨g, 0, none⟩)] w fun e w' => e = .returned (.bool (!decide (0 ≤ x ∧ x < (m.length : Int)))) ∧ ∃ q', w' = w.drewN q' := by
 have e : impl_within.f x 0 ((m.length : Int) - 1) = some (decide (0 ≤ x ∧ x < (m.length : Int))) := by
  rw [impl_within_eq]
  exact congrArg some (decide_eq_decide.2 (by omega))
 have H := Aside0.mk e
 clear e
 generalize decide (0 ≤ x ∧ x < (m.length : Int)) = b at H ⊢
 have h0 : (0 : Int) ≤ (m.length : Int) := by omega
 have h1 : (m.length : Int) ≤ 1048576 := by omega
 clear hm
 go_enter Try.func50, Try.ntmps50
 go_wp2_with (go_at_call 29; refine (impl_within.calls x 0 ((m.length : Int) - 1) b _ H.out).mono ?_; rintro e w' ⟨rfl, ⟨nd, rfl⟩⟩)
 go_ret
 exact ⟨rfl, _, rfl⟩
set_option maxHeartbeats 8000000 in
set_option maxRecDepth 100000 in
theorem impl_RowsOf.calls (A0 : Option Addr) (c0 : Nat) (l0 : List (List Int)) (A1 : Option Addr) (c1 : Nat) (l1 : List Int) (r1 : List (List Int)) (r2 : Bool) (w : World) (hr0 : Kd.C (Kd.slice 3 (Kd.int .i64)) w A0 l0.length l0) (hc0 : l0.length ≤ c0) (hr1 : Kd.C (Kd.int .i64) w A1 l1.length l1) (hc1 : l1.length ≤ c1) (h : impl_RowsOf.f l0 l1 = some (r1, r2)) :
  Calls Try.prog 23 #[.slice A0 l0.length c0, .slice A1 l1.length c1] w fun e w' => ∃ v0_ : Value, e = .returned (.tuple #[v0_, .bool r2]) ∧ Kd.S (Kd.slice 3 (Kd.int .i64)) 22 w' w.heap.size (fun _ => True) v0_ r1 ∧ Below w.heap.size w w' := by
 have HR0 := Aside0.mk hr0
 have HC0 := Aside0.mk hc0
 have HR1 := Aside0.mk hr1
 have HC1 := Aside0.mk hc1
 have HB := Aside0.mk (Below.refl w.heap.size w)
 clear hr0 hc0 hr1 hc1
 unfold impl_RowsOf.f rowsV at h
 have H := Option.some.inj h
 clear h
 have hone := fun (g : Nat) (w : World) (hm : l0.length ≤ 1048576) (hg : w.cell? ⟨g, 0, none⟩ = some (.slice A0 l0.length c0)) => scan_rowsOf_has (fun i => !decide (0 ≤ i ∧ i < (l0.length : Int))) (.pointer (some ⟨g, 0, none⟩)) A1 c1 l1 w
 have ewi : impl_within.f (l1.length : Int) 1 8 = some (decide (1 ≤ l1.length ∧ l1.length ≤ 8)) := by
  rw [impl_within_eq]
  exact congrArg some (decide_eq_decide.2 (by omega))
 have HW := Aside0.mk ewi
 clear ewi
 cases g1 : goodM l0 with
 | false =>
  rw [g1] at H
  injection H with H1 H2
  subst H1 H2
  have hg0 := impl_GoodMatrix_eq l0
  rw [g1] at hg0
  have HG := Aside0.mk hg0
  clear hone hg0 g1
  go_enter Try.func23, Try.ntmps23
  go_wp2_with (first | ((with_reducible refine gate_dst (N := 2) rfl ?_); refine box_event ?hg (N := 2) ?hd (cs := #[.slice A0 l0.length c0]) (t := 23) ?hr ?_; (case hd => rfl); (case hg => rfl); (case hr => first | (go_simp; done) | (go_simp; rfl)); intro g1 hg w1 hbox hb; have HB1 := Aside0.mk (below_step HB.out hb); have y0 : w1.cell? ⟨g1, 0, none⟩ = some (.slice A0 l0.length c0) := (blk_cell hbox 0).trans rfl; clear hb hbox hg) | (go_at_call 40; refine (impl_GoodMatrix.calls A0 c0 l0 false _ (Kd.C_below HR0.out HB1.out) HC0.out HG.out).mono ?_; rintro e w' ⟨rfl, hb⟩; have HB2 := Aside0.mk (below_step HB1.out hb); clear hb))
  go_ret2
  exact ⟨_, rfl, Kd.S_nil _ _ _ _ _, HB2.out⟩
 | true =>
  rw [g1, Bool.true_and] at H
  have hg0 := impl_GoodMatrix_eq l0
  rw [g1] at hg0
  have HG := Aside0.mk hg0
  have hl0 := (goodM_rows g1).1
  have HRR := Aside0.mk (goodM_rows g1).2
  clear hg0 g1
  cases g2 : decide (1 ≤ l1.length ∧ l1.length ≤ 8) with
  | false =>
   rw [g2] at H HW
   injection H with H1 H2
   subst H1 H2
   clear hone g2
   go_enter Try.func23, Try.ntmps23
   go_wp2_with (first | ((with_reducible refine gate_dst (N := 2) rfl ?_); refine box_event ?hg (N := 2) ?hd (cs := #[.slice A0 l0.length c0]) (t := 23) ?hr ?_; (case hd => rfl); (case hg => rfl); (case hr => first | (go_simp; done) | (go_simp; rfl)); intro g1 hg w1 hbox hb; have HB1 := Aside0.mk (below_step HB.out hb); have y0 : w1.cell? ⟨g1, 0, none⟩ = some (.slice A0 l0.length c0) := (blk_cell hbox 0).trans rfl; clear hb hbox hg) | (go_at_call 40; refine (impl_GoodMatrix.calls A0 c0 l0 true _ (Kd.C_below HR0.out HB1.out) HC0.out HG.out).mono ?_; rintro e w' ⟨rfl, hb⟩; have HB2 := Aside0.mk (below_step HB1.out hb); clear hb) | (go_at_call 29; refine (impl_within.calls (l1.length : Int) 1 8 false _ HW.out).mono ?_; rintro e w' ⟨rfl, ⟨nd, rfl⟩⟩))
   go_ret2
   exact ⟨_, rfl, Kd.S_nil _ _ _ _ _, pw_below_drewN HB2.out _⟩
  | true =>
   rw [g2, Bool.true_and] at H
   rw [g2] at HW
   have hl1 : l1.length ≤ 8 := (of_decide_eq_true g2).2
   clear g2
   unfold rowsIn at H
   cases g3 : l1.any (fun i => !decide (0 ≤ i ∧ i < (l0.length : Int))) with
   | true =>
    rw [g3] at H
    injection H with H1 H2
    subst H1 H2
    have hone' := fun (g : Nat) (w : World) (hg : w.cell? ⟨g, 0, none⟩ = some (.slice A0 l0.length c0)) (hC : (Kd.int .i64).C w A1 l1.length l1) => hone g w (by omega) hg hC HC1.out (fun q x => impl_RowsOf_one g A0 c0 l0 x (w.drewN q) hg (by omega))
    rw [g3] at hone'
    have HO := Aside0.mk hone'
    clear hone hone' g3
    go_enter Try.func23, Try.ntmps23
    go_wp2_with (first | ((with_reducible refine gate_dst (N := 2) rfl ?_); refine box_event ?hg (N := 2) ?hd (cs := #[.slice A0 l0.length c0]) (t := 23) ?hr ?_; (case hd => rfl); (case hg => rfl); (case hr => first | (go_simp; done) | (go_simp; rfl)); intro g1 hg w1 hbox hb; have HB1 := Aside0.mk (below_step HB.out hb); have y0 : w1.cell? ⟨g1, 0, none⟩ = some (.slice A0 l0.length c0) := (blk_cell hbox 0).trans rfl; have HY1 := Aside0.mk y0; clear hb hbox hg) | (go_at_call 40; refine (impl_GoodMatrix.calls A0 c0 l0 true _ (Kd.C_below HR0.out HB1.out) HC0.out HG.out).mono ?_; rintro e w' ⟨rfl, hb⟩; have HB2 := Aside0.mk (below_step HB1.out hb); have HY2 := Aside0.mk (pw_cell_below hb HY1.out); clear hb) | (go_at_call 29; refine (impl_within.calls (l1.length : Int) 1 8 true _ HW.out).mono ?_; rintro e w' ⟨rfl, ⟨nd, rfl⟩⟩) | (go_at_call 49; refine (HO.out g1 _ ?s1 ?s2).mono ?_; (case s1 => exact HY2.out); (case s2 => exact Kd.C_drewN (Kd.C_below HR1.out HB2.out) _); rintro e w' ⟨rfl, ⟨nd2, rfl⟩⟩))
    go_ret2
    exact ⟨_, rfl, Kd.S_nil _ _ _ _ _, by repeat (first | exact HB2.out | apply pw_below_drewN)⟩
   | false =>
    rw [g3] at H
    injection H with H1 H2
    subst H1 H2
    have hin : rowsIn l0 l1 = true := by unfold rowsIn; rw [g3]; rfl
    have HI := Aside0.mk (rowsIn_at hin)
    have hone' := fun (g : Nat) (w : World) (hg : w.cell? ⟨g, 0, none⟩ = some (.slice A0 l0.length c0)) (hC : (Kd.int .i64).C w A1 l1.length l1) => hone g w (by omega) hg hC HC1.out (fun q x => impl_RowsOf_one g A0 c0 l0 x (w.drewN q) hg (by omega))
    rw [g3] at hone'
    have HO := Aside0.mk hone'
    clear hone hone' g3 hin
    go_enter Try.func23, Try.ntmps23
    go_wp2_with (first | ((with_reducible refine gate_dst (N := 2) rfl ?_); refine box_event ?hg (N := 2) ?hd (cs := #[.slice A0 l0.length c0]) (t := 23) ?hr ?_; (case hd => rfl); (case hg => rfl); (case hr => first | (go_simp; done) | (go_simp; rfl)); intro g1 hg w1 hbox hb; have HB1 := Aside0.mk (below_step HB.out hb); have y0 : w1.cell? ⟨g1, 0, none⟩ = some (.slice A0 l0.length c0) := (blk_cell hbox 0).trans rfl; have HY1 := Aside0.mk hbox; clear hb hbox hg) | (go_at_call 40; refine (impl_GoodMatrix.calls A0 c0 l0 true _ (Kd.C_below HR0.out HB1.out) HC0.out HG.out).mono ?_; rintro e w' ⟨rfl, hb⟩; have HB2 := Aside0.mk (below_step HB1.out hb); have HY2 := Aside0.mk (blk_below HY1.out hb); clear hb) | (go_at_call 29; refine (impl_within.calls (l1.length : Int) 1 8 true _ HW.out).mono ?_; rintro e w' ⟨rfl, ⟨nd, rfl⟩⟩) | (go_at_call 49; refine (HO.out g1 _ ?s1 ?s2).mono ?_; (case s1 => exact (blk_cell HY2.out 0).trans rfl); (case s2 => exact Kd.C_drewN (Kd.C_below HR1.out HB2.out) _); rintro e w' ⟨rfl, ⟨nd2, rfl⟩⟩) | ((with_reducible refine gate_dst (N := 23) rfl ?_); refine Kd.R_lit (Kd.slice 3 (Kd.int .i64)) _ 22 ?hg (N := 23) ?hd (xs := ([] : List (List Int))) (inner := []) (ok := fun _ => True) (okp := fun _ => True) ?hr ?hp (fun _ hk => hk) trivial (Below.refl _ _) (Nat.le_refl _) (by simp) ?_; (case hd => rfl); (case hg => rfl); (case hr => first | (go_simp; done) | (go_simp; rfl)); (case hp => exact (Reps.none _ _)); intro v23 w23 ho23 hb23 _ _; have HBL0 := Aside0.mk (below_step (pw_below_drewN HB2.out _) hb23); have HYL0 := Aside0.mk (blk_below (blk_drewN HY2.out _) hb23); have HSL0 := Aside0.mk (Kd.S_lower (S_empty ho23) HB2.out.size); clear ho23 hb23))
    go_loopg [6, 26] l1.length (fun gg v6 v26 wr => ∃ i : Nat, i ≤ l1.length ∧ l1.length - i ≤ gg ∧ v26 = .int .i64 i ∧ Aside0 ((Kd.slice 3 (Kd.int .i64)).S 22 wr w.heap.size (fun _ => True) v6 (rowsL l0 (l1.take i))) ∧ Aside0 (Below w.heap.size w wr) ∧ Aside0 (wr.heap[g1]? = some (.cells #[.slice A0 l0.length c0] 23 (0, 0))))
    case atStart => exact ⟨0, Nat.zero_le _, by omega, rfl, HSL0, HBL0, HYL0⟩
    case round =>
     clear HBL0 HYL0 HSL0 HB2 HY2 HB1 HY1 y0
     obtain ⟨i, hi', hg, rfl, HS, HB, HY⟩ := hrel
     by_cases hlt : i < l1.length
     ·have hltz : (i : Int) < (l1.length : Int) := by omega
      obtain ⟨ad, ea, hx⟩ := Kd.at_int HR1.out (i : Int) (by omega) hltz
      cases ea
      have hx1 := HI.out _ (List.getElem_mem hlt)
      rw [rd_get l1 i hlt, Int.toNat_natCast] at hx
      have eR := Aside0.mk (show rowsL l0 (l1.take (i + 1)) = rowsL l0 (l1.take i) ++ [l0.getD l1[i].toNat []] by unfold rowsL; rw [List.take_succ_eq_append_getElem hlt, List.map_append]; rfl)
      generalize l1[i] = y at hx hx1 eR
      obtain ⟨n, rfl⟩ := nat_of hx1.1
      have hn : n < l0.length := by omega
      obtain ⟨ad0, A2, c2, rfl, hx2, hl2, hr2⟩ := Mx.rows_at HR0.out n hn hn
      have hrr := HRR.out _ (List.getElem_mem hn)
      have eR2 := Aside0.mk (show l0.getD (n : Int).toNat [] = l0[n] by rw [Int.toNat_natCast, List.getD_eq_getElem?_getD, List.getElem?_eq_getElem hn]; rfl)
      have hxa := pw_cell_below HB.out hx
      have hxb := pw_cell_below HB.out hx2
      have hy : wr.cell? ⟨g1, 0, none⟩ = some (.slice (some ad0) l0.length c0) := (blk_cell HY.out 0).trans rfl
      have hcl := slices_Clone_int_int.calls A2 c2 l0[n] l0[n] wr (Kd.C_below hr2 HB.out) hl2 (by unfold slices_Clone_int_int.f; rw [if_pos (by omega)])
      generalize l0[n] = row at hxb hl2 hcl eR2
      have p1 : (0 ≤ (n : Int)) = True := eq_true (by omega)
      have p2 : ((n : Int) < (l0.length : Int)) = True := eq_true (by omega)
      have p3 : (n < l0.length) = True := eq_true hn
      have HSL := Aside0.mk (show (rowsL l0 (l1.take i)).length ≤ 1000000 by rw [rowsL_length, List.length_take]; omega)
      clear hx hx2 hx1 hr2 hrr hn hltz
      go_wp2_with (first
       | (go_at_call 30; refine hcl.mono ?_; rintro e w1 ⟨v1, rfl, hR1, hb1⟩; obtain ⟨A9, c9, rfl⟩ := Kd.R_slice hR1; have HB1 := Aside0.mk hb1; have HR3 := Aside0.mk hR1; clear hb1 hR1)
       | ((with_reducible refine gate_builtin (b := .append) (xs := #[.tmp 30, .tmp 36]) rfl ?_); at_builtin; refine app_event (w0 := w) w.heap.size rfl (.tmp 30) (.tmp 36) rfl _ (rowsL l0 (l1.take i)) A9 c9 row rfl rfl HS.out HB1.out HR3.out ?aB ?aS HSL.out ?_; (case aB => exact below_step HB.out HB1.out); (case aS => exact HB.out.size); intro A10 c10 w2 hS2 hB2 HK2; rw [← eR2.out, ← eR.out] at hS2; have HS2 := Aside0.mk hS2; have HB2 := Aside0.mk hB2; clear hS2 hB2))
      go_roundg (l1.length - (i + 1))
      case measure => omega
      case rel => exact ⟨i + 1, by omega, by omega, by go_num, HS2, HB2, ⟨HK2.out _ _ _ (by decide) HY.out⟩⟩
     ·obtain rfl : i = l1.length := by omega
      have hS := HS.out
      rw [List.take_length] at hS
      have HS' := Aside0.mk hS
      clear hS
      go_wp2
      go_ret2
      exact ⟨_, rfl, HS'.out, HB.out⟩

theorem S_reads {v : Value} {m : List (List Int)} {w : World} {b : Nat} {ok : Nat → Prop} (h : Kd.S (Kd.slice 3 (Kd.int .i64)) 22 w b ok v m) : ∃ A c, v = .slice A m.length c ∧ m.length ≤ c ∧ Kd.C (Kd.slice 3 (Kd.int .i64)) w A m.length m := Kd.R_reads (Kd.S_R h)
set_option maxHeartbeats 8000000 in
set_option maxRecDepth 100000 in
theorem laws_FnCauchy_calls (A0 : Option Addr) (c0 : Nat) (l0 : List Int) (A1 : Option Addr) (c1 : Nat) (l1 : List Int) (w : World) (hr0 : (Kd.int .u8).C w A0 l0.length l0) (hc0 : l0.length ≤ c0) (y0 : l0.length * 1 ≤ 140737488351232) (hw0 : ∀ x ∈ l0, (Lit.int .u8 x).wf = true)
  (hr1 : (Kd.int .u8).C w A1 l1.length l1) (hc1 : l1.length ≤ c1) (y1 : l1.length * 1 ≤ 140737488351232) (hw1 : ∀ x ∈ l1, (Lit.int .u8 x).wf = true) :
  Calls Try.prog 4 #[.slice A0 l0.length c0, .slice A1 l1.length c1] w fun e w' => e = .returned (.bool true) ∧ Below w.heap.size w w' := by
 have HB := Aside0.mk (Below.refl w.heap.size w)
 have HR0 := Aside0.mk hr0
 have HR1 := Aside0.mk hr1
 have HC1 := Aside0.mk hc1
 by_cases hlen : l0.length + l1.length ≤ 1048576
 rotate_left
 ·clear hr0 hr1 hc0 hc1
  go_enter Try.func4, Try.ntmps4
  go_wp2
  go_ret
  exact ⟨rfl, HB.out⟩
 obtain ⟨nn, hnE, hn3⟩ := laws_numberOf_ex (wf_BY hw1) (by omega)
 obtain ⟨KN, hN⟩ := hnE.rounds
 have HNN := Aside0.mk (fun w (h : (Kd.int .u8).C w A1 l1.length l1) => laws_numberOf.calls KN A1 c1 l1 (nn : Int) w h HC1.out hN)
 have cD1 := fun w (h : (Kd.int .u8).C w A0 l0.length l0) => drawCauchy_e A0 c0 l0 w (wf_BY hw0) h
 have cD2 := fun w (h : (Kd.int .u8).C w A1 l1.length l1) => drawSolve_e A1 c1 l1 w (wf_BY hw1) h
 have cD3 := fun w (h : (Kd.int .u8).C w A1 l1.length l1) => drawRows_e A1 c1 l1 w (wf_BY hw1) h
 have HNB := Aside0.mk hn3
 clear hnE hN hn3 hw0 hw1 hr0 hr1 hc0 hc1
 go_enter Try.func4, Try.ntmps4
 go_wp2_with fail
 refine (cD1 _ HR0.out).mono ?_
 rintro e w1 ⟨A2, n2, x, A3, n3, y, rfl, hx1, hy1, hn2, hC2, hn3, hC3, hb⟩
 replace HB := Aside0.mk hb
 replace HR1 := Aside0.mk (Kd.C_below HR1.out hb)
 have HP := Aside0.mk hC2
 have HN2 := Aside0.mk hn2
 have HD := Aside0.mk hC3
 have HN3 := Aside0.mk hn3
 obtain ⟨K1, hE1⟩ := (spec_CauchyMatrix_ev x y (by omega) (by omega)).rounds
 have hE2 := impl_CauchyMatrix_eq x y (by omega) (by omega)
 have hsm := cauV_small x y
 have hok : (cauV x y).2 = true → cauOk x y = true ∧ (cauV x y).1.length = x.length ∧ ∀ i k : Nat, i < x.length → k < y.length → ∃ a b z : Nat, x.getD i 0 = (a : Int) ∧ y.getD k 0 = (b : Int) ∧ a < 256 ∧ b < 256 ∧ ((cauV x y).1.getD i []).getD k 0 = (z : Int) ∧ ((cauV x y).1.getD i []).length = y.length ∧ mulGf (z : Int) ((a ^^^ b : Nat) : Int) = (1, true) := fun h => by
  have h2 : cauOk x y = true := by
   unfold cauV at h
   split at h
   ·assumption
   ·cases h
  refine ⟨h2, ?_, fun i k hi hk => cau_one h2 hi hk⟩
  unfold cauV
  rw [h2, if_pos rfl, upM_length, cauchyM_length, List.length_map]
 have HXY := Aside0.mk (And.intro hx1 hy1)
 generalize cauV x y = g1 at hE1 hE2 hok hsm
 obtain ⟨m, ok⟩ := g1
 have H1 := Aside0.mk hE1
 have H2 := Aside0.mk hE2
 have HOK := Aside0.mk hok
 have HMS := Aside0.mk (show m.length ≤ 1000000 ∧ ∀ r ∈ m, r.length ≤ 1000000 from ⟨by have := hsm.1; simp only at this; omega, fun r hr => by have := hsm.2 r hr; omega⟩)
 have x1 : (ok != ok) = false := by simp
 clear hb hC2 hn2 hC3 hn3 hE1 hE2 hok hsm hx1 hy1 HR0 cD1
 go_wp2_with fail
 refine (impl_CauchyMatrix.calls A2 n2 x A3 n3 y m ok _ HP.out HN2.out HD.out HN3.out H2.out).mono ?_
 rintro e w2 ⟨va, rfl, hva, hb⟩
 obtain ⟨A4, n4, rfl, hn4, hC4⟩ := S_reads hva
 have HM := Aside0.mk hC4
 have HN4 := Aside0.mk hn4
 clear hva hC4 hn4
 replace HB := Aside0.mk (HB.out.trans (hb.mono HB.out.size))
 replace HR1 := Aside0.mk (Kd.C_below HR1.out hb)
 replace HP := Aside0.mk (Kd.C_below HP.out hb)
 replace HD := Aside0.mk (Kd.C_below HD.out hb)
 clear hb
 go_wp2_with fail
 refine (spec_CauchyMatrix.calls K1 A2 n2 x A3 n3 y m ok _ HP.out HN2.out HD.out HN3.out H1.out).mono ?_
 rintro e w3 ⟨va, rfl, hva, hb⟩
 obtain ⟨A5, n5, rfl, hn5, hC5⟩ := S_reads hva
 have HE := Aside0.mk hC5
 have HN5 := Aside0.mk hn5
 clear hva hC5 hn5
 replace HB := Aside0.mk (HB.out.trans (hb.mono HB.out.size))
 replace HR1 := Aside0.mk (Kd.C_below HR1.out hb)
 replace HP := Aside0.mk (Kd.C_below HP.out hb)
 replace HD := Aside0.mk (Kd.C_below HD.out hb)
 replace HM := Aside0.mk (Kd.C_below HM.out hb)
 clear hb
 go_wp2_with fail
 refine (sameL_c m HMS.out.1 HMS.out.2 HN4.out HN5.out _ HM.out HE.out).mono ?_
 rintro e w4 ⟨rfl, hb⟩
 replace HB := Aside0.mk (HB.out.trans (hb.mono HB.out.size))
 replace HR1 := Aside0.mk (Kd.C_below HR1.out hb)
 replace HP := Aside0.mk (Kd.C_below HP.out hb)
 replace HD := Aside0.mk (Kd.C_below HD.out hb)
 replace HM := Aside0.mk (Kd.C_below HM.out hb)
 replace HE := Aside0.mk (Kd.C_below HE.out hb)
 clear hb
 clear HE HN5 H1 H2 x1
 go_upto_if 70 with (fail)
 go_cut [] (fun wc => Aside0 (Below w.heap.size w wc) ∧ Aside0 ((Kd.int .u8).C wc A1 l1.length l1))
 case first =>
  as_aux_lemma =>
   clear cD2 cD3
   cases ok with
   | false =>
    clear HOK
    go_wp2
    go_meet
    exact ⟨HB, HR1⟩
   | true =>
    obtain ⟨hok1, hml, hone⟩ := HOK.out rfl
    replace hml : m.length = x.length := hml
    have HC := Aside0.mk hok1
    have HML := Aside0.mk hml
    have HONE := Aside0.mk hone
    clear hok1 hml hone HOK HMS
    -- the columns' number
    obtain ⟨Y, hY⟩ : ∃ Y, Y = y.length := ⟨_, rfl⟩
    have hYp : 0 < y.length := by have := HXY.out; omega
    obtain ⟨u, hu⟩ : ∃ u, u = nn % y.length := ⟨_, rfl⟩
    obtain ⟨n, hn⟩ : ∃ n, n = u + 1 := ⟨_, rfl⟩
    have hul : u < y.length := by rw [hu]; exact Nat.mod_lt _ hYp
    have HU := Aside0.mk (show 1 ≤ n ∧ n ≤ y.length ∧ n = u + 1 from ⟨by omega, by omega, hn⟩)
    have HR8 := Aside0.mk (show Int.tmod (nn : Int) (y.length : Int) = (u : Int) ∧ (nn : Int) % (y.length : Int) = (u : Int) ∧ wrap64 (1 + (u : Int)) = (n : Int) ∧ wrap64 (u : Int) = (u : Int) from by
     refine ⟨by rw [hu]; rfl, by rw [hu]; rfl, ?_, wrap_id (by omega) (by have := HXY.out; omega)⟩
     rw [wrap_id (by omega) (by have := HXY.out; omega)]; omega)
    clear hu hn hul hY
    have q1 := HR8.out.1
    have q2 := HR8.out.2.1
    have q3 := HR8.out.2.2.1
    have q4 := HR8.out.2.2.2
    have q5 := (i64_w _).trans q3
    have q6 := (i64_w _).trans q4
    have z0 : ¬ ((y.length : Int) = 0) := by clear q1 q2 q3 q4 q5 q6; omega
    have z1 : ¬ (y.length = 0) := by clear q1 q2 q3 q4 q5 q6; omega
    have z2 : ((y.length : Int) = 0) = False := eq_false z0
    have z3 : (y.length = 0) = False := eq_false z1
    clear hYp
    go_wp2_with fail
    refine (HNN.out _ HR1.out).mono ?_
    rintro e w5 ⟨rfl, hd⟩
    have hb := hd.below
    clear hd
    replace HB := Aside0.mk (HB.out.trans (hb.mono HB.out.size))
    replace HR1 := Aside0.mk (Kd.C_below HR1.out hb)
    replace HP := Aside0.mk (Kd.C_below HP.out hb)
    replace HD := Aside0.mk (Kd.C_below HD.out hb)
    replace HM := Aside0.mk (Kd.C_below HM.out hb)
    clear hb
    go_upto_if 80 with (fail)
    clear q1 q2 q3 q4 q5 q6 z0 z1 z2 z3
    go_cut [] (fun wc => Aside0 (Below w.heap.size w wc) ∧ Aside0 ((Kd.int .u8).C wc A1 l1.length l1) ∧ Aside0 ((Kd.int .i64).C wc A2 x.length x) ∧ Aside0 ((Kd.int .i64).C wc A3 y.length y) ∧ Aside0 (Kd.C (Kd.slice 3 (Kd.int .i64)) wc A4 m.length m))
    case first =>
     as_aux_lemma =>
      clear HR8 HONE
      by_cases hnx : n ≤ x.length
      rotate_left
      ·have p1 : ((n : Int) ≤ (x.length : Int)) = False := eq_false (by omega)
       have p2 : (n ≤ x.length) = False := eq_false hnx
       have p3 : decide ((n : Int) ≤ (x.length : Int)) = false := decide_eq_false (by omega)
       have p4 : decide (n ≤ x.length) = false := decide_eq_false hnx
       go_wp2
       go_meet
       exact ⟨HB, HR1, HP, HD, HM⟩
      ·have p1 : ((n : Int) ≤ (x.length : Int)) = True := eq_true (by omega)
       have p2 : (n ≤ x.length) = True := eq_true hnx
       have p3 : decide ((n : Int) ≤ (x.length : Int)) = true := decide_eq_true (by omega)
       have p4 : decide (n ≤ x.length) = true := decide_eq_true hnx
       obtain ⟨d, hd⟩ : ∃ d, d = x.length - n := ⟨_, rfl⟩
       obtain ⟨D, hD⟩ : ∃ D, D = d + 1 := ⟨_, rfl⟩
       obtain ⟨pl, hpl⟩ : ∃ pl, pl = nn % D := ⟨_, rfl⟩
       obtain ⟨hi, hhi⟩ : ∃ hi, hi = pl + n := ⟨_, rfl⟩
       obtain ⟨lo, hlo⟩ : ∃ lo, lo = y.length - n := ⟨_, rfl⟩
       have hpd : pl < D := by rw [hpl]; exact Nat.mod_lt _ (by omega)
       have HU2 := Aside0.mk (show pl ≤ hi ∧ hi ≤ x.length ∧ hi = pl + n ∧ lo ≤ y.length ∧ lo + n = y.length ∧ D ≤ 5 ∧ 0 < D from by have := HU.out; have := HXY.out; omega)
       have HQ := Aside0.mk (show wrap64 ((x.length : Int) - (n : Int)) = (d : Int) ∧ wrap64 ((d : Int) + 1) = (D : Int) ∧ Int.tmod (nn : Int) (D : Int) = (pl : Int) ∧ (nn : Int) % (D : Int) = (pl : Int) ∧ wrap64 (pl : Int) = (pl : Int) ∧ wrap64 ((pl : Int) + (n : Int)) = (hi : Int) ∧ wrap64 ((y.length : Int) - (n : Int)) = (lo : Int) from by
        have h1 := HU.out
        have h2 := HXY.out
        refine ⟨?_, ?_, by rw [hpl]; rfl, by rw [hpl]; rfl, wrap_id (by omega) (by omega), ?_, ?_⟩
        ·rw [wrap_id (by omega) (by omega)]; omega
        ·rw [wrap_id (by omega) (by omega)]; omega
        ·rw [wrap_id (by omega) (by omega)]; omega
        ·rw [wrap_id (by omega) (by omega)]; omega)
       clear hd hD hpl hhi hlo hpd
       have z0 : ((D : Int) = 0) = False := eq_false (by have := HU2.out; omega)
       have z1 : (D = 0) = False := eq_false (by have := HU2.out; omega)
       have q1 := HQ.out.1
       have q2 := HQ.out.2.1
       have q3 := HQ.out.2.2.1
       have q4 := HQ.out.2.2.2.1
       have q5 := HQ.out.2.2.2.2.1
       have r1 := (i64_w _).trans q1
       have r2 := (i64_w _).trans q2
       have r5 := (i64_w _).trans q5
       go_wp2_with fail
       refine (HNN.out _ HR1.out).mono ?_
       rintro e w6 ⟨rfl, hd⟩
       have hb := hd.below
       clear hd
       replace HB := Aside0.mk (HB.out.trans (hb.mono HB.out.size))
       replace HR1 := Aside0.mk (Kd.C_below HR1.out hb)
       replace HP := Aside0.mk (Kd.C_below HP.out hb)
       replace HD := Aside0.mk (Kd.C_below HD.out hb)
       replace HM := Aside0.mk (Kd.C_below HM.out hb)
       clear hb
       go_upto_region 12 with (fail)
       clear q1 q2 q3 q4 q5 r1 r2 r5 z0 z1 p1 p2 p3 p4
       have q6 := HQ.out.2.2.2.2.2.1
       have q7 := HQ.out.2.2.2.2.2.2
       have r6 := (i64_w _).trans q6
       have r7 := (i64_w _).trans q7
       obtain ⟨ii, hii, hsz⟩ : ∃ i, Try.prog.info? 3 = some i ∧ i.size = 1 := by
        obtain ⟨i, h, he⟩ := Option.map_eq_some_iff.1 infoJ
        exact ⟨i, h, by injection he with _ he; injection he⟩
       obtain ⟨A6, hA6⟩ : ∃ A6, A6 = (if n2 = pl then A2 else A2.map (·.add (pl * 1))) := ⟨_, rfl⟩
       obtain ⟨A7, hA7⟩ : ∃ A7, A7 = (if n3 = lo then A3 else A3.map (·.add (lo * 1))) := ⟨_, rfl⟩
       have HS1 : Aside0 (∀ W : World, (Instr.slice 22 (.slice A2 x.length n2) (some (.int .i64 (pl : Int))) (some (.int .i64 (hi : Int))) none).run Try.prog W = .ok (.slice A6 (hi - pl) (n2 - pl)) W) := ⟨by
        rw [hA6]
        exact cut_mid (P := Try.prog) 22 3 .i64 .i64 Try.underlying22 hii 1 hsz A2 x.length n2 (pl : Int) (hi : Int) (by clear q6 q7 r6 r7; omega) (by clear q6 q7 r6 r7; have := HU2.out; omega) (by clear q6 q7 r6 r7; have := HU2.out; omega) HN2.out⟩
       have HS2 : Aside0 (∀ W : World, (Instr.slice 22 (.slice A3 y.length n3) (some (.int .i64 (lo : Int))) none none).run Try.prog W = .ok (.slice A7 (y.length - lo) (n3 - lo)) W) := ⟨by
        rw [hA7]
        exact cut_from (P := Try.prog) 22 3 .i64 Try.underlying22 hii 1 hsz A3 y.length n3 (lo : Int) (by clear q6 q7 r6 r7; omega) (by clear q6 q7 r6 r7; have := HU2.out; omega)⟩
       obtain ⟨x', hx'⟩ : ∃ x', x' = (x.take hi).drop pl := ⟨_, rfl⟩
       obtain ⟨y', hy'⟩ : ∃ y', y' = y.drop lo := ⟨_, rfl⟩
       have HCX : Aside0 (∀ W : World, (Kd.int .i64).C W A2 x.length x → (Kd.int .i64).C W A6 x'.length x') := ⟨fun W h => by rw [hA6, hx']; exact Kd.C_mid h HU2.out.1 HU2.out.2.1 HN2.out⟩
       have HCY : Aside0 (∀ W : World, (Kd.int .i64).C W A3 y.length y → (Kd.int .i64).C W A7 y'.length y') := ⟨fun W h => by rw [hA7, hy']; exact Kd.C_drop h HU2.out.2.2.2.1 HN3.out⟩
       have HL6 := Aside0.mk (show x'.length = hi - pl ∧ y'.length = y.length - lo ∧ x'.length = n ∧ y'.length = n from by
        clear q6 q7 r6 r7
        have h1 := HU2.out
        have e1 : x'.length = hi - pl := by rw [hx', List.length_drop, List.length_take]; omega
        have e2 : y'.length = y.length - lo := by rw [hy', List.length_drop]
        exact ⟨e1, e2, by omega, by omega⟩)
       have HOK' := Aside0.mk (cau_sub HC.out (show x'.Sublist x by rw [hx']; exact (List.drop_sublist _ _).trans (List.take_sublist _ _)) (show y'.Sublist y by rw [hy']; exact List.drop_sublist _ _) (by clear q6 q7 r6 r7; have := HL6.out; have := HU.out; omega) (by clear q6 q7 r6 r7; have := HL6.out; have := HU.out; omega))
       have HIV := Aside0.mk (cau_inv HOK'.out (by rw [HL6.out.2.2.1, HL6.out.2.2.2]))
       have he2 := impl_CauchyMatrix_eq x' y' (by clear q6 q7 r6 r7; have := HL6.out; have := HU.out; have := HXY.out; omega) (by clear q6 q7 r6 r7; have := HL6.out; have := HU.out; have := HXY.out; omega)
       have he3 : (cauV x' y').2 = true := by unfold cauV; rw [HOK'.out, if_pos rfl]
       generalize cauV x' y' = g2 at HIV he2 he3
       obtain ⟨part, ok2⟩ := g2
       obtain rfl : ok2 = true := he3
       have hi1 := impl_InvertMatrix_eq part
       have hi2 := HIV.out
       replace hi2 : (invV part).2 = true := hi2
       generalize invV part = g3 at hi1 hi2
       obtain ⟨back, ok3⟩ := g3
       obtain rfl : ok3 = true := hi2
       have HI1 := Aside0.mk hi1
       have HCC : Aside0 (∀ W : World, (Kd.int .i64).C W A2 x.length x → (Kd.int .i64).C W A3 y.length y → Calls Try.prog 7 #[.slice A6 (hi - pl) (n2 - pl), .slice A7 (y.length - lo) (n3 - lo)] W fun e w' => ∃ va : Value, e = .returned (.tuple #[va, .bool true]) ∧ Kd.S (Kd.slice 3 (Kd.int .i64)) 22 w' W.heap.size (fun _ => True) va part ∧ Below W.heap.size W w') := ⟨fun W h1 h2 => by
        have h3 := impl_CauchyMatrix.calls A6 (n2 - pl) x' A7 (n3 - lo) y' part true W (HCX.out W h1) (by clear q6 q7 r6 r7; have := HL6.out; have := HU2.out; have := HN2.out; omega) (HCY.out W h2) (by clear q6 q7 r6 r7; have := HL6.out; have := HU2.out; have := HN3.out; omega) he2
        rwa [HL6.out.1, HL6.out.2.1] at h3⟩
       clear hA6 hA7 hx' hy' he2 hi1 hii hsz
       have s1 := HS1.out
       have s2 := HS2.out
       have HPX := Aside0.mk (Kd.C_drew HP.out)
       have HDX := Aside0.mk (Kd.C_drew HD.out)
       have HBX := Aside0.mk (below_drew (Below.refl w6.heap.size w6))
       go_wp2_with fail
       refine start_ (n := 18) (S := fun _ => True) (ds := []) #[false, false, false, false, false, false, false, false, false, false, false, false, false, false, false, false, false, false] (by kernel_rfl) rfl rfl (trivial) (fun hHeld => ?_); refine with_tabW tab_fc12 bits_fc12 (fun HT_ HW_ => ?_)
       generalize w6.drew = w66 at HPX HDX HBX hHeld ⊢
       refine pure_ (i := 0) (N := some 90) (v := ?_) (a' := ?_) #[true, false, false, false, false, false, false, false, false, false, false, false, false, false, false, false, false, false] rfl rfl (any_of HT_.out (by kernel_rfl)) (fun _ _ _ h => h) (Or.inl ⟨by rfl, ?_⟩) ?_ ?_
       rotate_left
       ·intro w'
        go_simp
        with_reducible rfl
       rotate_left
       ·simp only [Act.put, List.setIfInBounds_toArray, List.set_cons_zero, List.set_cons_succ, i64_w, i32_w]
        rfl
       refine pure_ (i := 1) (N := some 91) (v := ?_) (a' := ?_) #[true, true, false, false, false, false, false, false, false, false, false, false, false, false, false, false, false, false] rfl rfl (any_of HT_.out (by kernel_rfl)) (fun _ _ _ h => h) (Or.inl ⟨by rfl, ?_⟩) ?_ ?_
       rotate_left
       ·intro w'
        go_simp
        with_reducible rfl
       rotate_left
       ·simp only [Act.put, List.setIfInBounds_toArray, List.set_cons_zero, List.set_cons_succ, i64_w, i32_w]
        rfl
       refine pure_ (i := 2) (N := some 92) (v := ?_) (a' := ?_) #[true, true, true, false, false, false, false, false, false, false, false, false, false, false, false, false, false, false] rfl rfl (any_of HT_.out (by kernel_rfl)) (fun _ _ _ h => h) (Or.inl ⟨by rfl, ?_⟩) ?_ ?_
       rotate_left
       ·intro w'
        go_simp
        with_reducible rfl
       rotate_left
       ·simp only [Act.put, List.setIfInBounds_toArray, List.set_cons_zero, List.set_cons_succ, i64_w, i32_w]
        rfl
       refine pure_ (i := 3) (N := some 93) (v := ?_) (a' := ?_) #[true, true, true, true, false, false, false, false, false, false, false, false, false, false, false, false, false, false] rfl rfl (any_of HT_.out (by kernel_rfl)) (fun _ _ _ h => h) (Or.inl ⟨by rfl, ?_⟩) ?_ ?_
       rotate_left
       ·intro w'
        go_simp
        with_reducible rfl
       rotate_left
       ·simp only [Act.put, List.setIfInBounds_toArray, List.set_cons_zero, List.set_cons_succ, i64_w, i32_w]
        rfl
       refine pure_ (i := 4) (N := some 94) (v := ?_) (a' := ?_) #[true, true, true, true, true, false, false, false, false, false, false, false, false, false, false, false, false, false] rfl rfl (any_of HT_.out (by kernel_rfl)) (fun _ _ _ h => h) (Or.inl ⟨by rfl, ?_⟩) ?_ ?_
       rotate_left
       ·intro w'
        go_simp
        with_reducible rfl
       rotate_left
       ·simp only [Act.put, List.setIfInBounds_toArray, List.set_cons_zero, List.set_cons_succ, i64_w, i32_w]
        rfl
       refine pure_ (i := 5) (N := some 95) (v := ?_) (a' := ?_) #[true, true, true, true, true, true, false, false, false, false, false, false, false, false, false, false, false, false] rfl rfl (any_of HT_.out (by kernel_rfl)) (fun _ _ _ h => h) (Or.inl ⟨by rfl, ?_⟩) ?_ ?_
       rotate_left
       ·intro w'
        go_simp
        with_reducible rfl
       rotate_left
       ·simp only [Act.put, List.setIfInBounds_toArray, List.set_cons_zero, List.set_cons_succ, i64_w, i32_w]
        rfl
       refine pure_ (i := 6) (N := some 96) (v := ?_) (a' := ?_) #[true, true, true, true, true, true, true, false, false, false, false, false, false, false, false, false, false, false] rfl rfl (any_of HT_.out (by kernel_rfl)) (fun _ _ _ h => h) (Or.inl ⟨by rfl, ?_⟩) ?_ ?_
       rotate_left
       ·intro w'
        go_simp
        with_reducible rfl
       rotate_left
       ·simp only [Act.put, List.setIfInBounds_toArray, List.set_cons_zero, List.set_cons_succ, i64_w, i32_w]
        rfl
       refine pure_ (i := 7) (N := some 97) (v := ?_) (a' := ?_) #[true, true, true, true, true, true, true, true, false, false, false, false, false, false, false, false, false, false] rfl rfl (any_of HT_.out (by kernel_rfl)) (fun _ _ _ h => h) (Or.inl ⟨by rfl, ?_⟩) ?_ ?_
       rotate_left
       ·intro w'
        go_simp
        with_reducible rfl
       rotate_left
       ·simp only [Act.put, List.setIfInBounds_toArray, List.set_cons_zero, List.set_cons_succ, i64_w, i32_w]
        rfl
       refine pure_ (i := 8) (N := some 98) (v := ?_) (a' := ?_) #[true, true, true, true, true, true, true, true, true, false, false, false, false, false, false, false, false, false] rfl rfl (any_of HT_.out (by kernel_rfl)) (fun _ _ _ h => h) (Or.inl ⟨by rfl, ?_⟩) ?_ ?_
       rotate_left
       ·intro w'
        go_simp
        with_reducible rfl
       rotate_left
       ·simp only [Act.put, List.setIfInBounds_toArray, List.set_cons_zero, List.set_cons_succ, i64_w, i32_w]
        rfl
       refine pure_ (i := 9) (N := some 99) (v := ?_) (a' := ?_) #[true, true, true, true, true, true, true, true, true, true, false, false, false, false, false, false, false, false] rfl rfl (any_of HT_.out (by kernel_rfl)) (fun _ _ _ h => h) (Or.inl ⟨by rfl, ?_⟩) ?_ ?_
       rotate_left
       ·intro w'
        go_simp
        with_reducible rfl
       rotate_left
       ·simp only [Act.put, List.setIfInBounds_toArray, List.set_cons_zero, List.set_cons_succ, i64_w, i32_w]
        rfl
       refine pure_ (i := 10) (N := some 100) (v := ?_) (a' := ?_) #[true, true, true, true, true, true, true, true, true, true, true, false, false, false, false, false, false, false] rfl rfl (any_of HT_.out (by kernel_rfl)) (fun _ _ _ h => h) (Or.inl ⟨by rfl, ?_⟩) ?_ ?_
       rotate_left
       ·intro w'
        go_simp
        with_reducible rfl
       rotate_left
       ·simp only [Act.put, List.setIfInBounds_toArray, List.set_cons_zero, List.set_cons_succ, i64_w, i32_w]
        rfl
       refine pure_ (i := 11) (N := some 101) (v := ?_) (a' := ?_) #[true, true, true, true, true, true, true, true, true, true, true, true, false, false, false, false, false, false] rfl rfl (any_of HT_.out (by kernel_rfl)) (fun _ _ _ h => h) (Or.inl ⟨by rfl, ?_⟩) ?_ ?_
       rotate_left
       ·intro w'
        go_simp
        with_reducible rfl
       rotate_left
       ·simp only [Act.put, List.setIfInBounds_toArray, List.set_cons_zero, List.set_cons_succ, i64_w, i32_w]
        rfl
       refine one_ (i := 12) (N := some 102) #[true, true, true, true, true, true, true, true, true, true, true, true, true, false, false, false, false, false] rfl rfl (one_of HT_.out (by kernel_rfl)) (by decide) (fun K hK => ?_)
       refine goes_ Try.func7 (by kernel_rfl) rfl #[.slice A6 (hi - pl) (n2 - pl), .slice A7 (y.length - lo) (n3 - lo)] (by rfl) rfl rfl (by (try simp only [List.map_toArray, List.map_cons, List.map_nil]); first | done | rfl | (simp only [List.length_drop, List.length_take]; rfl)) ?_
       refine (HCC.out _ HPX.out HDX.out).mono ?_
       rintro e w7 ⟨va, rfl, hva, hb⟩
       refine ⟨_, rfl, ?_⟩
       clear q6 q7 r6 r7 s1 s2
       obtain ⟨A8, n8, rfl, hn8, hC8⟩ := S_reads hva
       have HF := Aside0.mk hC8
       have HN8 := Aside0.mk hn8
       have HBY := Aside0.mk (HBX.out.trans (hb.mono HBX.out.size))
       clear hva hC8 hn8 hb
       refine hK.out _ _ trivial (fun hHeld => ?_)
       clear hK K
       refine norm_ (a' := ?_) ?_ ?_
       rotate_left
       ·show Act.put _ (some 102) _ = _
        simp only [Act.put, List.setIfInBounds_toArray, List.set_cons_zero, List.set_cons_succ, i64_w, i32_w]
        rfl
       refine pure_ (i := 13) (N := some 89) (v := ?_) (a' := ?_) #[true, true, true, true, true, true, true, true, true, true, true, true, true, true, false, false, false, false] rfl rfl (any_of HT_.out (by kernel_rfl)) (fun _ _ _ h => h) (Or.inl ⟨by rfl, ?_⟩) ?_ ?_
       rotate_left
       ·intro w'
        go_simp
        with_reducible rfl
       rotate_left
       ·simp only [Act.put, List.setIfInBounds_toArray, List.set_cons_zero, List.set_cons_succ, i64_w, i32_w]
        rfl
       refine pure_ (i := 14) (N := some 103) (v := ?_) (a' := ?_) #[true, true, true, true, true, true, true, true, true, true, true, true, true, true, true, false, false, false] rfl rfl (any_of HT_.out (by kernel_rfl)) (fun _ _ _ h => h) (Or.inl ⟨by rfl, ?_⟩) ?_ ?_
       rotate_left
       ·intro w'
        go_simp
        with_reducible rfl
       rotate_left
       ·simp only [Act.put, List.setIfInBounds_toArray, List.set_cons_zero, List.set_cons_succ, i64_w, i32_w]
        rfl
       refine pure_ (i := 15) (N := some 104) (v := ?_) (a' := ?_) #[true, true, true, true, true, true, true, true, true, true, true, true, true, true, true, true, false, false] rfl rfl (any_of HT_.out (by kernel_rfl)) (fun _ _ _ h => h) (Or.inl ⟨by rfl, ?_⟩) ?_ ?_
       rotate_left
       ·intro w'
        go_simp
        with_reducible rfl
       rotate_left
       ·simp only [Act.put, List.setIfInBounds_toArray, List.set_cons_zero, List.set_cons_succ, i64_w, i32_w]
        rfl
       refine pure_ (i := 16) (N := some 13) (v := ?_) (a' := ?_) #[true, true, true, true, true, true, true, true, true, true, true, true, true, true, true, true, true, false] rfl rfl (any_of HT_.out (by kernel_rfl)) (fun _ _ _ h => h) (Or.inl ⟨by rfl, ?_⟩) ?_ ?_
       rotate_left
       ·intro w'
        go_simp
        with_reducible rfl
       rotate_left
       ·simp only [Act.put, List.setIfInBounds_toArray, List.set_cons_zero, List.set_cons_succ, i64_w, i32_w]
        rfl
       refine pure_ (i := 17) (N := some 14) (v := ?_) (a' := ?_) #[true, true, true, true, true, true, true, true, true, true, true, true, true, true, true, true, true, true] rfl rfl (any_of HT_.out (by kernel_rfl)) (fun _ _ _ h => h) (Or.inl ⟨by rfl, ?_⟩) ?_ ?_
       rotate_left
       ·intro w'
        go_simp
        with_reducible rfl
       rotate_left
       ·simp only [Act.put, List.setIfInBounds_toArray, List.set_cons_zero, List.set_cons_succ, i64_w, i32_w]
        rfl
       refine done_ (done_of HT_.out (by kernel_rfl)) ?_
       have hb := HBY.out
       replace HB := Aside0.mk (HB.out.trans (hb.mono HB.out.size))
       replace HR1 := Aside0.mk (Kd.C_below HR1.out hb)
       replace HP := Aside0.mk (Kd.C_below HP.out hb)
       replace HD := Aside0.mk (Kd.C_below HD.out hb)
       replace HM := Aside0.mk (Kd.C_below HM.out hb)
       clear hb
       go_wp2_with fail
       refine (impl_InvertMatrix.calls A8 n8 part back true _ HF.out HN8.out HI1.out).mono ?_
       rintro e w8 ⟨va, rfl, _, hb⟩
       replace HB := Aside0.mk (HB.out.trans (hb.mono HB.out.size))
       replace HR1 := Aside0.mk (Kd.C_below HR1.out hb)
       replace HP := Aside0.mk (Kd.C_below HP.out hb)
       replace HD := Aside0.mk (Kd.C_below HD.out hb)
       replace HM := Aside0.mk (Kd.C_below HM.out hb)
       replace HF := Aside0.mk (Kd.C_below HF.out hb)
       clear hb
       go_wp2
       go_meet
       exact ⟨HB, HR1, HP, HD, HM⟩
    case rest =>
     as_aux_lemma =>
      clear HB HR1 HP HD HM HR8 HNN HU
      obtain ⟨HB, HR1, HP, HD, HM⟩ := hcut
      obtain ⟨wb, hwb⟩ : ∃ u, u = wc := ⟨_, rfl⟩
      subst hwb
      go_wp2
      go_loopg [118] m.length (fun gg v118 wq => ∃ i : Nat, i ≤ m.length ∧ m.length - i ≤ gg ∧ v118 = .int .i64 i ∧ Drawn0 wb wq)
      case atStart => exact ⟨0, Nat.zero_le _, by omega, rfl, Drawn0.refl _⟩
      case round =>
       obtain ⟨i, hi', hgi, rfl, ⟨m1, rfl⟩⟩ := hrel
       have z0 : (0 : Int) ≤ (i : Int) := by omega
       have hi8 : (i : Int) ≤ 4 := by have := HML.out; have := HXY.out; omega
       by_cases hlt : i < m.length
       ·have hix : i < x.length := by have := HML.out; omega
        have j1 : ((i : Int) < (m.length : Int)) = True := eq_true (by omega)
        have j2 : (i < m.length) = True := eq_true hlt
        have j3 : ((i : Int) < (x.length : Int)) = True := eq_true (by omega)
        have j4 : (i < x.length) = True := eq_true hix
        obtain ⟨ad, A5, c5, eA, hxm, hl5, hC5⟩ := at_L1 HM.out (i : Int) z0 (by omega)
        cases eA
        rw [show rd_L1 m (i : Int) = m.getD i [] from by unfold rd_L1; rw [Int.toNat_natCast]] at hxm hl5 hC5
        rw [Int.toNat_natCast] at hxm
        obtain ⟨bd, eB, hxx⟩ := Kd.at_int HP.out (i : Int) z0 (by omega)
        cases eB
        rw [show rd x (i : Int) = x.getD i 0 from by unfold rd; rw [Int.toNat_natCast], Int.toNat_natCast] at hxx
        have hone := fun k (hk : k < y.length) => HONE.out i k hix hk
        have hrl : (m.getD i []).length = y.length := by
         obtain ⟨_, _, _, _, _, _, _, _, h, _⟩ := hone 0 (by have := HXY.out; omega)
         exact h
        replace hone : Aside0 (∀ k : Nat, k < y.length → ∃ a b z : Nat, x.getD i 0 = (a : Int) ∧ y.getD k 0 = (b : Int) ∧ a < 256 ∧ b < 256 ∧ (m.getD i []).getD k 0 = (z : Int) ∧ (m.getD i []).length = y.length ∧ mulGf (z : Int) ((a ^^^ b : Nat) : Int) = (1, true)) := ⟨hone⟩
        generalize m.getD i [] = row at hxm hl5 hC5 hrl hone
        generalize x.getD i 0 = xa at hxx hone
        have HROW := Aside0.mk (And.intro hC5 hrl)
        have HCELL := Aside0.mk (And.intro hxm hxx)
        clear hC5 hrl
        go_wp2
        go_loopg [126] row.length (fun gg v126 wq => ∃ k : Nat, k ≤ row.length ∧ row.length - k ≤ gg ∧ v126 = .int .i64 k ∧ Drawn0 wb wq)
        case atStart => exact ⟨0, Nat.zero_le _, by omega, rfl, by repeat (first | exact Drawn0.refl _ | apply Drawn0.step)⟩
        case round =>
         clear hxm hxx
         obtain ⟨k, hk', hgk, rfl, ⟨m2, rfl⟩⟩ := hrel
         have y0 : (0 : Int) ≤ (k : Int) := by omega
         have hk8 : (k : Int) ≤ 4 := by have := HROW.out.2; have := HXY.out; omega
         by_cases hkl : k < row.length
         ·have hky : k < y.length := by have := HROW.out.2; omega
          have j5 : ((k : Int) < (row.length : Int)) = True := eq_true (by omega)
          have j6 : (k < row.length) = True := eq_true hkl
          have j7 : ((k : Int) < (y.length : Int)) = True := eq_true (by omega)
          have j8 : (k < y.length) = True := eq_true hky
          obtain ⟨a, b, z, ea, eb, ha, hb, ez, _, hmul⟩ := hone.out k hky
          obtain ⟨cd, eC, hcz⟩ := Kd.at_int HROW.out.1 (k : Int) y0 (by omega)
          cases eC
          obtain ⟨dd, eD, hdz⟩ := Kd.at_int HD.out (k : Int) y0 (by omega)
          cases eD
          rw [show rd row (k : Int) = row.getD k 0 from by unfold rd; rw [Int.toNat_natCast], Int.toNat_natCast, ez] at hcz
          rw [show rd y (k : Int) = y.getD k 0 from by unfold rd; rw [Int.toNat_natCast], Int.toNat_natCast, eb] at hdz
          have hxm := HCELL.out.1
          have hxx := HCELL.out.2
          rw [ea] at hxx
          have hxor := xor_up ha hb
          obtain ⟨K, hK⟩ := (impl_MulGf_ev (z : Int) ((a ^^^ b : Nat) : Int)).rounds
          rw [hmul] at hK
          generalize a ^^^ b = q at hxor hK
          have HMU := Aside0.mk hK
          clear hK hmul ea eb ez ha hb
          go_wp2
          go_quiet (first | (go_at_call 17; refine (impl_MulGf.calls K (z : Int) (q : Int) 1 true _ HMU.out).mono ?_; rintro e w' ⟨rfl, ⟨nd, rfl⟩⟩; (try first | exact ⟨rfl, _, World.drewN_drewN _ _ _⟩ | exact ⟨rfl, _, Eq.trans (World.drewN_drewN _ _ _) (congrArg (World.drewN _) (Nat.add_assoc _ _ _))⟩)))
          go_wp2
          go_roundg (row.length - (k + 1))
          case measure => omega
          case rel => exact ⟨k + 1, by omega, by omega, by go_num, by repeat (first | exact Drawn0.refl _ | apply Drawn0.step)⟩
         ·have j5 : ((k : Int) < (row.length : Int)) = False := eq_false (by omega)
          have j6 : (k < row.length) = False := eq_false hkl
          go_wp2
          go_roundg (m.length - (i + 1))
          case measure => omega
          case rel => exact ⟨i + 1, by omega, by omega, by go_num, by repeat (first | exact Drawn0.refl _ | apply Drawn0.step)⟩
       ·have j1 : ((i : Int) < (m.length : Int)) = False := eq_false (by omega)
        have j2 : (i < m.length) = False := eq_false hlt
        go_wp2
        go_meet
        exact ⟨⟨pw_below_drewN HB.out _⟩, ⟨Kd.C_drewN HR1.out _⟩⟩
 case rest =>
  as_aux_lemma =>
   clear HB HR1 HP HD HM HOK HMS HNN HNB HXY HN2 HN3 HN4
   obtain ⟨HB, HR1⟩ := hcut
   go_wp2_with fail
   refine (cD2 _ HR1.out).mono ?_
   rintro e w21 ⟨A2, n2, a, A3, n3, v, rfl, ha1, ha2, ha3, hv, hn2, hC2, hn3, hC3, hb⟩
   have HP := Aside0.mk hC2
   have HN2 := Aside0.mk hn2
   have HD := Aside0.mk hC3
   have HN3 := Aside0.mk hn3
   have k1 := impl_SolveBy_eq a v
   have k2 := spec_SolveBy_ev a v (by omega) (fun r hr => by have := ha3 r hr; omega) (by omega)
   have hsl := @solve_law a v
   have hsm := solveV_small a v
   generalize solveV a v = g1 at k1 k2 hsl hsm
   obtain ⟨s, is⟩ := g1
   have J1 := Aside0.mk k1
   have J2 := Aside0.mk k2
   have HSL := Aside0.mk hsl
   have HZ := Aside0.mk (show s.length ≤ 8 from hsm)
   have x1 : (is != is) = false := by simp
   clear k1 k2 hsl hsm ha1 ha2 ha3 hv hn2 hC2 hn3 hC3 cD2
   replace HB := Aside0.mk (HB.out.trans (hb.mono HB.out.size))
   replace HR1 := Aside0.mk (Kd.C_below HR1.out hb)
   clear hb
   go_wp2_with fail
   refine (impl_SolveBy.calls A2 n2 a A3 n3 v s is _ HP.out HN2.out HD.out HN3.out J1.out).mono ?_
   rintro e w22 ⟨va, rfl, hva, hb⟩
   obtain ⟨A4, n4, rfl⟩ := Kd.R_slice hva
   have HE := Aside0.mk (Kd.R_reads' hva).2.2
   have HN4 := Aside0.mk (Kd.R_reads' hva).2.1
   clear hva
   replace HB := Aside0.mk (HB.out.trans (hb.mono HB.out.size))
   replace HR1 := Aside0.mk (Kd.C_below HR1.out hb)
   replace HP := Aside0.mk (Kd.C_below HP.out hb)
   replace HD := Aside0.mk (Kd.C_below HD.out hb)
   clear hb
   go_wp2_with fail
   refine (spec_SolveBy.calls A2 n2 a A3 n3 v s is _ HP.out HN2.out HD.out HN3.out J2.out).mono ?_
   rintro e w23 ⟨va, rfl, hva, hb⟩
   obtain ⟨A5, n5, rfl⟩ := Kd.R_slice hva
   have HF := Aside0.mk (Kd.R_reads' hva).2.2
   have HN5 := Aside0.mk (Kd.R_reads' hva).2.1
   clear hva
   replace HB := Aside0.mk (HB.out.trans (hb.mono HB.out.size))
   replace HR1 := Aside0.mk (Kd.C_below HR1.out hb)
   replace HP := Aside0.mk (Kd.C_below HP.out hb)
   replace HD := Aside0.mk (Kd.C_below HD.out hb)
   replace HE := Aside0.mk (Kd.C_below HE.out hb)
   clear hb
   go_wp2_with fail
   refine (sameI_c s (by have := HZ.out; omega) HN4.out HN5.out _ HE.out HF.out).mono ?_
   rintro e w24 ⟨rfl, hb⟩
   replace HB := Aside0.mk (HB.out.trans (hb.mono HB.out.size))
   replace HR1 := Aside0.mk (Kd.C_below HR1.out hb)
   replace HP := Aside0.mk (Kd.C_below HP.out hb)
   replace HD := Aside0.mk (Kd.C_below HD.out hb)
   replace HE := Aside0.mk (Kd.C_below HE.out hb)
   replace HF := Aside0.mk (Kd.C_below HF.out hb)
   clear hb
   clear HF HN5 J1 J2 x1
   go_upto_if 183 with (fail)
   go_cut [] (fun wc => Aside0 (Below w.heap.size w wc) ∧ Aside0 ((Kd.int .u8).C wc A1 l1.length l1))
   case first =>
    as_aux_lemma =>
     clear cD3
     cases is with
     | false =>
      clear HSL
      go_wp2
      go_meet
      exact ⟨HB, HR1⟩
     | true =>
      obtain ⟨n, m, S, V, rfl, rfl, hS, hm, hml, hn8, hSl, hSb, hVl, hdot⟩ := HSL.out rfl
      replace hS : s = Poly.up S := hS
      subst hS
      have HMM := Aside0.mk (And.intro hm (And.intro hml (And.intro hn8 (And.intro hSl (And.intro hSb hVl)))))
      have HDOT := Aside0.mk hdot
      clear HSL HZ hm hml hn8 hSl hSb hVl hdot
      obtain ⟨wb, hwb⟩ : ∃ u, u = w24 := ⟨_, rfl⟩
      subst hwb
      go_wp2
      go_loopg [186] (upM m).length (fun gg v186 wq => ∃ i : Nat, i ≤ (upM m).length ∧ (upM m).length - i ≤ gg ∧ v186 = .int .i64 i ∧ Drawn0 wb wq)
      case atStart => exact ⟨0, Nat.zero_le _, by omega, rfl, Drawn0.refl _⟩
      case round =>
       obtain ⟨i, hi', hgi, rfl, ⟨m1, rfl⟩⟩ := hrel
       have hml2 := Aside0.mk (upM_length m)
       have z0 : (0 : Int) ≤ (i : Int) := by omega
       have hi8 : (i : Int) ≤ 8 := by have := HMM.out; have := hml2.out; omega
       by_cases hlt : i < (upM m).length
       ·have hvl := Aside0.mk (show (Poly.up V).length = (upM m).length from by rw [Poly.up_length, hml2.out]; have := HMM.out; omega)
        have j1 : ((i : Int) < ((upM m).length : Int)) = True := eq_true (by omega)
        have j2 : (i < (upM m).length) = True := eq_true hlt
        have j3 : ((i : Int) < ((Poly.up V).length : Int)) = True := eq_true (by have := hvl.out; omega)
        have j4 : (i < (Poly.up V).length) = True := eq_true (by have := hvl.out; omega)
        have hin : i < n := by have := HMM.out; have := hml2.out; omega
        obtain ⟨ad, A5, c5, eA, hxm, hl5, hC5⟩ := at_L1 HP.out (i : Int) z0 (by omega)
        cases eA
        rw [rdL_up] at hxm hl5 hC5
        rw [Int.toNat_natCast] at hxm
        obtain ⟨bd, eB, hxv⟩ := Kd.at_int HD.out (i : Int) z0 (by have := hvl.out; omega)
        cases eB
        rw [Poly.rd_up, Int.toNat_natCast] at hxv
        have hd := HDOT.out i hin
        have hr := HMM.out.1.get (i := i) (by have := HMM.out; omega)
        rw [← hd] at hxv
        generalize m.getD i [] = row at hxm hl5 hC5 hd hr hxv
        have HROW := Aside0.mk (And.intro hr (show row.length = S.length from by rw [hr.1]; exact HMM.out.2.2.2.1.symm))
        have HRC := Aside0.mk hC5
        have HCELL := Aside0.mk (And.intro hxm hxv)
        have hrl := Aside0.mk (Poly.up_length row)
        have hsl := Aside0.mk (Poly.up_length S)
        clear hC5 hr hd hxv
        go_wp2
        go_loopg [28, 194] (Poly.up row).length (fun gg v28 v194 wq => ∃ k : Nat, k ≤ (Poly.up row).length ∧ (Poly.up row).length - k ≤ gg ∧ v28 = .int .i64 ((Mat.dotL (row.take k) (S.take k) : Nat) : Int) ∧ v194 = .int .i64 k ∧ Drawn0 wb wq)
        case atStart => exact ⟨0, Nat.zero_le _, by omega, by rw [List.take_zero]; rfl, rfl, by repeat (first | exact Drawn0.refl _ | apply Drawn0.step)⟩
        case round =>
         clear hxm
         obtain ⟨k, hk', hgk, rfl, rfl, ⟨m2, rfl⟩⟩ := hrel
         have y0 : (0 : Int) ≤ (k : Int) := by omega
         have hk8 : (k : Int) ≤ 8 := by have := HMM.out; have := HROW.out; have := hrl.out; omega
         by_cases hkl : k < (Poly.up row).length
         ·have hkr : k < row.length := by have := hrl.out; omega
          have hks : k < (Poly.up S).length := by have := hrl.out; have := hsl.out; have := HROW.out.2; omega
          have j5 : ((k : Int) < ((Poly.up row).length : Int)) = True := eq_true (by omega)
          have j6 : (k < (Poly.up row).length) = True := eq_true hkl
          have j7 : ((k : Int) < ((Poly.up S).length : Int)) = True := eq_true (by omega)
          have j8 : (k < (Poly.up S).length) = True := eq_true hks
          obtain ⟨cd, eC, hcz⟩ := Kd.at_int HRC.out (k : Int) y0 (by omega)
          cases eC
          obtain ⟨dd, eD, hdz⟩ := Kd.at_int HE.out (k : Int) y0 (by omega)
          cases eD
          rw [Poly.rd_up, Int.toNat_natCast] at hcz
          rw [Poly.rd_up, Int.toNat_natCast] at hdz
          have hxm := HCELL.out.1
          have ha := Poly.AllB.get HROW.out.1.2 k
          have hb := Poly.AllB.get HMM.out.2.2.2.2.1 k
          have hstep := dotL_take row S k HROW.out.2 hkr
          have hlt2 := dotL_take_lt row S HROW.out.1.2 k
          have hmul : mulGf ((row.getD k 0 : Nat) : Int) ((S.getD k 0 : Nat) : Int) = (((Gf.gm (row.getD k 0) (S.getD k 0) : Nat) : Int), true) := by
           unfold mulGf
           rw [show isB ((row.getD k 0 : Nat) : Int) = true from decide_eq_true (by omega), show isB ((S.getD k 0 : Nat) : Int) = true from decide_eq_true (by omega)]; rfl
          have hgl := Gf.gm_lt (S.getD k 0) ha
          obtain ⟨K, hK⟩ := (impl_MulGf_ev ((row.getD k 0 : Nat) : Int) ((S.getD k 0 : Nat) : Int)).rounds
          rw [hmul] at hK
          generalize row.getD k 0 = a at hcz hstep hK ha hgl hmul
          generalize S.getD k 0 = b at hdz hstep hK hb hgl hmul
          generalize Gf.gm a b = p at hstep hK hgl hmul
          have hxor := xor_up hlt2 hgl
          rw [← hstep] at hxor
          have HMU := Aside0.mk hK
          generalize Mat.dotL (row.take k) (S.take k) = t0 at hxor ⊢
          obtain ⟨t1, ht1⟩ : ∃ t1, t1 = Mat.dotL (row.take (k + 1)) (S.take (k + 1)) := ⟨_, rfl⟩
          rw [← ht1] at hxor
          have HT1 := Aside0.mk ht1
          clear hK hmul hstep hlt2 hgl ha hb hkr hks ht1
          go_wp2
          go_quiet (first | (go_at_call 17; refine (impl_MulGf.calls K (a : Int) (b : Int) (p : Int) true _ HMU.out).mono ?_; rintro e w' ⟨rfl, ⟨nd, rfl⟩⟩; (try first | exact ⟨rfl, _, World.drewN_drewN _ _ _⟩ | exact ⟨rfl, _, Eq.trans (World.drewN_drewN _ _ _) (congrArg (World.drewN _) (Nat.add_assoc _ _ _))⟩)))
          go_wp2
          go_roundg ((Poly.up row).length - (k + 1))
          case measure => omega
          case rel => exact ⟨k + 1, by omega, by omega, by rw [← HT1.out], by go_num, by repeat (first | exact Drawn0.refl _ | apply Drawn0.step)⟩
         ·have j5 : ((k : Int) < ((Poly.up row).length : Int)) = False := eq_false (by omega)
          have j6 : (k < (Poly.up row).length) = False := eq_false hkl
          have hkr : k = row.length := by have := hrl.out; omega
          have hd : Mat.dotL (row.take k) (S.take k) = Mat.dotL row S := by
           rw [hkr, List.take_length, HROW.out.2, List.take_length]
          rw [hd]
          have hxv := HCELL.out.2
          generalize Mat.dotL row S = D at hxv ⊢
          have x2 : ((D : Int) != (D : Int)) = false := by simp
          clear hkr hd
          go_wp2
          go_roundg ((upM m).length - (i + 1))
          case measure => omega
          case rel => exact ⟨i + 1, by omega, by omega, by go_num, by repeat (first | exact Drawn0.refl _ | apply Drawn0.step)⟩
       ·have j1 : ((i : Int) < ((upM m).length : Int)) = False := eq_false (by omega)
        have j2 : (i < (upM m).length) = False := eq_false hlt
        go_wp2
        go_meet
        exact ⟨⟨pw_below_drewN HB.out _⟩, ⟨Kd.C_drewN HR1.out _⟩⟩
   case rest =>
    as_aux_lemma =>
     clear HB HR1 HP HD HE HSL HZ HN2 HN3 HN4
     obtain ⟨HB, HR1⟩ := hcut
     go_wp2_with fail
     refine (cD3 _ HR1.out).mono ?_
     rintro e w31 ⟨A2, n2, a, A3, n3, v, rfl, ha1, ha2, ha3, hv, hn2, hC2, hn3, hC3, hb⟩
     have HP := Aside0.mk hC2
     have HN2 := Aside0.mk hn2
     have HD := Aside0.mk hC3
     have HN3 := Aside0.mk hn3
     have k1 := impl_RowsOf_eq a v
     obtain ⟨K2, k2⟩ := (spec_RowsOf_ev a v (by omega) (fun r hr => by have := ha3 r hr; omega) (by omega)).rounds
     have hsm := rowsV_small a v
     generalize rowsV a v = g1 at k1 k2 hsm
     obtain ⟨r, is⟩ := g1
     have J1 := Aside0.mk k1
     have J2 := Aside0.mk k2
     have HZ := Aside0.mk (show r.length ≤ 1000000 ∧ ∀ q ∈ r, q.length ≤ 1000000 from ⟨by have := hsm.1; simp only at this; omega, fun q hq => by have := hsm.2 q hq; omega⟩)
     have x4 : (is == is) = true := by simp
     clear k1 k2 hsm ha1 ha2 ha3 hv hn2 hC2 hn3 hC3 cD3 HR1
     replace HB := Aside0.mk (HB.out.trans (hb.mono HB.out.size))
     clear hb
     go_wp2_with fail
     refine (impl_RowsOf.calls A2 n2 a A3 n3 v r is _ HP.out HN2.out HD.out HN3.out J1.out).mono ?_
     rintro e w32 ⟨va, rfl, hva, hb⟩
     obtain ⟨A4, n4, rfl, hn4, hC4⟩ := S_reads hva
     have HE := Aside0.mk hC4
     have HN4 := Aside0.mk hn4
     clear hva hC4 hn4
     replace HB := Aside0.mk (HB.out.trans (hb.mono HB.out.size))
     replace HP := Aside0.mk (Kd.C_below HP.out hb)
     replace HD := Aside0.mk (Kd.C_below HD.out hb)
     clear hb
     go_wp2_with fail
     refine (spec_RowsOf.calls K2 A2 n2 a A3 n3 v r is _ HP.out HN2.out HD.out HN3.out J2.out).mono ?_
     rintro e w33 ⟨va, rfl, hva, hb⟩
     obtain ⟨A5, n5, rfl, hn5, hC5⟩ := S_reads hva
     have HF := Aside0.mk hC5
     have HN5 := Aside0.mk hn5
     clear hva hC5 hn5
     replace HB := Aside0.mk (HB.out.trans (hb.mono HB.out.size))
     replace HP := Aside0.mk (Kd.C_below HP.out hb)
     replace HD := Aside0.mk (Kd.C_below HD.out hb)
     replace HE := Aside0.mk (Kd.C_below HE.out hb)
     clear hb
     cases is with
     | true =>
      go_wp2_with fail
      refine (sameL_c r HZ.out.1 HZ.out.2 HN4.out HN5.out _ HE.out HF.out).mono ?_
      rintro e w34 ⟨rfl, hb⟩
      replace HB := Aside0.mk (HB.out.trans (hb.mono HB.out.size))
      replace HP := Aside0.mk (Kd.C_below HP.out hb)
      replace HD := Aside0.mk (Kd.C_below HD.out hb)
      replace HE := Aside0.mk (Kd.C_below HE.out hb)
      replace HF := Aside0.mk (Kd.C_below HF.out hb)
      clear hb
      go_wp2
      go_ret
      exact ⟨rfl, HB.out⟩
     | false =>
      go_wp2_with fail
      refine (sameL_c r HZ.out.1 HZ.out.2 HN4.out HN5.out _ HE.out HF.out).mono ?_
      rintro e w34 ⟨rfl, hb⟩
      replace HB := Aside0.mk (HB.out.trans (hb.mono HB.out.size))
      replace HP := Aside0.mk (Kd.C_below HP.out hb)
      replace HD := Aside0.mk (Kd.C_below HD.out hb)
      replace HE := Aside0.mk (Kd.C_below HE.out hb)
      replace HF := Aside0.mk (Kd.C_below HF.out hb)
      clear hb
      go_wp2
      go_ret
      exact ⟨rfl, HB.out⟩

end Go.Proofs.Ytafijkfhjmdffaa.Pure
