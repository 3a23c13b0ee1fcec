/- An inverse undoes a matrix, there is one just where the matrix is square and of full rank, and a product's rank is no greater than its factors': the walk of the law. No conditions beyond the row's own. -/
import Derived.Test.YtldlldfoaicjcaaPreFnMatrix
import Derived.Test.YtldlldfoaicjcaaMFnMatrixx6
import Derived.Test.YtldlldfoaicjcaaMFnMatrixx0
import Derived.Test.YtldlldfoaicjcaaMFnMatrixx1
import Derived.Test.YtldlldfoaicjcaaMFnMatrixx2
import Derived.Test.YtldlldfoaicjcaaMFnMatrixx3
import Derived.Test.YtldlldfoaicjcaaMFnMatrixx4
import Derived.Test.YtldlldfoaicjcaaMFnMatrixx5
import Derived.Test.YtldlldfoaicjcaaBit
import Derived.Test.YtldlldfoaicjcaaPoly
import Derived.Test.YtldlldfoaicjcaaMat
import Derived.Test.YtldlldfoaicjcaaLin
import Derived.Test.YtldlldfoaicjcaaElim
import Derived.Test.YtldlldfoaicjcaaMx
import Derived.Test.YtldlldfoaicjcaaEnv
import Derived.RegionTactic
import Derived.ChangeAlike
import Derived.BigRegion
import Derived.StillTailTactics
set_option linter.unusedVariables false
set_option linter.unusedSimpArgs false
namespace Go.Proofs.Ytldlldfoaicjcaa.Pure
open Go.RowKit Go.Proofs.Ytldlldfoaicjcaa Go.Proofs.Ytldlldfoaicjcaa.MFnMatrix Go.Proofs.YtldlldfoaicjcaaW.PrintWords Go.Proofs.YtldlldfoaicjcaaW.PrintLast Go.Proofs.Ytldlldfoaicjcaa.Bit
def pvz (k i : Nat) (m : List (List Nat)) : Int := match Mat.pv k (m.drop i) with
  | none => -1
  | some p => (i : Int) + (p : Int)
theorem pvz_end {k n : Nat} {m : List (List Nat)} (h : m.length = n) : pvz k n m = -1 := by
  unfold pvz
  rw [List.drop_eq_nil_of_le (by omega)]; rfl
theorem pvz_step {k i : Nat} {m : List (List Nat)} (h : i < m.length) : pvz k i m = if (m.getD i []).getD k 0 ≠ 0 then (i : Int) else pvz k (i + 1) m := by
  have e : m.getD i [] = m[i] := by rw [List.getD_eq_getElem?_getD, List.getElem?_eq_getElem h]; rfl
  have e2 : Mat.pv k (m[i] :: m.drop (i + 1)) = if m[i].getD k 0 ≠ 0 then some 0 else (Mat.pv k (m.drop (i + 1))).map (· + 1) := rfl
  unfold pvz
  rw [List.drop_eq_getElem_cons h, e, e2]
  by_cases h0 : m[i].getD k 0 ≠ 0
  · rw [if_pos h0, if_pos h0]; show (i : Int) + ((0 : Nat) : Int) = _; omega
  · rw [if_neg h0, if_neg h0]
    cases Mat.pv k (m.drop (i + 1)) with
    | none => rfl
    | some p => show (i : Int) + ((p + 1 : Nat) : Int) = ((i + 1 : Nat) : Int) + (p : Int); omega
def clr1 (m : List (List Nat)) (r k : Nat) : List (List Nat) := match Mat.pv k (m.drop r) with
  | none => m
  | some p => Mat.est m r (r + p) k
def clr2 (m s : List (List Nat)) (r k : Nat) : List (List Nat) := match Mat.pv k (m.drop r) with
  | none => s
  | some p => Mat.est2 m s r (r + p) k
set_option maxHeartbeats 16000000 in
set_option maxRecDepth 100000 in
theorem l2clear_e {w0 w : World} {L : List (Value × Env.It)} (E : Env.Env 23 3 w0 w L) (j1 j2 : Nat) (hj : j1 ≠ j2) {g1 c1 g2 c2 n : Nat} {m s : List (List Nat)} (h1 : L[j1]? = some (.slice (some ⟨g1, 0, none⟩) n c1, .mat (upM m))) (h2 : L[j2]? = some (.slice (some ⟨g2, 0, none⟩) n c2, .mat (upM s)))
    {a b : Nat} (hm : Mat.MB' a m) (hs : Mat.MB' b s) (hmn : m.length = n) (hsn : s.length = n) (ha : a ≤ 100) (hb : b ≤ 100) (hn : n ≤ 100) {r k : Nat} (hr : r < n) (hk : k < a) (hb0 : 0 < b) :
    Calls Try.prog 98 #[.slice (some ⟨g1, 0, none⟩) n c1, .slice (some ⟨g2, 0, none⟩) n c2, .int .i64 (r : Int), .int .i64 (k : Int)] w fun e w' => e = .returned (.bool (Mat.pv k (m.drop r)).isSome) ∧ Env.Env 23 3 w0 w' ((L.set j1 (.slice (some ⟨g1, 0, none⟩) n c1, .mat (upM (clr1 m r k)))).set j2 (.slice (some ⟨g2, 0, none⟩) n c2, .mat (upM (clr2 m s r k)))) := by
  obtain ⟨LX, hLX⟩ : ∃ LX : List (List Nat) → List (List Nat) → List (Value × Env.It), LX = fun Y Z => (L.set j1 (.slice (some ⟨g1, 0, none⟩) n c1, .mat (upM Y))).set j2 (.slice (some ⟨g2, 0, none⟩) n c2, .mat (upM Z)) := ⟨_, rfl⟩
  have eL : LX m s = L := by rw [hLX]; show (L.set j1 _).set j2 _ = L; rw [set_same h1, set_same h2]
  have HL1 := Aside0.mk (show ∀ Y Z, (LX Y Z)[j1]? = some (.slice (some ⟨g1, 0, none⟩) n c1, Env.It.mat (upM Y)) from fun Y Z => by rw [hLX]; show ((L.set j1 _).set j2 _)[j1]? = _; rw [List.getElem?_set_ne (Ne.symm hj)]; exact Env.set_at h1)
  have HL2 := Aside0.mk (show ∀ Y Z, (LX Y Z)[j2]? = some (.slice (some ⟨g2, 0, none⟩) n c2, Env.It.mat (upM Z)) from fun Y Z => by rw [hLX]; exact Env.set_at (x := (.slice (some ⟨g2, 0, none⟩) n c2, .mat (upM s))) (by rw [List.getElem?_set_ne hj]; exact h2))
  have HS1 := Aside0.mk (show ∀ Y Z Y', (LX Y Z).set j1 (.slice (some ⟨g1, 0, none⟩) n c1, .mat (upM Y')) = LX Y' Z from fun Y Z Y' => by rw [hLX]; show ((L.set j1 _).set j2 _).set j1 _ = (L.set j1 _).set j2 _; rw [List.set_comm _ _ hj.symm, List.set_set])
  have HS2 := Aside0.mk (show ∀ Y Z Z', (LX Y Z).set j2 (.slice (some ⟨g2, 0, none⟩) n c2, .mat (upM Z')) = LX Y Z' from fun Y Z Z' => by rw [hLX]; show ((L.set j1 _).set j2 _).set j2 _ = (L.set j1 _).set j2 _; rw [List.set_set])
  have HG := Aside0.mk (show ∀ Y Z, LX Y Z = (L.set j1 (.slice (some ⟨g1, 0, none⟩) n c1, .mat (upM Y))).set j2 (.slice (some ⟨g2, 0, none⟩) n c2, .mat (upM Z)) from fun Y Z => by rw [hLX])
  have HE := Aside0.mk (show Env.Env 23 3 w0 w (LX m s) from by rw [eL]; exact E)
  have HLE := Aside0.mk eL
  have HM := Aside0.mk (show Mat.MB' a m ∧ m.length = n from ⟨hm, hmn⟩)
  have HS := Aside0.mk (show Mat.MB' b s ∧ s.length = n from ⟨hs, hsn⟩)
  have HZ := Aside0.mk (show a ≤ 100 ∧ b ≤ 100 ∧ n ≤ 100 ∧ 0 < b from ⟨ha, hb, hn, hb0⟩)
  have r0 : (0 : Int) ≤ (r : Int) := by omega
  have r1 : (r : Int) ≤ 100 := by omega
  have n1 : (n : Int) ≤ 100 := by omega
  clear E hLX eL h1 h2 hm hs hmn hsn ha hb hn hb0 hj
  go_enter Try.func98, Try.ntmps98
  go_wp2
  go_loopg [9, 10] n (fun gg s9 s10 wr => ∃ (i : Nat) (z : Int), r ≤ i ∧ i ≤ n ∧ i - r ≤ gg ∧ z = (i : Int) - 1 ∧ s10 = .int .i64 z ∧ s9 = .int .i64 (pvz k i m) ∧ wr = w)
  case atStart => exact ⟨n, _, by omega, Nat.le_refl _, by omega, rfl, by go_num, by rw [pvz_end HM.out.2], rfl⟩
  case round =>
    obtain ⟨i, z, hri, hin, hgi, hz, rfl, rfl, rfl⟩ := hrel
    by_cases hlt : r < i
    · obtain ⟨i, rfl⟩ : ∃ i', i = i' + 1 := ⟨i - 1, by omega⟩
      obtain rfl : z = (i : Int) := by omega
      clear hz
      have i0 : (0 : Int) ≤ (i : Int) := by omega
      have i1 : (i : Int) ≤ 100 := by omega
      have q2 : ((r : Int) ≤ (i : Int)) = True := eq_true (by omega)
      have q3 : (r ≤ i) = True := eq_true (by omega)
      have q4 : ((i : Int) < (n : Int)) = True := eq_true (by omega)
      have q5 : (i < n) = True := eq_true (by omega)
      have q6 : ((k : Int) < (a : Int)) = True := eq_true (by omega)
      have q7 : (k < a) = True := eq_true (by omega)
      obtain ⟨g', gi, ci, hA', hh, _, hx, _, _⟩ := HE.out.mput2 (by decide) (HL1.out _ _) (i := i) (q := k) (by rw [upM_length, HM.out.2]; omega) (by rw [upM_getD, Poly.up_length, (HM.out.1.get (i := i) (by rw [HM.out.2]; omega)).1]; exact hk)
      injection hA' with hA'
      injection hA' with hA'
      subst hA'
      rw [upM_getD, Poly.up_length, (HM.out.1.get (i := i) (by rw [HM.out.2]; omega)).1] at hh
      rw [upM_getD, Poly.rd_up] at hx
      have hst := pvz_step (k := k) (m := m) (i := i) (by rw [HM.out.2]; omega)
      have HST := Aside0.mk hst
      clear hst
      generalize (m.getD i []).getD k 0 = x at hx HST
      by_cases hx0 : x = 0
      · have e1 : ((x : Int) != 0) = false := by rw [hx0]; rfl
        have e2 : ((x : Int) == 0) = true := by rw [hx0]; rfl
        have hst := HST.out
        rw [if_neg (by omega)] at hst
        replace HST := Aside0.mk hst
        clear hst hx0
        go_wp2
        go_roundg (i - r)
        case measure => omega
        case rel => exact ⟨i, _, by omega, by omega, by omega, rfl, by go_num, by rw [HST.out], rfl⟩
      · have e1 : ((x : Int) != 0) = true := by rw [bne_iff_ne]; omega
        have e2 : ((x : Int) == 0) = false := by rw [beq_eq_false_iff_ne]; omega
        have hst := HST.out
        rw [if_pos hx0] at hst
        replace HST := Aside0.mk hst
        clear hst hx0
        go_wp2
        go_roundg (i - r)
        case measure => omega
        case rel => exact ⟨i, _, by omega, by omega, by omega, rfl, by go_num, by rw [HST.out], rfl⟩
    · obtain rfl : i = r := by omega
      subst hz
      have q1 : ((i : Int) ≤ (i : Int) - 1) = False := eq_false (by omega)
      have i0 : (0 : Int) ≤ (i : Int) := by omega
      have i1 : (i : Int) ≤ 100 := by omega
      have epz : pvz k i m = match Mat.pv k (m.drop i) with | none => -1 | some p => (i : Int) + (p : Int) := rfl
      cases hpv : Mat.pv k (m.drop i) with
      | none =>
        rw [hpv] at epz
        replace epz : pvz k i m = -1 := epz
        rw [epz]
        have HPV := Aside0.mk hpv
        clear epz hpv
        go_wp2
        go_ret
        refine ⟨by rw [HPV.out]; rfl, ?_⟩
        unfold clr1 clr2
        rw [HPV.out, ← HG.out]
        exact HE.out
      | some p =>
        rw [hpv] at epz
        replace epz : pvz k i m = (i : Int) + (p : Int) := epz
        rw [epz]
        have HPV := Aside0.mk hpv
        have hps := Mat.pv_some hpv
        rw [List.length_drop, HM.out.2] at hps
        have hpn : i + p < n := by omega
        have q2 : ((i : Int) + (p : Int) < 0) = False := eq_false (by omega)
        have q3 : ((i + p : Nat) : Int) = (i : Int) + (p : Int) := by omega
        have hml := HM.out.2
        have hsl := HS.out.2
        have hsw1 := l2swap_e (HE.out) j1 (m := m) (c := c1) (A := some ⟨g1, 0, none⟩) (by rw [hml]; exact HL1.out _ _) (a := i) (b := i + p) (by omega) (by omega)
        rw [hml, HS1.out, q3] at hsw1
        have HSW1 := Aside0.mk hsw1
        have HPP := Aside0.mk (show i + p < n ∧ (0 ≤ (i : Int) + (p : Int)) from ⟨hpn, by omega⟩)
        clear hsw1 hps hpn hpv epz q3 hml hsl
        go_wp2_with fail
        refine HSW1.out.mono ?_
        rintro e w1 ⟨rfl, hE1⟩
        have HE1 := Aside0.mk hE1
        have hsl := HS.out.2
        have hsw2 := l2swap_e (HE1.out) j2 (m := s) (c := c2) (A := some ⟨g2, 0, none⟩) (by rw [hsl]; exact HL2.out _ _) (a := i) (b := i + p) (by rw [hsl]; omega) (by rw [hsl]; exact HPP.out.1)
        rw [hsl, HS2.out, show ((i + p : Nat) : Int) = (i : Int) + (p : Int) by omega] at hsw2
        have HSW2 := Aside0.mk hsw2
        clear hsw2 hsl hE1 HSW1
        go_wp2_with fail
        refine HSW2.out.mono ?_
        rintro e w2 ⟨rfl, hE2⟩
        obtain ⟨M1, hM1⟩ : ∃ M1, M1 = Mat.swp m i (i + p) := ⟨_, rfl⟩
        obtain ⟨S1, hS1⟩ : ∃ S1, S1 = Mat.swp s i (i + p) := ⟨_, rfl⟩
        rw [← hM1, ← hS1] at hE2
        have HM1 := Aside0.mk (show Mat.MB' a M1 ∧ M1.length = n from by rw [hM1]; exact ⟨Mat.swp_MB HM.out.1 (by rw [HM.out.2]; exact hr) (by rw [HM.out.2]; exact HPP.out.1), by rw [Mat.swp_length]; exact HM.out.2⟩)
        have HS1' := Aside0.mk (show Mat.MB' b S1 ∧ S1.length = n from by rw [hS1]; exact ⟨Mat.swp_MB HS.out.1 (by rw [HS.out.2]; exact hr) (by rw [HS.out.2]; exact HPP.out.1), by rw [Mat.swp_length]; exact HS.out.2⟩)
        have HME := Aside0.mk hM1
        have HSE := Aside0.mk hS1
        have HE2 := Aside0.mk hE2
        clear HE HE1 HSW2 hE2 hM1 hS1 q1 q2
        -- the row at i is divided by what it holds at k
        obtain ⟨x, hx⟩ : ∃ x, x = (M1.getD i []).getD k 0 := ⟨_, rfl⟩
        have HXE := Aside0.mk hx
        have hil : i < M1.length := by rw [HM1.out.2]; exact hr
        have hrw := HM1.out.1.get hil
        have HXB := Aside0.mk (show x < 256 from by rw [hx]; exact Poly.AllB.get hrw.2 k)
        obtain ⟨g', gu, cu, hA', hh1, _, hx1, _, _⟩ := HE2.out.mput2 (by decide) (HL1.out M1 S1) (i := i) (q := k) (by rw [upM_length]; exact hil) (by rw [upM_getD, Poly.up_length, hrw.1]; exact hk)
        injection hA' with hA'
        injection hA' with hA'
        subst hA'
        rw [upM_getD, Poly.up_length, hrw.1] at hh1
        rw [upM_getD, Poly.rd_up, ← hx] at hx1
        have hsc := l2scale_e (HE2.out) j1 (m := M1) (c := c1) (g := g1) (by rw [HM1.out.2]; exact HL1.out _ _) HM1.out.1 HZ.out.1 hil hh1 x HXB.out
        rw [HM1.out.2, HS1.out] at hsc
        have HSC := Aside0.mk hsc
        have q4 : ((i : Int) < (n : Int)) = True := eq_true (by omega)
        have q5 : (i < n) = True := eq_true hr
        have q6 : ((k : Int) < (a : Int)) = True := eq_true (by omega)
        have q7 : (k < a) = True := eq_true hk
        have k0 : (0 : Int) ≤ (k : Int) := by omega
        clear hsc hrw hil hx
        go_wp2_with fail
        refine HSC.out.mono ?_
        rintro e w3 ⟨rfl, hE3⟩
        obtain ⟨T, hT⟩ : ∃ T, T = Mat.rscale (Gf.gi x) (M1.getD i []) := ⟨_, rfl⟩
        rw [← hT] at hE3
        have HE3 := Aside0.mk hE3
        have HTE := Aside0.mk hT
        clear HSC hE3 hT HE2 hh1 hx1
        have hil : i < S1.length := by rw [HS1'.out.2]; exact hr
        have hrw := HS1'.out.1.get hil
        obtain ⟨g', gv, cv, hA', hh1, _, hx1, _, _⟩ := HE3.out.mput2 (by decide) (HL2.out _ S1) (i := i) (q := 0) (by rw [upM_length]; exact hil) (by rw [upM_getD, Poly.up_length, hrw.1]; exact HZ.out.2.2.2)
        injection hA' with hA'
        injection hA' with hA'
        subst hA'
        rw [upM_getD, Poly.up_length, hrw.1] at hh1
        have hsc := l2scale_e (HE3.out) j2 (m := S1) (c := c2) (g := g2) (by rw [HS1'.out.2]; exact HL2.out _ _) HS1'.out.1 HZ.out.2.1 hil hh1 x HXB.out
        rw [HS1'.out.2, HS2.out] at hsc
        have HSC := Aside0.mk hsc
        clear hsc hrw hil hx1
        go_wp2_with fail
        refine HSC.out.mono ?_
        rintro e w4 ⟨rfl, hE4⟩
        obtain ⟨U, hU⟩ : ∃ U, U = Mat.rscale (Gf.gi x) (S1.getD i []) := ⟨_, rfl⟩
        rw [← hU] at hE4
        have HE4 := Aside0.mk hE4
        have HUE := Aside0.mk hU
        clear HSC hE4 hU HE3 hh1
        -- the others are lessened
        obtain ⟨C, hC⟩ : ∃ C, C = Mat.col k M1 := ⟨_, rfl⟩
        have HCE := Aside0.mk hC
        have HCB := Aside0.mk (show Poly.AllB C from by rw [hC]; exact Mat.col_bytes HM1.out.1 k)
        have HCA := Aside0.mk (show ∀ q, C.getD q 0 = (M1.getD q []).getD k 0 from fun q => by rw [hC]; exact Mat.col_at k M1 q)
        have HCL := Aside0.mk (show C.length = (M1.set i T).length from by rw [hC, Mat.col_length, List.length_set])
        have HCL2 := Aside0.mk (show C.length = (S1.set i U).length from by rw [hC, Mat.col_length, List.length_set, HM1.out.2, HS1'.out.2])
        have HNL := Aside0.mk (show (M1.set i T).length = n from by rw [List.length_set]; exact HM1.out.2)
        have HNL2 := Aside0.mk (show (S1.set i U).length = n from by rw [List.length_set]; exact HS1'.out.2)
        have HTL := Aside0.mk (show T.length = a ∧ Poly.AllB T from by rw [HTE.out]; have h9 := HM1.out.1.get (i := i) (by rw [HM1.out.2]; exact hr); exact ⟨by rw [Mat.rscale_length]; exact h9.1, Mat.rscale_bytes _ h9.2⟩)
        have HUL := Aside0.mk (show U.length = b ∧ Poly.AllB U from by rw [HUE.out]; have h9 := HS1'.out.1.get (i := i) (by rw [HS1'.out.2]; exact hr); exact ⟨by rw [Mat.rscale_length]; exact h9.1, Mat.rscale_bytes _ h9.2⟩)
        have HB2 := Aside0.mk (show Mat.MB' a (M1.set i T) ∧ Mat.MB' b (S1.set i U) from ⟨HM1.out.1.set i HTL.out, HS1'.out.1.set i HUL.out⟩)
        have HMR := Aside0.mk (show (M1.set i T).getD i [] = T ∧ (S1.set i U).getD i [] = U from ⟨by rw [Mat.getD_setL _ _ _ _ (by rw [HM1.out.2]; exact hr), if_pos rfl], by rw [Mat.getD_setL _ _ _ _ (by rw [HS1'.out.2]; exact hr), if_pos rfl]⟩)
        have HMO := Aside0.mk (show ∀ q, ¬ q = i → (M1.set i T).getD q [] = M1.getD q [] from fun q hq => by rw [Mat.getD_setL _ _ _ _ (by rw [HM1.out.2]; exact hr), if_neg hq])
        have HEZ := Aside0.mk (show Env.Env 23 3 w0 w4 (LX (Mat.erT T i C (M1.set i T) 0) (Mat.erT U i C (S1.set i U) 0)) from by rw [Mat.erT_zero, Mat.erT_zero]; exact HE4.out)
        clear hC HE4
        go_wp2
        go_loopg [62] n (fun gg s62 wq => ∃ q : Nat, q ≤ n ∧ n - q ≤ gg ∧ s62 = .int .i64 q ∧ Aside0 (Env.Env 23 3 w0 wq (LX (Mat.erT T i C (M1.set i T) q) (Mat.erT U i C (S1.set i U) q))))
        case atStart => exact ⟨0, Nat.zero_le _, by omega, rfl, HEZ⟩
        case round =>
          clear HEZ
          obtain ⟨q, hq', hgq, rfl, HSI⟩ := hrel
          have z0 : (0 : Int) ≤ (q : Int) := by omega
          have z1 : (q : Int) ≤ 100 := by omega
          by_cases hqn : q < n
          · have hYl : (Mat.erT T i C (M1.set i T) q).length = n := by rw [Mat.erT_length HCL.out]; exact HNL.out
            have hYi : (Mat.erT T i C (M1.set i T) q).getD q [] = (M1.set i T).getD q [] := by
              rw [List.getD_eq_getElem?_getD, Mat.erT_at HCL.out (Nat.le_refl _) (by rw [HNL.out]; exact hqn)]; rfl
            have hYr : (Mat.erT T i C (M1.set i T) q).getD i [] = T := by rw [Mat.erT_top HCL.out q (by rw [HNL.out]; exact hr)]; exact HMR.out.1
            have hY2l : (Mat.erT U i C (S1.set i U) q).length = n := by rw [Mat.erT_length HCL2.out]; exact HNL2.out
            have hY2i : (Mat.erT U i C (S1.set i U) q).getD q [] = (S1.set i U).getD q [] := by
              rw [List.getD_eq_getElem?_getD, Mat.erT_at HCL2.out (Nat.le_refl _) (by rw [HNL2.out]; exact hqn)]; rfl
            have hY2r : (Mat.erT U i C (S1.set i U) q).getD i [] = U := by rw [Mat.erT_top HCL2.out q (by rw [HNL2.out]; exact hr)]; exact HMR.out.2
            have hstep := Mat.erT_succ (top := T) (a := i) HCL.out (i := q) (by rw [HNL.out]; exact hqn)
            have hstep2 := Mat.erT_succ (top := U) (a := i) HCL2.out (i := q) (by rw [HNL2.out]; exact hqn)
            have hMB : Mat.MB' a (Mat.erT T i C (M1.set i T) q) := fun y hy => by
              unfold Mat.erT at hy
              rcases List.mem_append.1 hy with h9 | h9
              · exact Mat.er_MB HTL.out.1 0 (fun z hz => HCB.out z (List.mem_of_mem_take hz)) (fun z hz => HB2.out.1 z (List.mem_of_mem_take hz)) y h9
              · exact HB2.out.1 y (List.mem_of_mem_drop h9)
            have hMB2 : Mat.MB' b (Mat.erT U i C (S1.set i U) q) := fun y hy => by
              unfold Mat.erT at hy
              rcases List.mem_append.1 hy with h9 | h9
              · exact Mat.er_MB HUL.out.1 0 (fun z hz => HCB.out z (List.mem_of_mem_take hz)) (fun z hz => HB2.out.2 z (List.mem_of_mem_take hz)) y h9
              · exact HB2.out.2 y (List.mem_of_mem_drop h9)
            have hra := HB2.out.1.get (i := q) (by rw [HNL.out]; exact hqn)
            have hrb := HB2.out.2.get (i := q) (by rw [HNL2.out]; exact hqn)
            obtain ⟨Z, hZ⟩ : ∃ Z, Z = Mat.erT T i C (M1.set i T) q := ⟨_, rfl⟩
            obtain ⟨V, hV⟩ : ∃ V, V = Mat.erT U i C (S1.set i U) q := ⟨_, rfl⟩
            rw [← hZ] at hYl hYi hYr hstep HSI hMB
            rw [← hV] at hY2l hY2i hY2r hstep2 HSI hMB2
            obtain ⟨y, hy⟩ : ∃ y, y = (Z.getD q []).getD k 0 := ⟨_, rfl⟩
            have hyc : ¬ q = i → y = C.getD q 0 := fun h => by rw [hy, hYi, HMO.out q h, HCA.out]
            have HYB := Aside0.mk (show y < 256 from by rw [hy, hYi]; exact Poly.AllB.get hra.2 k)
            obtain ⟨g', gi, ci, hA', hh, _, hx, _, _⟩ := HSI.out.mput2 (by decide) (HL1.out Z V) (i := q) (q := k) (by rw [upM_length, hYl]; exact hqn) (by rw [upM_getD, hYi, Poly.up_length, hra.1]; exact hk)
            injection hA' with hA'
            injection hA' with hA'
            subst hA'
            rw [upM_getD, hYi, Poly.up_length, hra.1] at hh
            rw [upM_getD, Poly.rd_up, ← hy] at hx
            have p3 : ((q : Int) < (n : Int)) = True := eq_true (by omega)
            have p4 : (q < n) = True := eq_true hqn
            by_cases hwk : q = i ∨ y = 0
            · have hst : Mat.erT T i C (M1.set i T) (q + 1) = Z ∧ Mat.erT U i C (S1.set i U) (q + 1) = V := by
                rw [← hstep, ← hstep2]
                unfold Mat.erow
                by_cases hqi : q = i
                · rw [if_pos hqi, if_pos hqi, ← hYi, ← hY2i]; exact ⟨Mat.set_self _ _, Mat.set_self _ _⟩
                · have hy0 : C.getD q 0 = 0 := by rw [← hyc hqi]; exact hwk.resolve_left hqi
                  rw [if_neg hqi, if_neg hqi, hy0, Mat.radd_nul (by rw [hra.1, HTL.out.1]), Mat.radd_nul (by rw [hrb.1, HUL.out.1]), ← hYi, ← hY2i]; exact ⟨Mat.set_self _ _, Mat.set_self _ _⟩
              have HST := Aside0.mk hst
              clear hst hstep hstep2 hYl hYi hYr hY2l hY2i hY2r hMB hMB2 hra hrb hyc hZ hV hy
              by_cases hqi : q = i
              · have e1 : ((q : Int) != (i : Int)) = false := by rw [hqi]; simp
                have e2 : ((q : Int) == (i : Int)) = true := by rw [hqi]; simp
                clear hwk hqi
                go_wp2
                go_roundg (n - (q + 1))
                case measure => omega
                case rel => exact ⟨q + 1, by omega, by omega, by go_num, ⟨by rw [HST.out.1, HST.out.2]; exact HSI.out⟩⟩
              · have hy0 : y = 0 := hwk.resolve_left hqi
                subst hy0
                have e1 : ((q : Int) != (i : Int)) = true := by rw [bne_iff_ne]; omega
                have e2 : ((q : Int) == (i : Int)) = false := by rw [beq_eq_false_iff_ne]; omega
                clear hwk hqi
                go_wp2
                go_roundg (n - (q + 1))
                case measure => omega
                case rel => exact ⟨q + 1, by omega, by omega, by go_num, ⟨by rw [HST.out.1, HST.out.2]; exact HSI.out⟩⟩
            · have hqi : ¬ q = i := fun h => hwk (.inl h)
              have hy0 : ¬ y = 0 := fun h => hwk (.inr h)
              have e1 : ((q : Int) != (i : Int)) = true := by rw [bne_iff_ne]; omega
              have e2 : ((q : Int) == (i : Int)) = false := by rw [beq_eq_false_iff_ne]; omega
              have e3 : ((y : Int) != 0) = true := by rw [bne_iff_ne]; omega
              have e4 : ((y : Int) == 0) = false := by rw [beq_eq_false_iff_ne]; omega
              have hst1 : Z.set q (Mat.radd y (Z.getD q []) (Z.getD i [])) = Mat.erT T i C (M1.set i T) (q + 1) := by
                rw [← hstep]; unfold Mat.erow; rw [if_neg hqi, ← hyc hqi, hYi, hYr]
              have hst2 : V.set q (Mat.radd y (V.getD q []) (V.getD i [])) = Mat.erT U i C (S1.set i U) (q + 1) := by
                rw [← hstep2]; unfold Mat.erow; rw [if_neg hqi, ← hyc hqi, hY2i, hY2r]
              have HQ := HSI.out.drewN 1
              obtain ⟨g', gt, ct, hA', ht, _, _, _, _⟩ := HQ.mput2 (by decide) (HL1.out Z V) (i := i) (q := k) (by rw [upM_length, hYl]; exact hr) (by rw [upM_getD, hYr, Poly.up_length, HTL.out.1]; exact hk)
              injection hA' with hA'
              injection hA' with hA'
              subst hA'
              rw [upM_getD, hYr, Poly.up_length, HTL.out.1] at ht
              have hadd := l2addM_e HQ j1 (m := Z) (c := c1) (g := g1) (by rw [hYl]; exact HL1.out _ _) hMB HZ.out.1 (i := q) (r := i) (by rw [hYl]; exact hqn) (by rw [hYl]; exact hr) hqi hh ht y HYB.out
              rw [hYl, hst1, HS1.out] at hadd
              have HAD := Aside0.mk hadd
              have hh0 : wr.cell? ⟨g1, q, none⟩ = some (.slice (some ⟨gi, 0, none⟩) a ci) := hh
              have ht0 : wr.cell? ⟨g1, i, none⟩ = some (.slice (some ⟨gt, 0, none⟩) a ct) := ht
              have HS2B := Aside0.mk (show Mat.MB' b V ∧ V.length = n ∧ (V.getD q []).length = b ∧ (V.getD i []).length = b from ⟨hMB2, hY2l, by rw [hY2i]; exact hrb.1, by rw [hY2r]; exact HUL.out.1⟩)
              have HST2 := Aside0.mk hst2
              have HQI := Aside0.mk hqi
              clear hh ht hst1 hst2 hadd HQ hstep hstep2 hYl hYi hYr hY2l hY2i hY2r hMB hMB2 hra hrb hyc hZ hV hy hwk hqi hy0
              go_wp2_with fail
              go_still_tail 9, (by kernel_rfl)
              change wpList _ _ _ _ _ (wr.drewN 1)
              go_wp2_with fail
              refine HAD.out.mono ?_
              rintro e w5 ⟨rfl, hE5⟩
              have HQ := hE5.drewN 1
              obtain ⟨g', gp, cp, hA', hh, _, _, _, _⟩ := HQ.mput2 (by decide) (HL2.out _ V) (i := q) (q := 0) (by rw [upM_length, HS2B.out.2.1]; exact hqn) (by rw [upM_getD, Poly.up_length, HS2B.out.2.2.1]; exact HZ.out.2.2.2)
              injection hA' with hA'
              injection hA' with hA'
              subst hA'
              obtain ⟨g', gt', ct', hA', ht, _, _, _, _⟩ := HQ.mput2 (by decide) (HL2.out _ V) (i := i) (q := 0) (by rw [upM_length, HS2B.out.2.1]; exact hr) (by rw [upM_getD, Poly.up_length, HS2B.out.2.2.2]; exact HZ.out.2.2.2)
              injection hA' with hA'
              injection hA' with hA'
              subst hA'
              rw [upM_getD, Poly.up_length, HS2B.out.2.2.1] at hh
              rw [upM_getD, Poly.up_length, HS2B.out.2.2.2] at ht
              have hadd := l2addM_e HQ j2 (m := V) (c := c2) (g := g2) (by rw [HS2B.out.2.1]; exact HL2.out _ _) HS2B.out.1 HZ.out.2.1 (i := q) (r := i) (by rw [HS2B.out.2.1]; exact hqn) (by rw [HS2B.out.2.1]; exact hr) HQI.out hh ht y HYB.out
              rw [HS2B.out.2.1, HST2.out, HS2.out] at hadd
              have HAD2 := Aside0.mk hadd
              have hh5 : w5.cell? ⟨g2, q, none⟩ = some (.slice (some ⟨gp, 0, none⟩) b cp) := hh
              have ht5 : w5.cell? ⟨g2, i, none⟩ = some (.slice (some ⟨gt', 0, none⟩) b ct') := ht
              clear hh ht hadd HQ hE5 HAD hh0 ht0 hx
              go_wp2_with fail
              go_still_tail 9, (by kernel_rfl)
              change wpList _ _ _ _ _ (w5.drewN 1)
              go_wp2_with fail
              refine HAD2.out.mono ?_
              rintro e w6 ⟨rfl, hE6⟩
              have HE6 := Aside0.mk hE6
              clear hE6 HAD2 hh5 ht5
              go_wp2
              go_roundg (n - (q + 1))
              case measure => omega
              case rel => exact ⟨q + 1, by omega, by omega, by go_num, HE6⟩
          · have hqe : q = n := by omega
            have p3 : ((q : Int) < (n : Int)) = False := eq_false (by omega)
            have hest : Mat.erT T i C (M1.set i T) q = Mat.est m i (i + p) k := by
              rw [hqe, ← HNL.out, Mat.erT_all HCL.out]
              unfold Mat.est
              rw [← HME.out]
              unfold Mat.top
              rw [← HXE.out, ← HTE.out, ← HCE.out]
            have hest2 : Mat.erT U i C (S1.set i U) q = Mat.est2 m s i (i + p) k := by
              rw [hqe, ← HNL2.out, Mat.erT_all HCL2.out]
              unfold Mat.est2
              rw [← HME.out, ← HSE.out]
              unfold Mat.top
              rw [← HXE.out, ← HUE.out, ← HCE.out]
            have hE7 := HSI.out
            rw [hest, hest2, HG.out] at hE7
            have HE7 := Aside0.mk hE7
            clear hE7 hest hest2 HSI hqe
            go_wp2
            go_ret
            refine ⟨by rw [HPV.out]; rfl, ?_⟩
            unfold clr1 clr2
            rw [HPV.out]
            exact HE7.out

def gj : Nat → Nat → List (List Nat) → List (List Nat) → Option (List (List Nat))
  | 0, _, _, s => some s
  | d + 1, k, m, s => match Mat.pv k (m.drop k) with
    | none => none
    | some _ => gj d (k + 1) (clr1 m k k) (clr2 m s k k)
theorem gj_sv : ∀ (d k : Nat) (m s : List (List Nat)), k + d = m.length → gj d k m s = if (Mat.sv d k k m).2 < m.length then none else some (Mat.sv2 d k k m s)
  | 0, k, m, s, h => by
    show some s = if k < m.length then none else some s
    rw [if_neg (by omega)]
  | d + 1, k, m, s, h => by
    cases hp : Mat.pv k (m.drop k) with
    | none =>
      have h9 := Mat.sv_le d (k + 1) k m
      have e1 : Mat.sv (d + 1) k k m = Mat.sv d (k + 1) k m := by conv => lhs; unfold Mat.sv; rw [hp]
      have e3 : gj (d + 1) k m s = none := by unfold gj; rw [hp]
      rw [e3, e1, if_pos (by omega)]
    | some p =>
      have e1 : Mat.sv (d + 1) k k m = if k + 1 = m.length then (Mat.est m k (k + p) k, k + 1) else Mat.sv d (k + 1) (k + 1) (Mat.est m k (k + p) k) := by conv => lhs; unfold Mat.sv; rw [hp]
      have e2 : Mat.sv2 (d + 1) k k m s = if k + 1 = m.length then Mat.est2 m s k (k + p) k else Mat.sv2 d (k + 1) (k + 1) (Mat.est m k (k + p) k) (Mat.est2 m s k (k + p) k) := by conv => lhs; unfold Mat.sv2; rw [hp]
      have e3 : gj (d + 1) k m s = gj d (k + 1) (Mat.est m k (k + p) k) (Mat.est2 m s k (k + p) k) := by conv => lhs; unfold gj clr1 clr2; rw [hp]
      by_cases hk : k + 1 = m.length
      · rw [if_pos hk] at e1 e2
        rw [e3, e1, e2, if_neg (by show ¬ k + 1 < m.length; omega)]
        obtain rfl : d = 0 := by omega
        rfl
      · rw [if_neg hk] at e1 e2
        have ih := gj_sv d (k + 1) (Mat.est m k (k + p) k) (Mat.est2 m s k (k + p) k) (by rw [Mat.est_length]; omega)
        rw [Mat.est_length] at ih
        rw [e3, e1, e2, ih]
theorem gj_inv (m : List (List Nat)) : gj m.length 0 m (Mat.idM m.length) = Mat.inv m := gj_sv m.length 0 m (Mat.idM m.length) (by omega)
theorem clr1_MB {c : Nat} {m : List (List Nat)} (h : Mat.MB' c m) (r k : Nat) (hr : r < m.length) : Mat.MB' c (clr1 m r k) := by
  unfold clr1
  cases hp : Mat.pv k (m.drop r) with
  | none => exact h
  | some p =>
    have h9 := (Mat.pv_some hp).1
    rw [List.length_drop] at h9
    exact Mat.est_MB h k hr (by omega)
theorem clr1_length (m : List (List Nat)) (r k : Nat) : (clr1 m r k).length = m.length := by
  unfold clr1
  split
  · rfl
  · exact Mat.est_length ..
theorem clr2_MB {c d : Nat} {m s : List (List Nat)} (h : Mat.MB' c m) (hs : Mat.MB' d s) (hl : s.length = m.length) (r k : Nat) (hr : r < m.length) : Mat.MB' d (clr2 m s r k) := by
  unfold clr2
  cases hp : Mat.pv k (m.drop r) with
  | none => exact hs
  | some p =>
    have h9 := (Mat.pv_some hp).1
    rw [List.length_drop] at h9
    exact Mat.est2_MB h hs hl k hr (by omega)
theorem clr2_length {m s : List (List Nat)} (hl : s.length = m.length) (r k : Nat) : (clr2 m s r k).length = m.length := by
  unfold clr2
  split
  · exact hl
  · rw [Mat.est2_length hl]
def invW (m : List (List Nat)) : List (List Int) × Bool := match Mat.inv m with
  | none => ([], false)
  | some s => (upM s, true)

theorem pv_fidx {k : Nat} : ∀ (M : List (List Nat)) (i : Int), fidx (fun row : List Int => rd row (k : Int) != 0) (upM M) i = match Mat.pv k M with | none => -1 | some j => i + (j : Int)
  | [], i => rfl
  | r :: M, i => by
    have ih := pv_fidx (k := k) M (i + 1)
    have eU : Mat.pv k (r :: M) = if r.getD k 0 ≠ 0 then some 0 else (Mat.pv k M).map (· + 1) := rfl
    have e : (rd (Poly.up r) (k : Int) != 0) = decide (r.getD k 0 ≠ 0) := by
      rw [Poly.rd_up, Bool.eq_iff_iff, bne_iff_ne, decide_eq_true_eq]; omega
    show (if (rd (Poly.up r) (k : Int) != 0) = true then i else fidx _ (upM M) (i + 1)) = _
    rw [e, ih, eU]
    by_cases h : r.getD k 0 ≠ 0
    · rw [decide_eq_true h, if_pos rfl, if_pos h]; simp
    · rw [decide_eq_false h, if_neg (by decide), if_neg h]
      cases Mat.pv k M with
      | none => rfl
      | some j => show i + 1 + (j : Int) = i + ((j + 1 : Nat) : Int); omega

set_option maxHeartbeats 4000000 in
theorem scan_solved_idx (p : List Int → Bool) (k0 : Value) (A : Option Addr) (c : Nat) (l : List (List Int)) (w : World) (hr : Kd.C (Kd.slice 3 (Kd.int .i64)) w A l.length l) (hc : l.length ≤ c) (hone : ∀ (q : Nat) (A1 : Option Addr) (c1 : Nat) (x : List Int), x ∈ l → (Kd.int .i64).C (w.drewN q) A1 x.length x → x.length ≤ c1 → Calls Try.prog 171 #[.slice A1 x.length c1, k0] (w.drewN q) fun e w' => e = .returned (.bool (p x)) ∧ ∃ q', w' = (w.drewN q).drewN q') :
    Calls Try.prog 170 #[.slice A l.length c, .func (.func 171) #[] #[k0]] w fun e w' => e = .returned (.int .i64 (fidx p l 0)) ∧ Drawn0 w w' := by
  have hn : l.length ≤ 9223372036854775807 := hr.2.1
  have HR := Aside0.mk hr
  have HC := Aside0.mk hc
  have HO := Aside0.mk hone
  clear hr hc hone
  have eg : ∀ args w, (callFunc 171 args).run Try.prog w = .ok (.enter 171 args) w := enters_of Try.func171 (by kernel_rfl) rfl
  go_enter Try.func170, Try.ntmps170
  go_wp2
  go_loopg [5, 8] l.length (fun gg _ s8 wr => ∃ kk q : Nat, kk ≤ l.length ∧ l.length - kk ≤ gg ∧ s8 = .int .i64 kk ∧ wr = w.drewN q ∧ Aside0 (fidx p (l.drop kk) kk = fidx p l 0))
  case atStart => exact ⟨0, 0, Nat.zero_le _, by omega, rfl, rfl, ⟨rfl⟩⟩
  case round =>
    obtain ⟨kk, q, hkk, hg, rfl, rfl, E⟩ := hrel
    by_cases hlt : kk < l.length
    · have hltz : (kk : Int) < (l.length : Int) := by omega
      obtain ⟨ad, A1, c1, ea, hx, hl1, hi⟩ := Mx.rows_at HR.out kk hlt hlt
      cases ea
      have E2 := Aside0.mk (List.drop_eq_getElem_cons hlt)
      have ED := E.out
      rw [E2.out, fidx_cons] at ED
      have hcall := HO.out q A1 c1 l[kk] (List.getElem_mem hlt) (Kd.C_drewN hi q) hl1
      clear hi
      generalize l[kk] = y at hx hl1 hcall ED
      cases hq : p y with
      | true =>
        rw [if_pos hq] at ED
        have ED' := Aside0.mk ED
        clear ED
        rw [hq] at hcall
        go_wp2_with (go_at_fn 171; refine hcall.mono ?_; rintro e w' ⟨rfl, q', rfl⟩)
        go_ret
        exact ⟨congrArg (fun z => Ending.returned (Value.int .i64 z)) ED'.out, ⟨_, rfl⟩⟩
      | false =>
        rw [if_neg (by rw [hq]; decide)] at ED
        have ED' := Aside0.mk ED
        clear ED
        rw [hq] at hcall
        go_wp2_with (go_at_fn 171; refine hcall.mono ?_; rintro e w' ⟨rfl, q', rfl⟩)
        go_roundg (l.length - (kk + 1))
        case measure => omega
        case rel => exact ⟨kk + 1, _, by omega, by omega, by go_num, rfl, ⟨by rw [← ED'.out]; congr 1⟩⟩
    · have : kk = l.length := by omega
      subst this
      go_wp2
      go_ret
      refine ⟨?_, ⟨q, rfl⟩⟩
      have := E.out
      rw [List.drop_length] at this
      rw [← this]
      rfl

set_option maxHeartbeats 4000000 in
theorem impl_solved_one (g k : Nat) (A : Option Addr) (c : Nat) (row : List Int) (w : World) (hg : w.cell? ⟨g, 0, none⟩ = some (.int .i64 (k : Int))) (hk : k < row.length) (hr : (Kd.int .i64).C w A row.length row) :
    Calls Try.prog 171 #[.slice A row.length c, .pointer (some ⟨g, 0, none⟩)] w fun e w' => e = .returned (.bool (rd row (k : Int) != 0)) ∧ ∃ q', w' = w.drewN q' := by
  obtain ⟨ad, rfl, hx⟩ := Kd.at_int hr (k : Int) (by omega) (by omega)
  rw [Int.toNat_natCast] at hx
  have p1 : ((k : Int) < (row.length : Int)) = True := eq_true (by omega)
  have p2 : (k < row.length) = True := eq_true hk
  have p3 : (0 ≤ (k : Int)) = True := eq_true (by omega)
  generalize rd row (k : Int) = x at hx ⊢
  clear hr hk
  by_cases h : x = 0
  · subst h
    go_enter Try.func171, Try.ntmps171
    go_wp2
    go_ret
    exact ⟨rfl, 0, rfl⟩
  · have q1 : (x != 0) = true := bne_iff_ne.mpr h
    have q2 : (x == 0) = false := beq_eq_false_iff_ne.mpr h
    rw [q1]
    clear h
    go_enter Try.func171, Try.ntmps171
    go_wp2
    go_ret
    exact ⟨rfl, 0, rfl⟩
def T_so12 : Bool × List (List Nat × List Nat) := (true, [([], []), ([], []), ([0, 1], [0, 1]), ([2], [2]), ([], []), ([], []), ([], []), ([5, 6], [5, 6]), ([7], [7]), ([], []), ([8, 9], [8, 9]), ([10], [10]), ([], []), ([11, 12], [11, 12]), ([3, 4, 0, 1, 2, 3, 4, 5, 6, 7, 8, 9, 10, 11, 12, 13], [3, 4]), ([14, 13, 13, 0, 1, 2, 3, 4, 5, 6, 7, 8, 9, 10, 11, 12, 13], [13, 14])])
def B_so12 : List Nat := [0, 0, 3, 7, 0, 0, 0, 96, 224, 0, 992, 2016, 0, 8160, 16383, 32767]
theorem tab_so12 : rtab .any (opsOf Try.f96 12) = T_so12 := by kernel_rfl
theorem bits_so12 : waitsOk T_so12.2 B_so12 = true := by kernel_rfl
def T_so22 : Bool × List (List Nat × List Nat) := (true, [([], []), ([], []), ([0, 1], [0, 1]), ([2], [2]), ([], []), ([], []), ([], []), ([5, 6], [5, 6]), ([7], [7]), ([], []), ([8, 9], [8, 9]), ([10], [10]), ([4, 11], [4, 11]), ([3, 12], [3, 12]), ([0, 1, 0, 1, 2, 3, 4, 5, 6, 7, 8, 9, 10, 11, 12, 13], [0, 1]), ([14, 13, 12, 0, 1, 2, 3, 4, 5, 6, 7, 8, 9, 10, 11, 12, 13], [13, 14])])
def B_so22 : List Nat := [0, 0, 3, 7, 0, 0, 0, 96, 224, 0, 992, 2016, 4080, 8191, 16383, 32767]
theorem tab_so22 : rtab .any (opsOf Try.f96 22) = T_so22 := by kernel_rfl
theorem bits_so22 : waitsOk T_so22.2 B_so22 = true := by kernel_rfl
set_option maxHeartbeats 16000000 in
set_option maxRecDepth 100000 in
theorem solved_e {w0 w : World} {L : List (Value × Env.It)} (E : Env.Env 23 3 w0 w L) (j : Nat) {A : Option Addr} {c : Nat} {m : List (List Nat)} (hj : L[j]? = some (.slice A m.length c, .mat (upM m))) {cc : Nat} (hm : Mat.MB' cc m) (d : Nat) (hd : d ≤ cc) (hc : cc ≤ 100) (h0 : 0 < m.length) (hl : m.length ≤ 100) :
    Calls Try.prog 96 #[.slice A m.length c, .int .i64 (d : Int)] w fun e w' => e = .returned (.int .i64 (((Mat.sv d 0 0 m).2 : Nat) : Int)) ∧ Env.Env 23 3 w0 w' (L.set j (.slice A m.length c, .mat (upM (Mat.sv d 0 0 m).1))) := by
  obtain ⟨n, hn⟩ : ∃ n, n = m.length := ⟨_, rfl⟩
  rw [← hn] at hj h0 hl ⊢
  have hcap := E.cap (by decide) j hj
  obtain ⟨g, _, _, hA, _⟩ := E.mrow (by decide) hj (i := 0) (by rw [upM_length]; omega)
  subst hA
  have HJ := Aside0.mk hj
  have HM := Aside0.mk hm
  have HN := Aside0.mk hn
  have HD := Aside0.mk (show d ≤ cc ∧ cc ≤ 100 ∧ n ≤ 100 ∧ n ≤ c from ⟨hd, hc, hl, hcap⟩)
  have HX : ∀ M : List (List Nat), (L.set j (.slice (some ⟨g, 0, none⟩) n c, .mat (upM M)))[j]? = some (.slice (some ⟨g, 0, none⟩) n c, .mat (upM M)) := fun M => Env.set_at hj
  have HXX := Aside0.mk HX
  have E0 : Env.Env 23 3 w0 w (L.set j (.slice (some ⟨g, 0, none⟩) n c, .mat (upM m))) := by
    have : L.set j (.slice (some ⟨g, 0, none⟩) n c, .mat (upM m)) = L := by
      apply List.ext_getElem?
      intro i
      by_cases h : j = i
      · subst h; rw [Env.set_at hj, hj]
      · rw [List.getElem?_set_ne h]
    rw [this]; exact E
  have HE := Aside0.mk E0
  have d100 : (d : Int) ≤ 100 := by omega
  clear E E0 HX hj hm hn hd hc hl hcap
  go_enter Try.func96, Try.ntmps96
  go_wp2
  go_loopg [5, 15] d (fun gg s5 s15 wr => ∃ (k r : Nat) (M : List (List Nat)), k ≤ d ∧ d - k ≤ gg ∧ s15 = .int .i64 k ∧ s5 = .int .i64 r ∧ r < n ∧ Aside0 (M.length = n ∧ Mat.MB' cc M ∧ r ≤ k ∧ Mat.sv (d - k) k r M = Mat.sv d 0 0 m) ∧ Aside0 (Env.Env 23 3 w0 wr (L.set j (.slice (some ⟨g, 0, none⟩) n c, .mat (upM M)))))
  case atStart => exact ⟨0, 0, m, Nat.zero_le _, by omega, rfl, rfl, h0, ⟨HN.out.symm, HM.out, Nat.le_refl _, rfl⟩, HE⟩
  case round =>
    clear HE HJ
    obtain ⟨k, r, M, hk', hg', rfl, rfl, hrn, HMM, ENV⟩ := hrel
    by_cases hlt : k < d
    · have k0 : (0 : Int) ≤ (k : Int) := by omega
      have k1 : (k : Int) < 100 := by omega
      have r0 : (0 : Int) ≤ (r : Int) := by omega
      have r1 : (r : Int) < 100 := by have := HD.out; omega
      have p1 : decide ((k : Int) < (d : Int)) = true := decide_eq_true (by omega)
      have p2 : decide (k < d) = true := decide_eq_true hlt
      obtain ⟨i0, hi0, _, hsz, _⟩ := info_parts infoR
      have hcut := cut_from (P := Try.prog) 22 23 .i64 Try.underlying22 hi0 1 hsz (some ⟨g, 0, none⟩) n c (r : Int) r0 (by omega)
      clear hi0 hsz
      have hMl : (M.drop r).length = n - r := by rw [List.length_drop, HMM.out.1]
      have hcr : ¬ c = r := by have := HD.out; omega
      have hE1 := ENV.out.box (k : Int)
      have hC1 := Kd.C_drop (m := r) (hE1.C (by decide) (j + 1) (HXX.out M)) (by rw [upM_length, HMM.out.1]; omega) (by rw [upM_length, HMM.out.1]; exact HD.out.2.2.2)
      rw [if_neg hcr] at hC1
      have eA : (some (⟨g, 0, none⟩ : Addr)).map (·.add (r * (Kd.slice 3 (Kd.int .i64)).sz)) = some ⟨g, r, none⟩ := by
        show some ((⟨g, 0, none⟩ : Addr).add (r * 1)) = _
        rw [Nat.mul_one, add_plain]
      have eD : (upM M).drop r = upM (M.drop r) := by unfold upM; rw [List.map_drop]
      rw [eA, eD] at hC1
      have hscan := scan_solved_idx (fun row : List Int => rd row (k : Int) != 0) (.pointer (some ⟨wr.heap.size, 0, none⟩)) (some ⟨g, r, none⟩) (c - r) (upM (M.drop r)) _ hC1 (by rw [upM_length, hMl]; have := HD.out; omega) (fun q A1 c1 x hx hxC hxc => impl_solved_one wr.heap.size k A1 c1 x _ ((blk_cell (blk_new wr _) 0).trans rfl) (by
        obtain ⟨y, hy, rfl⟩ := List.mem_map.1 hx
        have h8 := (HMM.out.2.1 y (List.mem_of_mem_drop hy)).1
        have h9 := HD.out
        rw [Poly.up_length]; omega) hxC)
      rw [pv_fidx, upM_length, hMl] at hscan
      have c1 : (c = r) = False := eq_false hcr
      have HE1 := Aside0.mk hE1
      clear hC1 eA eD hE1 hMl hcr
      cases hpv : Mat.pv k (M.drop r) with
      | none =>
        rw [hpv] at hscan
        have hsv : Mat.sv (d - (k + 1)) (k + 1) r M = Mat.sv d 0 0 m := by
          rw [← HMM.out.2.2.2, show d - k = (d - (k + 1)) + 1 by omega]
          conv => rhs; unfold Mat.sv
          rw [hpv]
        have HSV := Aside0.mk hsv
        clear hsv hpv
        change Calls _ _ _ _ fun e w' => e = Ending.returned (.int .i64 (-1)) ∧ Drawn0 _ w' at hscan
        go_wp2_with fail
        refine hscan.mono ?_
        rintro e w1 ⟨rfl, hd1⟩
        have HEW := Aside0.mk (HE1.out.below hd1.below)
        clear hscan HE1 hd1 hcut c1 ENV
        generalize wr.heap.size = gk at HEW ⊢
        go_wp2
        go_roundg (d - (k + 1))
        case measure => omega
        case rel => exact ⟨k + 1, r, M, by omega, by omega, by go_num, rfl, hrn, ⟨HMM.out.1, HMM.out.2.1, by have := HMM.out.2.2.1; omega, HSV.out⟩, ⟨HEW.out.tail⟩⟩
      | some p =>
        rw [hpv] at hscan
        have hps := Mat.pv_some hpv
        rw [List.length_drop, HMM.out.1] at hps
        have hpn : r + p < n := by omega
        have q2 : decide ((p : Int) < 0) = false := decide_eq_false (by omega)
        have pp0 : (0 : Int) ≤ (p : Int) := by omega
        have pp1 : (p : Int) < 100 := by have := HD.out; omega
        have HPV := Aside0.mk hpv
        have HPS := Aside0.mk hps
        clear hpv hps
        have hscan2 : Calls Try.prog 170 #[.slice (some ⟨g, r, none⟩) (n - r) (c - r), .func (.func 171) #[] #[.pointer (some ⟨wr.heap.size, 0, none⟩)]] (wr.alloc (.cells #[.int .i64 (k : Int)] 3 (0, 0))) fun e w' => e = Ending.returned (.int .i64 (p : Int)) ∧ Drawn0 (wr.alloc (.cells #[.int .i64 (k : Int)] 3 (0, 0))) w' := hscan.mono fun e w' ⟨h1, h2⟩ => ⟨h1.trans (by show Ending.returned (.int .i64 (0 + (p : Int))) = _; rw [Int.zero_add]), h2⟩
        clear hscan
        rename _ => hscan
        go_wp2_with fail
        refine hscan.mono ?_
        rintro e w1 ⟨rfl, hd1⟩
        have HEW := Aside0.mk (HE1.out.below hd1.below)
        clear hscan HE1 hd1 hcut c1 ENV
        generalize wr.heap.size = gk at HEW ⊢
        -- the rows change places
        obtain ⟨LX, hLX⟩ : ∃ LX : List (List Nat) → List (Value × Env.It), LX = fun Z => (.slice (some ⟨gk, 0, none⟩) 1 1, .row [(k : Int)]) :: L.set j (.slice (some ⟨g, 0, none⟩) n c, .mat (upM Z)) := ⟨_, rfl⟩
        have HL1 := Aside0.mk (show ∀ Z, (LX Z)[j + 1]? = some (.slice (some ⟨g, 0, none⟩) n c, .mat (upM Z)) from fun Z => by rw [hLX]; exact HXX.out Z)
        have HL2 := Aside0.mk (show ∀ Y Z, (LX Y).set (j + 1) (.slice (some ⟨g, 0, none⟩) n c, .mat (upM Z)) = LX Z from fun Y Z => by rw [hLX]; show (_ :: _) = (_ :: _); rw [List.set_set])
        have HL3 := Aside0.mk (show ∀ Z, (LX Z)[0]? = some (.slice (some ⟨gk, 0, none⟩) 1 1, .row [(k : Int)]) from fun Z => by rw [hLX]; rfl)
        have HL4 := Aside0.mk (show ∀ Z (W : World), Env.Env 23 3 w0 W (LX Z) → Env.Env 23 3 w0 W (L.set j (.slice (some ⟨g, 0, none⟩) n c, .mat (upM Z))) from fun Z W h => by rw [hLX] at h; exact h.tail)
        replace HEW := Aside0.mk (show Env.Env 23 3 w0 w1 (LX M) from by rw [hLX]; exact HEW.out)
        clear hLX
        obtain ⟨g', Aa, ca, Ab, cb, hA', hca, hfa, hcb, hfb, hsw⟩ := HEW.out.mswap (by decide) (HL1.out M) (a := r) (b := r + p) (by rw [upM_length, HMM.out.1]; exact hrn) (by rw [upM_length, HMM.out.1]; exact hpn)
        injection hA' with hA'
        injection hA' with hA'
        subst hA'
        rw [upM_getD] at hca
        rw [upM_getD] at hcb
        rw [upM_getD, upM_getD, upM_set, upM_set, HL2.out] at hsw
        obtain ⟨M1, hM1⟩ : ∃ M1, M1 = Mat.swp M r (r + p) := ⟨_, rfl⟩
        have HSW := Aside0.mk (show Env.Env 23 3 w0 _ (LX M1) from by rw [hM1]; exact hsw)
        have HM1 := Aside0.mk hM1
        have HB1 := Aside0.mk (show M1.length = n ∧ Mat.MB' cc M1 from by rw [hM1, Mat.swp_length, HMM.out.1]; exact ⟨rfl, Mat.swp_MB HMM.out.2.1 (by rw [HMM.out.1]; exact hrn) (by rw [HMM.out.1]; exact hpn)⟩)
        generalize M.getD r [] = ra at hca HSW
        generalize M.getD (r + p) [] = rb at hcb HSW
        have i1 : ((r : Int) < (n : Int)) = True := eq_true (by omega)
        have i2 : (((r : Int) + (p : Int)) < (n : Int)) = True := eq_true (by omega)
        have i3 : (0 ≤ (r : Int) + (p : Int)) = True := eq_true (by omega)
        have i4 : (r < n) = True := eq_true hrn
        have i5 : (r + p < n) = True := eq_true hpn
        have hcb2 : (w1.setCell ⟨g, r, none⟩ (.slice Ab (Poly.up rb).length cb)).cell? ⟨g, r + p, none⟩ = some (.slice Ab (Poly.up rb).length cb) := Env.cell_both hcb
        clear hsw hM1
        go_wp2_with fail
        go_region
        have hE2 := HSW.out.below (below_drew (Below.refl _ _))
        generalize ((w1.setCell ⟨g, r, none⟩ (.slice Ab (Poly.up rb).length cb)).setCell ⟨g, r + p, none⟩ (.slice Aa (Poly.up ra).length ca)).drew = w2 at hE2 ⊢
        clear HSW hca hfa hcb hfb hcb2 HEW i2 i3 i5 pp0 pp1 q2 hpn
        -- the number by which the row is divided
        have HR1 := Aside0.mk (HB1.out.2.get (i := r) (by rw [HB1.out.1]; exact hrn))
        obtain ⟨R1, hR1⟩ : ∃ R1, R1 = M1.getD r [] := ⟨_, rfl⟩
        have HER := Aside0.mk hR1
        have HRL := Aside0.mk (show R1.length = cc ∧ Poly.AllB R1 from by rw [hR1]; exact HR1.out)
        have kR : k < (Poly.up R1).length := by rw [Poly.up_length, HRL.out.1]; have := HD.out; omega
        obtain ⟨g', gu, cu, hA', hh1, _, hx1, _, _⟩ := hE2.mput2 (by decide) (HL1.out M1) (i := r) (q := k) (by rw [upM_length, HB1.out.1]; exact hrn) (by rw [upM_getD, ← hR1]; exact kR)
        injection hA' with hA'
        injection hA' with hA'
        subst hA'
        rw [upM_getD, ← hR1] at hh1 hx1
        rw [Poly.rd_up] at hx1
        have hbx := hE2.boxed 0 (HL3.out M1)
        obtain ⟨x, hx⟩ : ∃ x, x = R1.getD k 0 := ⟨_, rfl⟩
        have HXE := Aside0.mk hx
        have hxb : x < 256 := by rw [hx]; exact Poly.AllB.get HRL.out.2 k
        rw [← hx] at hx1
        have j1 : ((k : Int) < ((Poly.up R1).length : Int)) = True := eq_true (by omega)
        have j2 : (k < (Poly.up R1).length) = True := eq_true kR
        obtain ⟨K1, h1⟩ := (impl_inverse_ev x hxb).rounds
        have HK1 := Aside0.mk h1
        have HE2 := Aside0.mk hE2
        clear hR1 hx hxb kR h1 hE2
        go_wp2_with fail
        go_still_tail 7, (by kernel_rfl)
        change wpList _ _ _ _ _ (w2.drewN 1)
        go_wp2_with fail
        refine (impl_inverse.calls K1 (x : Int) _ _ HK1.out).mono ?_
        rintro e w3 ⟨rfl, hd3⟩
        have HE3 := Aside0.mk ((HE2.out.drewN 1).below hd3.below)
        clear hd3 HE2 HK1 hh1 hx1 hbx j1 j2
        -- the row is divided
        obtain ⟨f, hf⟩ : ∃ f, f = Gf.gi x := ⟨_, rfl⟩
        have HFE := Aside0.mk hf
        have hfb : f < 256 := by rw [hf]; exact Gf.gi_lt x
        rw [← hf]
        have hrl : (Poly.up R1).length = cc := by rw [Poly.up_length, HRL.out.1]
        obtain ⟨g', Au, cu, hA', hh3, _, _, _, _, _, _⟩ := HE3.out.mrow (by decide) (HL1.out M1) (i := r) (by rw [upM_length, HB1.out.1]; exact hrn)
        injection hA' with hA'
        injection hA' with hA'
        subst hA'
        rw [upM_getD, ← HER.out, hrl] at hh3
        have HS0 := Aside0.mk (show Env.Env 23 3 w0 w3 (LX (M1.set r (Mat.rscaleTo f R1 0))) from by rw [Mat.rscaleTo_zero, HER.out, Mat.set_self]; exact HE3.out)
        clear hf HE3
        go_wp2
        go_loopg [56] cc (fun gg s56 wq => ∃ i : Nat, i ≤ cc ∧ cc - i ≤ gg ∧ s56 = .int .i64 i ∧ Aside0 (Env.Env 23 3 w0 wq (LX (M1.set r (Mat.rscaleTo f R1 i)))))
        case atStart => exact ⟨0, Nat.zero_le _, by omega, rfl, HS0⟩
        case round =>
          clear HS0 hh3
          obtain ⟨i, hi', hgi, rfl, HSI⟩ := hrel
          by_cases hic : i < cc
          · have c100 : (i : Int) < 100 := by have := HD.out; omega
            have c0 : (0 : Int) ≤ (i : Int) := by omega
            have hYl : (M1.set r (Mat.rscaleTo f R1 i)).length = n := by rw [List.length_set]; exact HB1.out.1
            have hYr : (M1.set r (Mat.rscaleTo f R1 i)).getD r [] = Mat.rscaleTo f R1 i := by rw [Mat.getD_setL _ _ _ _ (by rw [HB1.out.1]; exact hrn), if_pos rfl]
            have hrl2 : (Poly.up (Mat.rscaleTo f R1 i)).length = cc := by rw [Poly.up_length, Mat.rscaleTo_length, HRL.out.1]
            obtain ⟨g', gu, cu, hA', hh, _, hx, _, hput⟩ := (HSI.out.drewN 1).mput2 (by decide) (HL1.out _) (i := r) (q := i) (by rw [upM_length, hYl]; exact hrn) (by rw [upM_getD, hYr, hrl2]; exact hic)
            injection hA' with hA'
            injection hA' with hA'
            subst hA'
            rw [upM_getD, hYr, hrl2] at hh
            rw [upM_getD, hYr, Poly.rd_up, Mat.rscaleTo_at f (by rw [HRL.out.1]; exact hic)] at hx
            have hset : (upM (M1.set r (Mat.rscaleTo f R1 i))).set r ((Poly.up (Mat.rscaleTo f R1 i)).set i ((Gf.gm (R1.getD i 0) f : Nat) : Int)) = upM (M1.set r (Mat.rscaleTo f R1 (i + 1))) := by rw [Poly.up_set, Mat.rscaleTo_succ f (by rw [HRL.out.1]; exact hic), upM_set, List.set_set]
            have hput2 : ∀ W, Below (wr.drewN 1).heap.size (wr.drewN 1) W → (∃ v, W.cell? ⟨gu, i, none⟩ = some v) ∧ W.frozen? ⟨gu, i, none⟩ = false ∧ Env.Env 23 3 w0 (W.setCell ⟨gu, i, none⟩ (.int .i64 ((Gf.gm (R1.getD i 0) f : Nat) : Int))) (LX (M1.set r (Mat.rscaleTo f R1 (i + 1)))) := fun W hW => by
              have h8 := hput W hW
              have h9 := h8.2.2 ((Gf.gm (R1.getD i 0) f : Nat) : Int)
              rw [upM_getD, hYr, hset, HL2.out] at h9
              exact ⟨⟨_, h8.1⟩, h8.2.1, h9⟩
            have HP := Aside0.mk hput2
            have hxi : R1.getD i 0 < 256 := Poly.AllB.get HRL.out.2 i
            obtain ⟨K2, h2⟩ := (impl_mul_ev (R1.getD i 0) f hxi hfb).rounds
            have HK2 := Aside0.mk h2
            have hh0 : wr.drew.cell? ⟨g, r, none⟩ = some (.slice (some ⟨gu, 0, none⟩) cc cu) := hh
            have hx0 : wr.drew.cell? ⟨gu, i, none⟩ = some (.int .i64 ((R1.getD i 0 : Nat) : Int)) := hx
            have hpw : ∀ W, Below wr.drew.heap.size wr.drew W → (∃ v, W.cell? ⟨gu, i, none⟩ = some v) ∧ W.frozen? ⟨gu, i, none⟩ = false ∧ Env.Env 23 3 w0 (W.setCell ⟨gu, i, none⟩ (.int .i64 ((Gf.gm (R1.getD i 0) f : Nat) : Int))) (LX (M1.set r (Mat.rscaleTo f R1 (i + 1)))) := HP.out
            have HPW := Aside0.mk hpw
            have j1 : ((i : Int) < (cc : Int)) = True := eq_true (by omega)
            have j2 : (i < cc) = True := eq_true hic
            generalize R1.getD i 0 = y at hx hx0 HPW HP HK2 hput2 hpw
            clear hput hput2 hset hYl hYr hrl2 hxi h2 hh hx HP hpw
            go_wp2_with fail
            refine start_ (n := 16) (S := fun w' => w'.cell? ⟨g, r, none⟩ = some (.slice (some ⟨gu, 0, none⟩) cc cu) ∧ w'.cell? ⟨gu, i, none⟩ = some (.int .i64 (y : Int))) (ds := [15]) #[false, false, false, false, false, false, false, false, false, false, false, false, false, false, false, false] (by kernel_rfl) rfl rfl (⟨hh0, hx0⟩) (fun hHeld => ?_); refine with_tabW tab_so12 bits_so12 (fun HT_ HW_ => ?_)
            generalize wr.drew = w5 at HPW hh0 hx0 hHeld ⊢
            refine pure_ (i := 0) (N := some 59) (v := ?_) (a' := ?_) #[true, false, false, false, false, false, false, false, false, false, false, false, false, false, false, false] rfl rfl (any_of HT_.out (by kernel_rfl)) (fun _ _ _ h => h) (Or.inl ⟨by rfl, ?_⟩) ?_ ?_
            rotate_left
            · intro w'
              go_simp
              with_reducible rfl
            rotate_left
            · simp only [Act.put, List.setIfInBounds_toArray, List.set_cons_zero, List.set_cons_succ, i64_w, i32_w]
              rfl
            refine pure_ (i := 1) (N := some 60) (v := ?_) (a' := ?_) #[true, true, false, false, false, false, false, false, false, false, false, false, false, false, false, false] rfl rfl (any_of HT_.out (by kernel_rfl)) (fun _ _ _ h => h) (Or.inl ⟨by rfl, ?_⟩) ?_ ?_
            rotate_left
            · intro w'
              go_simp
              with_reducible rfl
            rotate_left
            · simp only [Act.put, List.setIfInBounds_toArray, List.set_cons_zero, List.set_cons_succ, i64_w, i32_w]
              rfl
            refine pure_ (i := 2) (N := some 61) (v := ?_) (a' := ?_) #[true, true, true, false, false, false, false, false, false, false, false, false, false, false, false, false] rfl rfl (any_of HT_.out (by kernel_rfl)) (fun _ _ _ h => h) (Or.inl ⟨by rfl, ?_⟩) ?_ ?_
            rotate_left
            · intro w'
              go_simp
              with_reducible rfl
            rotate_left
            · simp only [Act.put, List.setIfInBounds_toArray, List.set_cons_zero, List.set_cons_succ, i64_w, i32_w]
              rfl
            refine pure_ (i := 4) (N := some 63) (v := ?_) (a' := ?_) #[true, true, true, false, true, false, false, false, false, false, false, false, false, false, false, false] rfl rfl (any_of HT_.out (by kernel_rfl)) (fun _ _ _ h => h) (Or.inl ⟨by rfl, ?_⟩) ?_ ?_
            rotate_left
            · intro w'
              go_simp
              with_reducible rfl
            rotate_left
            · simp only [Act.put, List.setIfInBounds_toArray, List.set_cons_zero, List.set_cons_succ, i64_w, i32_w]
              rfl
            refine pure_ (i := 5) (N := some 64) (v := ?_) (a' := ?_) #[true, true, true, false, true, true, false, false, false, false, false, false, false, false, false, false] rfl rfl (any_of HT_.out (by kernel_rfl)) (fun _ _ _ h => h) (Or.inl ⟨by rfl, ?_⟩) ?_ ?_
            rotate_left
            · intro w'
              go_simp
              with_reducible rfl
            rotate_left
            · simp only [Act.put, List.setIfInBounds_toArray, List.set_cons_zero, List.set_cons_succ, i64_w, i32_w]
              rfl
            refine pure_ (i := 6) (N := some 65) (v := ?_) (a' := ?_) #[true, true, true, false, true, true, true, false, false, false, false, false, false, false, false, false] rfl rfl (any_of HT_.out (by kernel_rfl)) (fun _ _ _ h => h) (Or.inl ⟨by rfl, ?_⟩) ?_ ?_
            rotate_left
            · intro w'
              go_simp
              with_reducible rfl
            rotate_left
            · simp only [Act.put, List.setIfInBounds_toArray, List.set_cons_zero, List.set_cons_succ, i64_w, i32_w]
              rfl
            refine pure_ (i := 7) (N := some 66) (v := ?_) (a' := ?_) #[true, true, true, false, true, true, true, true, false, false, false, false, false, false, false, false] rfl rfl (any_of HT_.out (by kernel_rfl)) (fun _ _ _ h => h) (Or.inl ⟨by rfl, ?_⟩) ?_ ?_
            rotate_left
            · intro w'
              go_simp
              with_reducible rfl
            rotate_left
            · simp only [Act.put, List.setIfInBounds_toArray, List.set_cons_zero, List.set_cons_succ, i64_w, i32_w]
              rfl
            refine pure_ (i := 9) (N := some 68) (v := ?_) (a' := ?_) #[true, true, true, false, true, true, true, true, false, true, false, false, false, false, false, false] rfl rfl (any_of HT_.out (by kernel_rfl)) (fun _ _ _ h => h) (Or.inl ⟨by rfl, ?_⟩) ?_ ?_
            rotate_left
            · intro w'
              go_simp
              with_reducible rfl
            rotate_left
            · simp only [Act.put, List.setIfInBounds_toArray, List.set_cons_zero, List.set_cons_succ, i64_w, i32_w]
              rfl
            refine pure_ (i := 12) (N := some 71) (v := ?_) (a' := ?_) #[true, true, true, false, true, true, true, true, false, true, false, false, true, false, false, false] rfl rfl (any_of HT_.out (by kernel_rfl)) (fun _ _ _ h => h) (Or.inl ⟨by rfl, ?_⟩) ?_ ?_
            rotate_left
            · intro w'
              go_simp
              with_reducible rfl
            rotate_left
            · simp only [Act.put, List.setIfInBounds_toArray, List.set_cons_zero, List.set_cons_succ, i64_w, i32_w]
              rfl
            refine take_ (i := 3) (N := some 62) (v := ?_) (a' := ?_) #[true, true, true, true, true, true, true, true, false, true, false, false, true, false, false, false] rfl rfl (take_ofW HT_.out HW_.out (by kernel_rfl)) (fun _ _ _ h => h) (Or.inl ⟨by rfl, ?_⟩) hHeld ?_ ?_
            rotate_left
            · rintro w' ⟨s0, s1⟩
              go_simp
              with_reducible rfl
            rotate_left
            · simp only [Act.put, List.setIfInBounds_toArray, List.set_cons_zero, List.set_cons_succ, i64_w, i32_w]
              rfl
            refine take_ (i := 8) (N := some 67) (v := ?_) (a' := ?_) #[true, true, true, true, true, true, true, true, true, true, false, false, true, false, false, false] rfl rfl (take_ofW HT_.out HW_.out (by kernel_rfl)) (fun _ _ _ h => h) (Or.inl ⟨by rfl, ?_⟩) hHeld ?_ ?_
            rotate_left
            · rintro w' ⟨s0, s1⟩
              go_simp
              with_reducible rfl
            rotate_left
            · simp only [Act.put, List.setIfInBounds_toArray, List.set_cons_zero, List.set_cons_succ, i64_w, i32_w]
              rfl
            refine pure_ (i := 10) (N := some 69) (v := ?_) (a' := ?_) #[true, true, true, true, true, true, true, true, true, true, true, false, true, false, false, false] rfl rfl (any_of HT_.out (by kernel_rfl)) (fun _ _ _ h => h) (Or.inl ⟨by rfl, ?_⟩) ?_ ?_
            rotate_left
            · intro w'
              go_simp
              with_reducible rfl
            rotate_left
            · simp only [Act.put, List.setIfInBounds_toArray, List.set_cons_zero, List.set_cons_succ, i64_w, i32_w]
              rfl
            refine take_ (i := 11) (N := some 70) (v := ?_) (a' := ?_) #[true, true, true, true, true, true, true, true, true, true, true, true, true, false, false, false] rfl rfl (take_ofW HT_.out HW_.out (by kernel_rfl)) (fun _ _ _ h => h) (Or.inl ⟨by rfl, ?_⟩) hHeld ?_ ?_
            rotate_left
            · rintro w' ⟨s0, s1⟩
              go_simp
              with_reducible rfl
            rotate_left
            · simp only [Act.put, List.setIfInBounds_toArray, List.set_cons_zero, List.set_cons_succ, i64_w, i32_w]
              rfl
            refine one_ (i := 13) (N := some 72) #[true, true, true, true, true, true, true, true, true, true, true, true, true, true, false, false] rfl rfl (one_of HT_.out (by kernel_rfl)) (by decide) (fun K hK => ?_)
            refine goes_ Try.func128 (by kernel_rfl) rfl #[.int .i64 (y : Int), .int .i64 (f : Int)] (by rfl) rfl rfl (by (try simp only [List.map_toArray, List.map_cons, List.map_nil]); first | done | rfl | (simp only [List.length_drop, List.length_take]; rfl)) ?_
            refine (impl_mul.calls K2 (y : Int) (f : Int) _ _ HK2.out).mono ?_
            rintro e w4 ⟨rfl, hd4⟩
            refine ⟨_, rfl, ?_⟩
            obtain ⟨⟨v4, hv4⟩, hf4, hE4⟩ := HPW.out w4 hd4.below
            have HE4 := Aside0.mk hE4
            have hS4 := And.intro (pw_cell_below hd4.below hh0) (pw_cell_below hd4.below hx0)
            clear hE4 hd4 HPW HK2 hh0 hx0
            refine hK.out _ _ hS4 (fun hHeld => ?_)
            clear hK K hS4
            refine norm_ (a' := ?_) ?_ ?_
            rotate_left
            · show Act.put _ (some 72) _ = _
              simp only [Act.put, List.setIfInBounds_toArray, List.set_cons_zero, List.set_cons_succ, i64_w, i32_w]
              rfl
            refine pure_ (i := 14) (N := some 73) (v := ?_) (a' := ?_) #[true, true, true, true, true, true, true, true, true, true, true, true, true, true, true, false] rfl rfl (any_of HT_.out (by kernel_rfl)) (fun _ _ _ h => h) (Or.inl ⟨by rfl, ?_⟩) ?_ ?_
            rotate_left
            · intro w'
              go_simp
              with_reducible rfl
            rotate_left
            · simp only [Act.put, List.setIfInBounds_toArray, List.set_cons_zero, List.set_cons_succ, i64_w, i32_w]
              rfl
            refine last_ (i := 15) (N := none) #[true, true, true, true, true, true, true, true, true, true, true, true, true, true, true, true] rfl rfl (one_of HT_.out (by kernel_rfl)) (by decide) (fun K hK => ?_)
            refine skip_ (w1 := ?_) (by rfl) rfl ?_ ?_
            rotate_left
            · go_simp
              rfl
            refine hK.out _ _ ?_
            clear hK K
            refine done_ (done_of HT_.out (by kernel_rfl)) ?_
            go_wp2
            go_roundg (cc - (i + 1))
            case measure => omega
            case rel => exact ⟨i + 1, by omega, by omega, by go_num, HE4⟩
          · have hie : i = cc := by omega
            have hTL : Mat.rscaleTo f R1 i = Mat.rscale f R1 := by rw [hie, ← HRL.out.1, Mat.rscaleTo_all]
            have hE5 := HSI.out
            rw [hTL] at hE5
            obtain ⟨T, hT⟩ : ∃ T, T = Mat.rscale f R1 := ⟨_, rfl⟩
            have HTE := Aside0.mk hT
            rw [← hT] at hE5
            have HTL := Aside0.mk (show T.length = cc ∧ Poly.AllB T from by rw [hT]; exact ⟨by rw [Mat.rscale_length]; exact HRL.out.1, Mat.rscale_bytes _ HRL.out.2⟩)
            obtain ⟨C, hC⟩ : ∃ C, C = Mat.col k M1 := ⟨_, rfl⟩
            have HCE := Aside0.mk hC
            have HCB := Aside0.mk (show Poly.AllB C from by rw [hC]; exact Mat.col_bytes HB1.out.2 k)
            have HCA := Aside0.mk (show ∀ i, C.getD i 0 = (M1.getD i []).getD k 0 from fun i => by rw [hC]; exact Mat.col_at k M1 i)
            have HCL := Aside0.mk (show C.length = (M1.set r T).length from by rw [hC, Mat.col_length, List.length_set])
            have HNL := Aside0.mk (show (M1.set r T).length = n from by rw [List.length_set]; exact HB1.out.1)
            have HMR := Aside0.mk (show (M1.set r T).getD r [] = T from by rw [Mat.getD_setL _ _ _ _ (by rw [HB1.out.1]; exact hrn), if_pos rfl])
            have HMO := Aside0.mk (show ∀ i, ¬ i = r → (M1.set r T).getD i [] = M1.getD i [] from fun i hi => by rw [Mat.getD_setL _ _ _ _ (by rw [HB1.out.1]; exact hrn), if_neg hi])
            have HEZ := Aside0.mk (show Env.Env 23 3 w0 wr (LX (Mat.erT T r C (M1.set r T) 0)) from by rw [Mat.erT_zero]; exact hE5)
            have qie : ((cc : Int) < (cc : Int)) = False := eq_false (by omega)
            obtain rfl : cc = i := hie.symm
            clear hE5 hT hTL hC HSI hgi hfb hie
            go_wp2
            go_loopg [77] n (fun gg s77 wq => ∃ i : Nat, i ≤ n ∧ n - i ≤ gg ∧ s77 = .int .i64 i ∧ Aside0 (Env.Env 23 3 w0 wq (LX (Mat.erT T r C (M1.set r T) i))))
            case atStart => exact ⟨0, Nat.zero_le _, by omega, rfl, HEZ⟩
            case round =>
              clear HEZ
              obtain ⟨i, hi', hgi, rfl, HSI⟩ := hrel
              by_cases hin : i < n
              · have z0 : (0 : Int) ≤ (i : Int) := by omega
                have z1 : (i : Int) < 100 := by have := HD.out; omega
                have hYl : (Mat.erT T r C (M1.set r T) i).length = n := by rw [Mat.erT_length HCL.out]; exact HNL.out
                have hYi : (Mat.erT T r C (M1.set r T) i).getD i [] = (M1.set r T).getD i [] := by
                  rw [List.getD_eq_getElem?_getD, Mat.erT_at HCL.out (Nat.le_refl _) (by rw [HNL.out]; exact hin)]; rfl
                have hYr : (Mat.erT T r C (M1.set r T) i).getD r [] = T := by rw [Mat.erT_top HCL.out i (by rw [HNL.out]; exact hrn)]; exact HMR.out
                have hstep := Mat.erT_succ (top := T) (a := r) HCL.out (i := i) (by rw [HNL.out]; exact hin)
                have hkc : k < cc := by have := HD.out; omega
                have p3 : ((i : Int) < (n : Int)) = True := eq_true (by omega)
                have p4 : (i < n) = True := eq_true hin
                have p5 : ((k : Int) < (cc : Int)) = True := eq_true (by omega)
                have p6 : (k < cc) = True := eq_true hkc
                obtain ⟨Z, hZ⟩ : ∃ Z, Z = Mat.erT T r C (M1.set r T) i := ⟨_, rfl⟩
                have HZ := Aside0.mk hZ
                have hbx := HSI.out.boxed 0 (HL3.out _)
                rw [← hZ] at hYl hYi hYr hstep HSI
                by_cases hir : i = r
                · have hRi : Z.getD i [] = T := by rw [hir]; exact hYr
                  obtain ⟨g', gi, ci, hA', hh, _, hx, _, _⟩ := HSI.out.mput2 (by decide) (HL1.out _) (i := i) (q := k) (by rw [upM_length, hYl]; exact hin) (by rw [upM_getD, hRi, Poly.up_length, HTL.out.1]; exact hkc)
                  injection hA' with hA'
                  injection hA' with hA'
                  subst hA'
                  rw [upM_getD, hRi, Poly.up_length, HTL.out.1] at hh
                  rw [upM_getD, hRi, Poly.rd_up] at hx
                  have hst : Mat.erT T r C (M1.set r T) (i + 1) = Z := by rw [← hstep]; unfold Mat.erow; rw [if_pos hir, ← hYi]; exact Mat.set_self _ _
                  have HST := Aside0.mk hst
                  have e1 : ((i : Int) != (r : Int)) = false := by rw [hir]; simp
                  have e2 : ((i : Int) == (r : Int)) = true := by rw [hir]; simp
                  generalize T.getD k 0 = tk at hx
                  clear hRi hst hstep hYr hYi hYl hZ hkc hir
                  go_wp2_with fail
                  go_loopg [88] cc (fun gg s88 wq => ∃ q : Nat, q ≤ cc ∧ cc - q ≤ gg ∧ s88 = .int .i64 q ∧ Aside0 (Env.Env 23 3 w0 wq (LX Z)))
                  case atStart => exact ⟨0, Nat.zero_le _, by omega, rfl, HSI⟩
                  case round =>
                    clear HSI hh hx hbx
                    obtain ⟨q, hq', hgq, rfl, HSQ⟩ := hrel
                    have y0 : (0 : Int) ≤ (q : Int) := by omega
                    have y1 : (q : Int) ≤ 100 := by have := HD.out; omega
                    by_cases hqc : q < cc
                    · have j1 : ((q : Int) < (cc : Int)) = True := eq_true (by omega)
                      go_wp2
                      go_roundg (cc - (q + 1))
                      case measure => omega
                      case rel => exact ⟨q + 1, by omega, by omega, by go_num, HSQ⟩
                    · have j1 : ((q : Int) < (cc : Int)) = False := eq_false (by omega)
                      go_wp2
                      go_roundg (n - (i + 1))
                      case measure => omega
                      case rel => exact ⟨i + 1, by omega, by omega, by go_num, ⟨by rw [HST.out]; exact HSQ.out⟩⟩
                · obtain ⟨R, hR⟩ : ∃ R, R = M1.getD i [] := ⟨_, rfl⟩
                  have hRi : Z.getD i [] = R := by rw [hYi, hR]; exact HMO.out i hir
                  have HRB := Aside0.mk (show R.length = cc ∧ Poly.AllB R from by rw [hR]; exact HB1.out.2.get (by rw [HB1.out.1]; exact hin))
                  obtain ⟨y0, hy0⟩ : ∃ y0, y0 = R.getD k 0 := ⟨_, rfl⟩
                  have HYB := Aside0.mk (show y0 < 256 from by rw [hy0]; exact Poly.AllB.get HRB.out.2 k)
                  have HST := Aside0.mk (show Z.set i (Mat.radd y0 R T) = Mat.erT T r C (M1.set r T) (i + 1) from by rw [← hstep]; unfold Mat.erow; rw [if_neg hir, HMO.out i hir, HCA.out, ← hR, ← hy0])
                  have HZI := Aside0.mk (show ∀ X, (Z.set i X).getD i [] = X from fun X => by rw [Mat.getD_setL _ _ _ _ (by rw [hYl]; exact hin), if_pos rfl])
                  have HZR := Aside0.mk (show ∀ X, (Z.set i X).getD r [] = T from fun X => by rw [Mat.getD_setL _ _ _ _ (by rw [hYl]; exact hin), if_neg (fun h => hir h.symm)]; exact hYr)
                  have HZL := Aside0.mk hYl
                  obtain ⟨g', gi, ci, hA', hh, _, hx, _, _⟩ := HSI.out.mput2 (by decide) (HL1.out _) (i := i) (q := k) (by rw [upM_length, hYl]; exact hin) (by rw [upM_getD, hRi, Poly.up_length, HRB.out.1]; exact hkc)
                  injection hA' with hA'
                  injection hA' with hA'
                  subst hA'
                  rw [upM_getD, hRi, Poly.up_length, HRB.out.1] at hh
                  rw [upM_getD, hRi, Poly.rd_up, ← hy0] at hx
                  have HSI0 := Aside0.mk (show Env.Env 23 3 w0 wr (LX (Z.set i (Mat.raddTo y0 R T 0))) from by rw [Mat.raddTo_zero, ← hRi, Mat.set_self]; exact HSI.out)
                  have HHK := Aside0.mk hh
                  have e1 : ((i : Int) != (r : Int)) = true := by simp; omega
                  have e2 : ((i : Int) == (r : Int)) = false := by simp; omega
                  clear hRi hstep hYr hYi hYl hZ hkc HSI hy0 hR
                  go_wp2_with fail
                  go_loopg [88] cc (fun gg s88 wq => ∃ q : Nat, q ≤ cc ∧ cc - q ≤ gg ∧ s88 = .int .i64 q ∧ Aside0 (Env.Env 23 3 w0 wq (LX (Z.set i (Mat.raddTo y0 R T q)))) ∧ Aside0 (wq.cell? ⟨g, i, none⟩ = some (.slice (some ⟨gi, 0, none⟩) cc ci)))
                  case atStart => exact ⟨0, Nat.zero_le _, by omega, rfl, HSI0, HHK⟩
                  case round =>
                    clear HSI0 HHK hh hx hbx
                    obtain ⟨q, hq', hgq, rfl, HSQ, HHK⟩ := hrel
                    have x0 : (0 : Int) ≤ (q : Int) := by omega
                    have x1 : (q : Int) ≤ 100 := by have := HD.out; omega
                    have hRT : R.length = T.length := by rw [HRB.out.1, HTL.out.1]
                    by_cases hqc : q < cc
                    · have hqR : q < R.length := by rw [HRB.out.1]; exact hqc
                      have hrl2 : (Poly.up (Mat.raddTo y0 R T q)).length = cc := by rw [Poly.up_length, Mat.raddTo_length hRT, HRB.out.1]
                      have HQ := HSQ.out.drewN 1
                      obtain ⟨g', gu, cu, hA', hh, _, hx, _, hput⟩ := HQ.mput2 (by decide) (HL1.out _) (i := i) (q := q) (by rw [upM_length, List.length_set, HZL.out]; exact hin) (by rw [upM_getD, HZI.out, hrl2]; exact hqc)
                      injection hA' with hA'
                      injection hA' with hA'
                      subst hA'
                      rw [upM_getD, HZI.out, hrl2] at hh
                      have hne := HQ.mne (by decide) (HL1.out _) (i := i) (by rw [upM_length, List.length_set, HZL.out]; exact hin) hh
                      have hk2 := hh.symm.trans HHK.out
                      injection hk2 with hk2
                      injection hk2 with hk3 _ hk4
                      injection hk3 with hk3
                      injection hk3 with hk3
                      subst hk3 hk4
                      rw [upM_getD, HZI.out, Poly.rd_up, Mat.raddTo_at hRT hqR] at hx
                      obtain ⟨g', gt, ct, hA', ht, _, htx, _, _⟩ := HQ.mput2 (by decide) (HL1.out _) (i := r) (q := q) (by rw [upM_length, List.length_set, HZL.out]; exact hrn) (by rw [upM_getD, HZR.out, Poly.up_length, HTL.out.1]; exact hqc)
                      injection hA' with hA'
                      injection hA' with hA'
                      subst hA'
                      rw [upM_getD, HZR.out, Poly.up_length, HTL.out.1] at ht
                      rw [upM_getD, HZR.out, Poly.rd_up] at htx
                      have hyb : R.getD q 0 < 256 := Poly.AllB.get HRB.out.2 q
                      have htb : T.getD q 0 < 256 := Poly.AllB.get HTL.out.2 q
                      have hxr := xor_up hyb (Gf.gm_lt (T.getD q 0) HYB.out)
                      have hset : (upM (Z.set i (Mat.raddTo y0 R T q))).set i ((Poly.up (Mat.raddTo y0 R T q)).set q (Go.bits .xor .i64 ((R.getD q 0 : Nat) : Int) ((Gf.gm y0 (T.getD q 0) : Nat) : Int))) = upM (Z.set i (Mat.raddTo y0 R T (q + 1))) := by rw [hxr, Poly.up_set, Mat.raddTo_succ hRT hqR, upM_set, List.set_set]
                      have hput2 : ∀ W, Below wr.drew.heap.size wr.drew W → (∃ v, W.cell? ⟨gu, q, none⟩ = some v) ∧ W.frozen? ⟨gu, q, none⟩ = false ∧ Env.Env 23 3 w0 (W.setCell ⟨gu, q, none⟩ (.int .i64 (Go.bits .xor .i64 ((R.getD q 0 : Nat) : Int) ((Gf.gm y0 (T.getD q 0) : Nat) : Int)))) (LX (Z.set i (Mat.raddTo y0 R T (q + 1)))) ∧ (W.setCell ⟨gu, q, none⟩ (.int .i64 (Go.bits .xor .i64 ((R.getD q 0 : Nat) : Int) ((Gf.gm y0 (T.getD q 0) : Nat) : Int)))).cell? ⟨g, i, none⟩ = some (.slice (some ⟨gu, 0, none⟩) cc cu) := fun W hW => by
                        have h8 := hput W hW
                        have h9 := h8.2.2 (Go.bits .xor .i64 ((R.getD q 0 : Nat) : Int) ((Gf.gm y0 (T.getD q 0) : Nat) : Int))
                        rw [upM_getD, HZI.out, hset, HL2.out] at h9
                        exact ⟨⟨_, h8.1⟩, h8.2.1, h9, Env.cell_far (pw_cell_below hW hh) hne⟩
                      have HPW := Aside0.mk hput2
                      obtain ⟨K2, h2⟩ := (impl_mul_ev y0 (T.getD q 0) HYB.out htb).rounds
                      have HK2 := Aside0.mk h2
                      have hx0 : wr.drew.cell? ⟨gu, q, none⟩ = some (.int .i64 ((R.getD q 0 : Nat) : Int)) := hx
                      have ht0 : wr.drew.cell? ⟨g, r, none⟩ = some (.slice (some ⟨gt, 0, none⟩) cc ct) := ht
                      have htx0 : wr.drew.cell? ⟨gt, q, none⟩ = some (.int .i64 ((T.getD q 0 : Nat) : Int)) := htx
                      have j1 : ((q : Int) < (cc : Int)) = True := eq_true (by omega)
                      have j2 : (q < cc) = True := eq_true hqc
                      generalize R.getD q 0 = y at hx0 HPW
                      generalize T.getD q 0 = tq at htx0 HPW HK2
                      clear hput hput2 hset hxr hyb htb h2 hh hx ht htx hne HQ hqR hrl2 hRT HHK HSQ
                      go_wp2_with fail
                      refine start_ (n := 16) (S := fun w' => w'.cell? ⟨gu, q, none⟩ = some (.int .i64 (y : Int)) ∧ w'.cell? ⟨g, r, none⟩ = some (.slice (some ⟨gt, 0, none⟩) cc ct) ∧ w'.cell? ⟨gt, q, none⟩ = some (.int .i64 (tq : Int))) (ds := [15]) #[false, false, false, false, false, false, false, false, false, false, false, false, false, false, false, false] (by kernel_rfl) rfl rfl (⟨hx0, ht0, htx0⟩) (fun hHeld => ?_); refine with_tabW tab_so22 bits_so22 (fun HT_ HW_ => ?_)
                      generalize wr.drew = w5 at HPW hx0 ht0 htx0 hHeld ⊢
                      refine pure_ (i := 0) (N := some 94) (v := ?_) (a' := ?_) #[true, false, false, false, false, false, false, false, false, false, false, false, false, false, false, false] rfl rfl (any_of HT_.out (by kernel_rfl)) (fun _ _ _ h => h) (Or.inl ⟨by rfl, ?_⟩) ?_ ?_
                      rotate_left
                      · intro w'
                        go_simp
                        with_reducible rfl
                      rotate_left
                      · simp only [Act.put, List.setIfInBounds_toArray, List.set_cons_zero, List.set_cons_succ, i64_w, i32_w]
                        rfl
                      refine pure_ (i := 1) (N := some 95) (v := ?_) (a' := ?_) #[true, true, false, false, false, false, false, false, false, false, false, false, false, false, false, false] rfl rfl (any_of HT_.out (by kernel_rfl)) (fun _ _ _ h => h) (Or.inl ⟨by rfl, ?_⟩) ?_ ?_
                      rotate_left
                      · intro w'
                        go_simp
                        with_reducible rfl
                      rotate_left
                      · simp only [Act.put, List.setIfInBounds_toArray, List.set_cons_zero, List.set_cons_succ, i64_w, i32_w]
                        rfl
                      refine pure_ (i := 2) (N := some 96) (v := ?_) (a' := ?_) #[true, true, true, false, false, false, false, false, false, false, false, false, false, false, false, false] rfl rfl (any_of HT_.out (by kernel_rfl)) (fun _ _ _ h => h) (Or.inl ⟨by rfl, ?_⟩) ?_ ?_
                      rotate_left
                      · intro w'
                        go_simp
                        with_reducible rfl
                      rotate_left
                      · simp only [Act.put, List.setIfInBounds_toArray, List.set_cons_zero, List.set_cons_succ, i64_w, i32_w]
                        rfl
                      refine pure_ (i := 4) (N := some 98) (v := ?_) (a' := ?_) #[true, true, true, false, true, false, false, false, false, false, false, false, false, false, false, false] rfl rfl (any_of HT_.out (by kernel_rfl)) (fun _ _ _ h => h) (Or.inl ⟨by rfl, ?_⟩) ?_ ?_
                      rotate_left
                      · intro w'
                        go_simp
                        with_reducible rfl
                      rotate_left
                      · simp only [Act.put, List.setIfInBounds_toArray, List.set_cons_zero, List.set_cons_succ, i64_w, i32_w]
                        rfl
                      refine pure_ (i := 5) (N := some 99) (v := ?_) (a' := ?_) #[true, true, true, false, true, true, false, false, false, false, false, false, false, false, false, false] rfl rfl (any_of HT_.out (by kernel_rfl)) (fun _ _ _ h => h) (Or.inl ⟨by rfl, ?_⟩) ?_ ?_
                      rotate_left
                      · intro w'
                        go_simp
                        with_reducible rfl
                      rotate_left
                      · simp only [Act.put, List.setIfInBounds_toArray, List.set_cons_zero, List.set_cons_succ, i64_w, i32_w]
                        rfl
                      refine pure_ (i := 6) (N := some 100) (v := ?_) (a' := ?_) #[true, true, true, false, true, true, true, false, false, false, false, false, false, false, false, false] rfl rfl (any_of HT_.out (by kernel_rfl)) (fun _ _ _ h => h) (Or.inl ⟨by rfl, ?_⟩) ?_ ?_
                      rotate_left
                      · intro w'
                        go_simp
                        with_reducible rfl
                      rotate_left
                      · simp only [Act.put, List.setIfInBounds_toArray, List.set_cons_zero, List.set_cons_succ, i64_w, i32_w]
                        rfl
                      refine pure_ (i := 7) (N := some 101) (v := ?_) (a' := ?_) #[true, true, true, false, true, true, true, true, false, false, false, false, false, false, false, false] rfl rfl (any_of HT_.out (by kernel_rfl)) (fun _ _ _ h => h) (Or.inl ⟨by rfl, ?_⟩) ?_ ?_
                      rotate_left
                      · intro w'
                        go_simp
                        with_reducible rfl
                      rotate_left
                      · simp only [Act.put, List.setIfInBounds_toArray, List.set_cons_zero, List.set_cons_succ, i64_w, i32_w]
                        rfl
                      refine pure_ (i := 9) (N := some 103) (v := ?_) (a' := ?_) #[true, true, true, false, true, true, true, true, false, true, false, false, false, false, false, false] rfl rfl (any_of HT_.out (by kernel_rfl)) (fun _ _ _ h => h) (Or.inl ⟨by rfl, ?_⟩) ?_ ?_
                      rotate_left
                      · intro w'
                        go_simp
                        with_reducible rfl
                      rotate_left
                      · simp only [Act.put, List.setIfInBounds_toArray, List.set_cons_zero, List.set_cons_succ, i64_w, i32_w]
                        rfl
                      refine take_ (i := 3) (N := some 97) (v := ?_) (a' := ?_) #[true, true, true, true, true, true, true, true, false, true, false, false, false, false, false, false] rfl rfl (take_ofW HT_.out HW_.out (by kernel_rfl)) (fun _ _ _ h => h) (Or.inl ⟨by rfl, ?_⟩) hHeld ?_ ?_
                      rotate_left
                      · rintro w' ⟨s0, s1, s2⟩
                        go_simp
                        with_reducible rfl
                      rotate_left
                      · simp only [Act.put, List.setIfInBounds_toArray, List.set_cons_zero, List.set_cons_succ, i64_w, i32_w]
                        rfl
                      refine take_ (i := 8) (N := some 102) (v := ?_) (a' := ?_) #[true, true, true, true, true, true, true, true, true, true, false, false, false, false, false, false] rfl rfl (take_ofW HT_.out HW_.out (by kernel_rfl)) (fun _ _ _ h => h) (Or.inl ⟨by rfl, ?_⟩) hHeld ?_ ?_
                      rotate_left
                      · rintro w' ⟨s0, s1, s2⟩
                        go_simp
                        with_reducible rfl
                      rotate_left
                      · simp only [Act.put, List.setIfInBounds_toArray, List.set_cons_zero, List.set_cons_succ, i64_w, i32_w]
                        rfl
                      refine pure_ (i := 10) (N := some 104) (v := ?_) (a' := ?_) #[true, true, true, true, true, true, true, true, true, true, true, false, false, false, false, false] rfl rfl (any_of HT_.out (by kernel_rfl)) (fun _ _ _ h => h) (Or.inl ⟨by rfl, ?_⟩) ?_ ?_
                      rotate_left
                      · intro w'
                        go_simp
                        with_reducible rfl
                      rotate_left
                      · simp only [Act.put, List.setIfInBounds_toArray, List.set_cons_zero, List.set_cons_succ, i64_w, i32_w]
                        rfl
                      refine take_ (i := 11) (N := some 105) (v := ?_) (a' := ?_) #[true, true, true, true, true, true, true, true, true, true, true, true, false, false, false, false] rfl rfl (take_ofW HT_.out HW_.out (by kernel_rfl)) (fun _ _ _ h => h) (Or.inl ⟨by rfl, ?_⟩) hHeld ?_ ?_
                      rotate_left
                      · rintro w' ⟨s0, s1, s2⟩
                        go_simp
                        with_reducible rfl
                      rotate_left
                      · simp only [Act.put, List.setIfInBounds_toArray, List.set_cons_zero, List.set_cons_succ, i64_w, i32_w]
                        rfl
                      refine one_ (i := 12) (N := some 106) #[true, true, true, true, true, true, true, true, true, true, true, true, true, false, false, false] rfl rfl (one_of HT_.out (by kernel_rfl)) (by decide) (fun K hK => ?_)
                      refine goes_ Try.func128 (by kernel_rfl) rfl #[.int .i64 (y0 : Int), .int .i64 (tq : Int)] (by rfl) rfl rfl (by (try simp only [List.map_toArray, List.map_cons, List.map_nil]); first | done | rfl | (simp only [List.length_drop, List.length_take]; rfl)) ?_
                      refine (impl_mul.calls K2 (y0 : Int) (tq : Int) _ _ HK2.out).mono ?_
                      rintro e w4 ⟨rfl, hd4⟩
                      refine ⟨_, rfl, ?_⟩
                      obtain ⟨⟨v4, hv4⟩, hf4, hE4, hC4⟩ := HPW.out w4 hd4.below
                      have HE4 := Aside0.mk hE4
                      have HC4 := Aside0.mk hC4
                      have hS4 := And.intro (pw_cell_below hd4.below hx0) (And.intro (pw_cell_below hd4.below ht0) (pw_cell_below hd4.below htx0))
                      clear hE4 hC4 hd4 HPW HK2 hx0 ht0 htx0
                      refine hK.out _ _ hS4 (fun hHeld => ?_)
                      clear hK K hS4
                      refine norm_ (a' := ?_) ?_ ?_
                      rotate_left
                      · show Act.put _ (some 106) _ = _
                        simp only [Act.put, List.setIfInBounds_toArray, List.set_cons_zero, List.set_cons_succ, i64_w, i32_w]
                        rfl
                      refine pure_ (i := 13) (N := some 107) (v := ?_) (a' := ?_) #[true, true, true, true, true, true, true, true, true, true, true, true, true, true, false, false] rfl rfl (any_of HT_.out (by kernel_rfl)) (fun _ _ _ h => h) (Or.inl ⟨by rfl, ?_⟩) ?_ ?_
                      rotate_left
                      · intro w'
                        go_simp
                        with_reducible rfl
                      rotate_left
                      · simp only [Act.put, List.setIfInBounds_toArray, List.set_cons_zero, List.set_cons_succ, i64_w, i32_w]
                        rfl
                      refine pure_ (i := 14) (N := some 108) (v := ?_) (a' := ?_) #[true, true, true, true, true, true, true, true, true, true, true, true, true, true, true, false] rfl rfl (any_of HT_.out (by kernel_rfl)) (fun _ _ _ h => h) (Or.inl ⟨by rfl, ?_⟩) ?_ ?_
                      rotate_left
                      · intro w'
                        go_simp
                        with_reducible rfl
                      rotate_left
                      · simp only [Act.put, List.setIfInBounds_toArray, List.set_cons_zero, List.set_cons_succ, i64_w, i32_w]
                        rfl
                      refine last_ (i := 15) (N := none) #[true, true, true, true, true, true, true, true, true, true, true, true, true, true, true, true] rfl rfl (one_of HT_.out (by kernel_rfl)) (by decide) (fun K hK => ?_)
                      refine skip_ (w1 := ?_) (by rfl) rfl ?_ ?_
                      rotate_left
                      · go_simp
                        rfl
                      refine hK.out _ _ ?_
                      clear hK K
                      refine done_ (done_of HT_.out (by kernel_rfl)) ?_
                      go_wp2
                      go_roundg (cc - (q + 1))
                      case measure => omega
                      case rel => exact ⟨q + 1, by omega, by omega, by go_num, HE4, HC4⟩
                    · have j1 : ((q : Int) < (cc : Int)) = False := eq_false (by omega)
                      have hqe : q = R.length := by rw [HRB.out.1]; omega
                      have HE6 := Aside0.mk (show Env.Env 23 3 w0 wr (LX (Mat.erT T r C (M1.set r T) (i + 1))) from by
                        have h9 := HSQ.out
                        rw [hqe, Mat.raddTo_all hRT, HST.out] at h9
                        exact h9)
                      clear hqe hRT HSQ HHK
                      go_wp2
                      go_roundg (n - (i + 1))
                      case measure => omega
                      case rel => exact ⟨i + 1, by omega, by omega, by go_num, HE6⟩
              · have hie : i = n := by omega
                have hest : Mat.erT T r C (M1.set r T) i = Mat.est M r (r + p) k := by
                  rw [hie, ← HNL.out, Mat.erT_all HCL.out]
                  unfold Mat.est
                  rw [← HM1.out]
                  unfold Mat.top
                  rw [← HER.out, ← HXE.out, ← HFE.out, ← HTE.out, ← HCE.out]
                have hE7 := HL4.out _ _ HSI.out
                rw [hest] at hE7
                have HE7 := Aside0.mk hE7
                have hsvr := HMM.out.2.2.2
                rw [show d - k = (d - (k + 1)) + 1 by omega] at hsvr
                conv at hsvr => lhs; unfold Mat.sv
                rw [HPV.out] at hsvr
                dsimp only at hsvr
                rw [HMM.out.1] at hsvr
                have p1 : ((i : Int) < (n : Int)) = False := eq_false (by omega)
                have HPN := Aside0.mk (show r + p < n from by have := HPS.out; omega)
                clear hE7 hest HSI
                by_cases hr1 : r + 1 = n
                · rw [if_pos hr1] at hsvr
                  have HSV := Aside0.mk hsvr
                  have e1 : ((r : Int) + 1 == (n : Int)) = true := by simp; omega
                  have e2 : (((r + 1 : Nat) : Int) == (n : Int)) = true := by simp; omega
                  clear hsvr
                  go_wp2
                  go_ret
                  rw [← HSV.out]
                  exact ⟨by go_num, HE7.out⟩
                · rw [if_neg hr1] at hsvr
                  have HSV := Aside0.mk hsvr
                  have e1 : ((r : Int) + 1 == (n : Int)) = false := by simp; omega
                  have e2 : (((r + 1 : Nat) : Int) == (n : Int)) = false := by simp; omega
                  clear hsvr
                  go_wp2
                  go_roundg (d - (k + 1))
                  case measure => omega
                  case rel => exact ⟨k + 1, r + 1, Mat.est M r (r + p) k, by omega, by omega, by go_num, by go_num, by omega, ⟨by rw [Mat.est_length]; exact HMM.out.1, Mat.est_MB HMM.out.2.1 k (by rw [HMM.out.1]; exact hrn) (by rw [HMM.out.1]; exact HPN.out), by have := HMM.out.2.2.1; omega, HSV.out⟩, HE7⟩
    · obtain rfl : k = d := by omega
      have hs := HMM.out.2.2.2
      rw [Nat.sub_self] at hs
      have HS := Aside0.mk (show Mat.sv k 0 0 m = (M, r) from hs.symm)
      have p1 : decide ((k : Int) < (k : Int)) = false := decide_eq_false (by omega)
      clear hs
      go_wp2
      go_ret
      rw [HS.out]
      exact ⟨rfl, ENV.out⟩

/-- A row made since is put behind a list of rows: 'out = append(out, row)'. -/
theorem app_event {ops : Array Oper} {rest : List Oper} {o : Oper} {a : Act} {Q : Exit → Act → World → Prop} {w0 wr W : World} (base : Nat) (hgd : o.guard = none) (s x : Operand)
    (ho : o.op = .call { callee := .builtin .append, args := #[s, x], argTypes := #[22, 22] }) (v : Value) (m : List (List Int)) (Au : Option Addr) (cu : Nat) (row : List Int) (hs : a.eval s = v) (hx : a.eval x = .slice (some ⟨W.heap.size, 0, none⟩) 1 1)
    (hS : (Kd.slice 3 (Kd.int .i64)).S 23 wr base (fun _ => True) v m) (hb : Below wr.heap.size wr W) (hR : (Kd.int .i64).R 3 W wr.heap.size (fun _ => True) (.slice Au row.length cu) row) (HB : Below base w0 W) (hbase : base ≤ wr.heap.size) (hl : m.length ≤ 1000000)
    (h : ∀ A1 c1 w1, (Kd.slice 3 (Kd.int .i64)).S 23 w1 base (fun _ => True) (.slice A1 (m.length + 1) c1) (m ++ [row]) → Below base w0 w1 → Aside0 (∀ (g tq : Nat) (cs : Array Value), tq ≠ 23 → wr.heap[g]? = some (.cells cs tq (0, 0)) → w1.heap[g]? = some (.cells cs tq (0, 0))) → wpList Try.prog ops Q rest (a.put o.dst (.slice A1 (m.length + 1) c1)) w1) :
    wpList Try.prog ops Q (o :: rest) a (W.alloc (.cells #[.slice Au row.length cu] 23)) := by
  have hlt := Kd.S_lt hS
  have hty := Kd.S_typed hS
  have hnew : ∀ k, some k = (Value.slice Au row.length cu).ownBlock → wr.heap.size ≤ k := fun k hk => Kd.R_base hR k hk.symm
  refine Kd.S_append (Kd.slice 3 (Kd.int .i64)) (w0 := w0) base hgd s x 22 23 (.slice none 0 0) 24 ho Try.underlying22 infoR rfl (by decide) (by omega) v m row [.slice Au row.length cu] (fun _ => True) (fun k => some k = (Value.slice Au row.length cu).ownBlock) hs hx
    (Kd.M_row (Kd.R_mono (Kd.R_tight rfl (Kd.R_lower hR hbase)) (fun _ h_ => h_))) (fun k hk => ⟨trivial, fun he => by have h1 := hnew k hk; have h2 := hlt k he.symm; omega⟩) (fun _ _ => trivial)
    (Kd.S_mono (Kd.S_old hS hb) (fun k hk => ⟨trivial, fun he => by have h1 := hnew k he; have h2 := hk.2; omega⟩)) HB (Nat.le_trans hbase hb.size) (by omega) ?_
  intro v1 w1 h1 h2 h3 _
  obtain ⟨A1, c1, rfl⟩ := Kd.S_slice h1
  rw [show (m ++ [row]).length = m.length + 1 by simp] at h1 ⊢
  exact h A1 c1 w1 h1 h2 ⟨fun g tq cs hne hg => blk_grown (blk_below hg hb) h3 (fun he => by
    obtain ⟨cells, hc⟩ := hty g he.symm
    rw [hc] at hg
    injection hg with hg
    injection hg with _ hg
    exact hne hg.symm)⟩
theorem S_empty {e : TypeId} {w : World} {base : Nat} {ok : Nat → Prop} {v : Value} (h : (Kd.slice 3 (Kd.int .i64)).R e w base ok v []) : (Kd.slice 3 (Kd.int .i64)).S e w base ok v [] := by
  obtain ⟨h0, inner, ho, hr⟩ := h
  exact ⟨fun _ => 0, h0, inner, ho, hr.1, fun j p hj => by simp at hj⟩

set_option maxHeartbeats 8000000 in
set_option maxRecDepth 100000 in
theorem inverted_e (A0 : Option Addr) (c0 n : Nat) (m : List (List Nat)) (w : World) (hm : Mat.MB' n m) (hmn : m.length = n) (h1 : 1 ≤ n) (h8 : n ≤ 8) (hr0 : Kd.C (Kd.slice 3 (Kd.int .i64)) w A0 (upM m).length (upM m)) (hc0 : (upM m).length ≤ c0) :
    Calls Try.prog 92 #[.slice A0 n c0] w fun e w' => ∃ v0_ : Value, e = .returned (.tuple #[v0_, .bool (invW m).2]) ∧ Kd.S (Kd.slice 3 (Kd.int .i64)) 23 w' w.heap.size (fun _ => True) v0_ (invW m).1 ∧ Below w.heap.size w w' := by
  have HM := Aside0.mk (show Mat.MB' n m ∧ m.length = n ∧ 1 ≤ n ∧ n ≤ 8 from ⟨hm, hmn, h1, h8⟩)
  have hul : (upM m).length = n := by rw [upM_length, hmn]
  have hil : (upM (Mat.idM n)).length = n := by rw [upM_length, Mat.idM_length]
  have hrow : ∀ i, (m.getD i []).length ≤ 1000 := fun i => by
    by_cases hi : i < m.length
    · rw [(hm.get hi).1]; omega
    · rw [List.getD_eq_getElem?_getD, List.getElem?_eq_none (by omega)]; simp
  have hrow2 : ∀ i, ((Mat.idM n).getD i []).length ≤ 1000 := fun i => by
    by_cases hi : i < (Mat.idM n).length
    · rw [((Mat.idM_MB n).get hi).1]; omega
    · rw [List.getD_eq_getElem?_getD, List.getElem?_eq_none (by omega)]; simp
  obtain ⟨K2, hk2⟩ := (impl_identity_ev n (by omega)).rounds
  obtain ⟨K3, hk3⟩ := (impl_beside_ev m (Mat.idM n) (by rw [hmn, Mat.idM_length]) (by omega) hrow hrow2).rounds
  rw [idL_up] at hk2
  have H2 := Aside0.mk hk2
  have H3 := Aside0.mk hk3
  have HR := Aside0.mk hr0
  have HC := Aside0.mk hc0
  have HUL := Aside0.mk (show (upM m).length = n ∧ (upM (Mat.idM n)).length = n from ⟨hul, hil⟩)
  have n0 : (0 : Int) ≤ (n : Int) := by omega
  have n1 : (n : Int) ≤ 8 := by omega
  clear hk2 hk3 hr0 hc0 hm hmn h1 h8 hul hil hrow hrow2
  go_enter Try.func92, Try.ntmps92
  go_wp2_with fail
  refine (impl_identity.calls K2 (n : Int) (upM (Mat.idM n)) w H2.out).mono ?_
  rintro e w1 ⟨v1, rfl, hS_, hb_⟩
  obtain ⟨B1, d1, rfl, hE_⟩ := (Env.Env.start (e := 23) (t := 3) w).madeS (by decide) hS_ hb_
  have hbes := impl_beside.calls K3 A0 c0 (upM m) B1 d1 (upM (Mat.idM n)) (upM (Mat.bes m (Mat.idM n))) w1 (hE_.came HR.out) HC.out (hE_.C (by decide) 0 rfl) (hE_.cap (by decide) 0 rfl) H3.out
  rw [HUL.out.1, HUL.out.2] at hbes
  rw [HUL.out.2] at hE_ ⊢
  have HBES := Aside0.mk hbes
  have ENV := Aside0.mk hE_
  clear hE_ hS_ hb_ hbes H3 H2
  go_wp2_with fail
  refine HBES.out.mono ?_
  rintro e w2 ⟨v2, rfl, hS_, hb_⟩
  obtain ⟨B2, d2, rfl, hE_⟩ := ENV.out.madeS (by decide) hS_ hb_
  have hPl : (Mat.bes m (Mat.idM n)).length = n := by rw [Mat.bes_length (by rw [HM.out.2.1, Mat.idM_length]), HM.out.2.1]
  obtain ⟨g, _, _, hB, _⟩ := hE_.mrow (by decide) (j := 0) rfl (i := 0) (by rw [upM_length, hPl]; have := HM.out.2.2.1; omega)
  subst hB
  rw [upM_length, hPl] at hE_ ⊢
  have hsv := solved_e hE_ 0 (m := Mat.bes m (Mat.idM n)) (c := d2) (A := some ⟨g, 0, none⟩) (by rw [hPl]; rfl) (cc := n + n) (Mat.bes_MB HM.out.1 (Mat.idM_MB n)) n (by omega) (by have := HM.out; omega) (by rw [hPl]; have := HM.out; omega) (by rw [hPl]; have := HM.out; omega)
  rw [hPl, Mat.bes_sv n 0 0 HM.out.1 (by rw [HM.out.2.1, Mat.idM_length]) (by omega)] at hsv
  have HSV := Aside0.mk hsv
  clear hE_ hS_ hb_ HBES hsv ENV hPl
  go_wp2_with fail
  refine HSV.out.mono ?_
  rintro e w3 ⟨rfl, hE3⟩
  obtain ⟨rk, hrk⟩ : ∃ rk, rk = (Mat.sv n 0 0 m).2 := ⟨_, rfl⟩
  obtain ⟨P, hP⟩ : ∃ P, P = (Mat.sv n 0 0 m).1 := ⟨_, rfl⟩
  obtain ⟨t, ht⟩ : ∃ t, t = Mat.sv2 n 0 0 m (Mat.idM n) := ⟨_, rfl⟩
  have HIV := Aside0.mk (show invW m = match (if rk < n then none else some t) with | none => ([], false) | some s => (upM s, true) from by
    unfold invW Mat.inv Mat.rank
    rw [HM.out.2.1, ← hrk, ← ht] <;> rfl)
  have HPT := Aside0.mk (show (Mat.MB' n P ∧ P.length = n) ∧ (Mat.MB' n t ∧ t.length = n) from by
    rw [hP, ht]
    exact ⟨⟨Mat.sv_MB _ _ _ HM.out.1, by rw [Mat.sv_length]; exact HM.out.2.1⟩, Mat.sv2_MB _ _ _ HM.out.1 (Mat.idM_MB n) (by rw [Mat.idM_length, HM.out.2.1]), by rw [Mat.sv2_length _ _ _ (by rw [Mat.idM_length, HM.out.2.1]), HM.out.2.1]⟩)
  try dsimp only at hE3
  try dsimp only
  rw [← hP, ← ht] at hE3
  rw [← hrk]
  replace hE3 : Env.Env 23 3 w w3 [(.slice (some ⟨g, 0, none⟩) n d2, .mat (upM (Mat.bes P t))), (.slice B1 n d1, .mat (upM (Mat.idM n)))] := hE3
  have ENV := Aside0.mk hE3
  clear hE3 HSV hrk hP ht
  by_cases hk : rk < n
  · have p1 : ((rk : Int) < (n : Int)) = True := eq_true (by omega)
    have p2 : (rk < n) = True := eq_true hk
    have HI := HIV.out
    rw [if_pos hk] at HI
    replace HI := Aside0.mk (show invW m = ([], false) from HI)
    have HBE := Aside0.mk ENV.out.1
    clear hk
    go_wp2
    go_ret2
    rw [HI.out]
    exact ⟨_, rfl, Kd.S_nil _ _ _ _ _, HBE.out⟩
  · have p1 : ((rk : Int) < (n : Int)) = False := eq_false (by omega)
    have p2 : (rk < n) = False := eq_false hk
    have HI := HIV.out
    rw [if_neg hk] at HI
    replace HI := Aside0.mk (show invW m = (upM t, true) from HI)
    clear hk
    go_wp2_with ((with_reducible refine gate_dst (N := 20) rfl ?_); refine Kd.R_lit (Kd.slice 3 (Kd.int .i64)) _ 23 ?hg (N := 20) ?hd (xs := ([] : List (List Int))) (inner := []) (ok := fun _ => True) (okp := fun _ => True) ?hr ?hp (fun _ hk => hk) trivial (Below.refl _ _) (Nat.le_refl _) (by simp) ?_; (case hd => rfl); (case hg => rfl); (case hr => first | (go_simp; done) | (go_simp; rfl)); (case hp => exact (Reps.none _ _)); intro v20 w20 ho20 hb20 _ _; have HBL0 := Aside0.mk hb20; have HSL0 := Aside0.mk (S_empty ho20); clear ho20 hb20)
    go_loopg [5, 23] n (fun gg v5 v23 wr => ∃ i : Nat, i ≤ n ∧ n - i ≤ gg ∧ v23 = .int .i64 i ∧ Aside0 ((Kd.slice 3 (Kd.int .i64)).S 23 wr w3.heap.size (fun _ => True) v5 (upM (t.take i))) ∧ Aside0 (Below w3.heap.size w3 wr))
    case atStart => exact ⟨0, Nat.zero_le _, by omega, rfl, HSL0, HBL0⟩
    case round =>
      clear HBL0 HSL0
      obtain ⟨i, hi', hgi, rfl, HS, HB⟩ := hrel
      have z0 : (0 : Int) ≤ (i : Int) := by omega
      have z1 : (i : Int) ≤ 100 := by omega
      by_cases hlt : i < n
      · have p3 : ((i : Int) < (n : Int)) = True := eq_true (by omega)
        have p4 : (i < n) = True := eq_true hlt
        have hE := ENV.out.below HB.out
        have hbl : (Mat.bes P t).length = n := by rw [Mat.bes_length (by rw [HPT.out.1.2, HPT.out.2.2]), HPT.out.1.2]
        have hbi : (Mat.bes P t).getD i [] = P.getD i [] ++ t.getD i [] := Mat.bes_at (by rw [HPT.out.1.2, HPT.out.2.2]) i
        have hpr := HPT.out.1.1.get (i := i) (by rw [HPT.out.1.2]; exact hlt)
        have htr := HPT.out.2.1.get (i := i) (by rw [HPT.out.2.2]; exact hlt)
        have hrl : (Poly.up ((Mat.bes P t).getD i [])).length = n + n := by rw [Poly.up_length, hbi, List.length_append, hpr.1, htr.1]
        have hdr : (Poly.up ((Mat.bes P t).getD i [])).drop n = Poly.up (t.getD i []) := by
          unfold Poly.up
          rw [hbi, List.map_append, List.drop_left' (by rw [List.length_map]; exact hpr.1)]
        obtain ⟨g', gu, cu, hA', hh, hcu, _, _, _⟩ := hE.mput2 (by decide) (j := 0) rfl (i := i) (q := 0) (by rw [upM_length, hbl]; exact hlt) (by rw [upM_getD, hrl]; omega)
        injection hA' with hA'
        injection hA' with hA'
        subst hA'
        obtain ⟨g', Au, cu', hA', hh2, _, _, _, hRu, _, _⟩ := hE.mrow (by decide) (j := 0) rfl (i := i) (by rw [upM_length, hbl]; exact hlt)
        injection hA' with hA'
        injection hA' with hA'
        subst hA'
        rw [upM_getD, hrl] at hh hcu hh2 hRu
        have hk2 := hh2.symm.trans hh
        injection hk2 with hk2
        injection hk2 with hk3 _ hk4
        subst hk3 hk4
        have hC := (Kd.R_reads' hRu).2.2
        have hCd := Kd.C_drop (m := n) hC (by rw [hrl]; omega) (show (Poly.up ((Mat.bes P t).getD i [])).length ≤ cu' from by rw [hrl]; exact hcu)
        have hcn : ¬ cu' = n := by omega
        rw [if_neg hcn, hdr] at hCd
        have eA : (some (⟨gu, 0, none⟩ : Addr)).map (·.add (n * (Kd.int .i64).sz)) = some ⟨gu, n, none⟩ := by
          show some ((⟨gu, 0, none⟩ : Addr).add (n * 1)) = _
          rw [Nat.mul_one, add_plain]
        rw [eA] at hCd
        obtain ⟨i0, hi0, _, hsz, _⟩ := info_parts infoJ
        have hcut := cut_from (P := Try.prog) 23 3 .i64 Try.underlying23 hi0 1 hsz (some ⟨gu, 0, none⟩) (n + n) cu' (n : Int) n0 (by omega)
        have htl : (Poly.up (t.getD i [])).length = n := by rw [Poly.up_length]; exact htr.1
        have hcl := slices_Clone_int_int.calls (some ⟨gu, n, none⟩) (cu' - n) (Poly.up (t.getD i [])) (Poly.up (t.getD i [])) wr hCd (by rw [htl]; omega) (by unfold slices_Clone_int_int.f; rw [if_pos (by rw [htl]; omega)])
        rw [htl] at hcl
        have HSL := Aside0.mk (show (upM (t.take i)).length ≤ 1000000 by rw [upM_length, List.length_take]; omega)
        have HTS := Aside0.mk (show upM (t.take i) ++ [Poly.up (t.getD i [])] = upM (t.take (i + 1)) from by
          have hi9 : i < t.length := by rw [HPT.out.2.2]; exact hlt
          rw [List.take_succ_eq_append_getElem hi9, ← upM_snoc, List.getD_eq_getElem?_getD, List.getElem?_eq_getElem hi9]; rfl)
        have HTL := Aside0.mk htl
        have q1 : (cu' = n) = False := eq_false hcn
        have q2 : n + n - n = n := by omega
        generalize t.getD i [] = row at hcl HTS HTL
        clear hi0 hsz eA hCd hcn hC hRu hh2 hdr hrl htr hpr hbi hbl hE htl
        go_wp2_with fail
        refine hcl.mono ?_
        rintro e w4 ⟨v1, rfl, hR1, hb1⟩
        obtain ⟨A9, c9, rfl⟩ := Kd.R_slice hR1
        have HB1 := Aside0.mk hb1
        have HR3 := Aside0.mk hR1
        clear hb1 hR1 hcl hcut
        go_wp2_with ((with_reducible refine gate_builtin (b := .append) (xs := #[.tmp 27, .tmp 33]) rfl ?_); at_builtin; refine app_event (w0 := w3) w3.heap.size rfl (.tmp 27) (.tmp 33) rfl _ (upM (t.take i)) A9 c9 (Poly.up row) rfl rfl HS.out HB1.out HR3.out ?aB ?aS HSL.out ?_; (case aB => exact below_step HB.out HB1.out); (case aS => exact HB.out.size); intro A10 c10 w2 hS2 hB2 HK2; rw [HTS.out] at hS2; have HS2 := Aside0.mk hS2; have HB2 := Aside0.mk hB2; clear hS2 hB2)
        go_roundg (n - (i + 1))
        case measure => omega
        case rel => exact ⟨i + 1, by omega, by omega, by go_num, HS2, HB2⟩
      · have p3 : ((i : Int) < (n : Int)) = False := eq_false (by omega)
        have p4 : (i < n) = False := eq_false hlt
        have hS := HS.out
        rw [show t.take i = t from by rw [List.take_of_length_le (by rw [HPT.out.2.2]; omega)]] at hS
        have HS' := Aside0.mk (Kd.S_lower hS ENV.out.1.size)
        have HBE := Aside0.mk (below_step ENV.out.1 HB.out)
        clear hS
        go_wp2
        go_ret2
        rw [HI.out]
        exact ⟨_, rfl, HS'.out, HBE.out⟩

def impl_InvertMatrix.f (l : List (List Int)) : Option (List (List Int) × Bool) := some (invV l)
theorem impl_InvertMatrix_eq (l : List (List Int)) : impl_InvertMatrix.f l = some (invV l) := rfl
set_option maxHeartbeats 4000000 in
theorem impl_InvertMatrix.calls (A0 : Option Addr) (c0 : Nat) (l0 : List (List Int)) (r1 : List (List Int)) (r2 : Bool) (w : World) (hr0 : Kd.C (Kd.slice 3 (Kd.int .i64)) w A0 l0.length l0) (hc0 : l0.length ≤ c0) (h : impl_InvertMatrix.f l0 = some (r1, r2)) :
    Calls Try.prog 22 #[.slice A0 l0.length c0] w fun e w' => ∃ v0_ : Value, e = .returned (.tuple #[v0_, .bool r2]) ∧ Kd.S (Kd.slice 3 (Kd.int .i64)) 23 w' w.heap.size (fun _ => True) v0_ r1 ∧ Below w.heap.size w w' := by
  have HR := Aside0.mk hr0
  have HC := Aside0.mk hc0
  clear hr0 hc0
  unfold impl_InvertMatrix.f at h
  have H0 := Option.some.inj h
  clear h
  have hk := impl_GoodMatrix_eq l0
  cases hg : goodM l0 with
  | false =>
    rw [hg] at hk
    have H1 := Aside0.mk hk
    unfold invV at H0
    rw [hg] at H0
    injection H0 with e1 e2
    subst e1 e2
    clear hk hg
    go_enter Try.func22, Try.ntmps22
    go_wp2_with (go_at_call 27; refine (impl_GoodMatrix.calls A0 c0 l0 false _ HR.out HC.out H1.out).mono ?_; rintro e w' ⟨rfl, hb⟩; have HB := Aside0.mk hb; clear hb)
    go_ret2
    exact ⟨_, rfl, Kd.S_nil _ _ _ _ _, HB.out⟩
  | true =>
    rw [hg] at hk
    have H1 := Aside0.mk hk
    obtain ⟨c, m, rfl, hm, e1, e2, h1, h2, h3, h4⟩ := goodM_up hg
    have hlen : 0 < (upM m).length := by rw [upM_length]; omega
    obtain ⟨ad, A1, c1, rfl, hx, hl1, hi1⟩ := Mx.rows_at HR.out 0 hlen hlen
    have e0 : (upM m).getD 0 [] = (upM m)[0] := by rw [List.getD_eq_getElem?_getD, List.getElem?_eq_getElem hlen]; rfl
    rw [Addr.add_zero'] at hx
    have e3 : (upM m)[0].length = c := by rw [← e0, e1]
    generalize (upM m)[0] = r0 at hx hl1 hi1 e3
    have p0 := eq_true hlen
    have p1 : (0 < ((upM m).length : Int)) = True := eq_true (by omega)
    have HX := Aside0.mk hx
    by_cases hq : m.length = c
    · have hv : invV (upM m) = invW m := by
        unfold invV invW
        rw [hg, e1, upM_length, decide_eq_true hq, dnM_upM]
        rfl
      rw [hv] at H0
      have H0' := Aside0.mk H0
      have q1 : (((upM m).length : Int) != (r0.length : Int)) = false := by rw [upM_length, e3, hq]; simp
      have q2 : ((upM m).length != r0.length) = false := by rw [upM_length, e3, hq]; simp
      have HI := Aside0.mk (fun w' (hC : Kd.C (Kd.slice 3 (Kd.int .i64)) w' (some ad) (upM m).length (upM m)) => show Calls Try.prog 92 #[.slice (some ad) (upM m).length c0] w' _ from by
        have h9 := inverted_e (some ad) c0 c m w' hm hq h3 h4 hC HC.out
        rw [show c = (upM m).length from by rw [upM_length, hq]] at h9
        exact h9)
      clear H0 hv hk hg hm e0 e1 e2 e3 h1 h2 h3 h4 hl1 hi1 hq hlen hx
      go_enter Try.func22, Try.ntmps22
      go_wp2_with (first | (go_at_call 27; refine (impl_GoodMatrix.calls (some ad) c0 (upM m) true _ HR.out HC.out H1.out).mono ?_; rintro e w' ⟨rfl, hb⟩; have HB := Aside0.mk hb; have hx2 := pw_cell_below hb HX.out; clear hb) | (go_at_call 92; refine (HI.out _ (Kd.C_below HR.out HB.out)).mono ?_; rintro e w2 ⟨v2, rfl, hS_, hb_⟩; have HS_ := Aside0.mk hS_; have HB_ := Aside0.mk hb_; clear hS_ hb_))
      go_ret2
      have e9 := H0'.out
      rw [e9] at HS_
      rw [e9]
      exact ⟨_, rfl, Kd.S_lower HS_.out HB.out.size, below_step HB.out HB_.out⟩
    · have hv : invV (upM m) = ([], false) := by
        unfold invV
        rw [hg, e1, upM_length, decide_eq_false hq]
        rfl
      rw [hv] at H0
      injection H0 with e8 e9
      subst e8 e9
      have q1 : (((upM m).length : Int) != (r0.length : Int)) = true := by rw [upM_length, e3, bne_iff_ne]; omega
      have q2 : ((upM m).length != r0.length) = true := by rw [upM_length, e3, bne_iff_ne]; exact hq
      clear hv hk hg hm e0 e1 e2 e3 h1 h2 h3 h4 hl1 hi1 hq hlen hx
      go_enter Try.func22, Try.ntmps22
      go_wp2_with (go_at_call 27; refine (impl_GoodMatrix.calls (some ad) c0 (upM m) true _ HR.out HC.out H1.out).mono ?_; rintro e w' ⟨rfl, hb⟩; have HB := Aside0.mk hb; have hx2 := pw_cell_below hb HX.out; clear hb)
      go_ret2
      exact ⟨_, rfl, Kd.S_nil _ _ _ _ _, HB.out⟩

set_option maxHeartbeats 2000000 in
set_option maxRecDepth 100000 in
theorem l2invert_e (A0 : Option Addr) (c0 n : Nat) (m : List (List Nat)) (w : World) (hm : Mat.MB' n m) (hmn : m.length = n) (h1 : 1 ≤ n) (h8 : n ≤ 8) (hr0 : Kd.C (Kd.slice 3 (Kd.int .i64)) w A0 (upM m).length (upM m)) (hc0 : (upM m).length ≤ c0) :
    Calls Try.prog 94 #[.slice A0 (upM m).length c0] w fun e w' => ∃ v0_ : Value, e = .returned (.tuple #[v0_, .bool (invW m).2]) ∧ Kd.S (Kd.slice 3 (Kd.int .i64)) 23 w' w.heap.size (fun _ => True) v0_ (invW m).1 ∧ Below w.heap.size w w' := by
  have HM := Aside0.mk (show Mat.MB' n m ∧ m.length = n ∧ 1 ≤ n ∧ n ≤ 8 from ⟨hm, hmn, h1, h8⟩)
  have hul : (upM m).length = n := by rw [upM_length, hmn]
  obtain ⟨K1, hk1⟩ := (spec_l2Own_ev (upM m) (by rw [hul]; omega) (fun r hr => by have := (upM_small hm (k := 8) (by omega) (by omega)).2 r hr; omega)).rounds
  obtain ⟨K2, hk2⟩ := (spec_l2Identity_ev n (by omega)).rounds
  rw [idL_up, show (n : Int) = ((upM m).length : Int) from by rw [hul]] at hk2
  have H1 := Aside0.mk hk1
  have H2 := Aside0.mk hk2
  have HR := Aside0.mk hr0
  have HC := Aside0.mk hc0
  have HG := Aside0.mk (show invW m = match gj n 0 m (Mat.idM n) with | none => ([], false) | some s => (upM s, true) from by rw [← hmn, gj_inv]; rfl)
  have n0 : (0 : Int) ≤ (n : Int) := by omega
  have n1 : (n : Int) ≤ 8 := by omega
  clear hk1 hk2 hr0 hc0 hm hmn h1 h8 hul
  go_enter Try.func94, Try.ntmps94
  go_wp2_with fail
  refine (spec_l2Own.calls K1 A0 c0 (upM m) (upM m) w HR.out HC.out H1.out).mono ?_
  rintro e w1 ⟨v1, rfl, hS_, hb_⟩
  obtain ⟨B1, d1, rfl, hE_⟩ := (Env.Env.start (e := 23) (t := 3) w).madeS (by decide) hS_ hb_
  obtain ⟨g1, _, _, hB, _⟩ := hE_.mrow (by decide) (j := 0) rfl (i := 0) (by rw [upM_length, HM.out.2.1]; have := HM.out.2.2.1; omega)
  subst hB
  have ENV := Aside0.mk hE_
  clear hE_ hS_ hb_
  go_wp2_with fail
  refine (spec_l2Identity.calls K2 ((upM m).length : Int) (upM (Mat.idM n)) _ H2.out).mono ?_
  rintro e w2 ⟨v2, rfl, hS_, hb_⟩
  obtain ⟨B2, d2, rfl, hE_⟩ := ENV.out.madeS (by decide) hS_ hb_
  obtain ⟨g2, _, _, hB, _⟩ := hE_.mrow (by decide) (j := 0) rfl (i := 0) (by rw [upM_length, Mat.idM_length]; have := HM.out.2.2.1; omega)
  subst hB
  rw [upM_length, upM_length, Mat.idM_length, HM.out.2.1] at hE_
  rw [upM_length, upM_length, Mat.idM_length, HM.out.2.1]
  replace ENV := Aside0.mk hE_
  clear hE_ hS_ hb_
  go_wp2
  go_loopg [14] n (fun gg s14 wr => ∃ (i : Nat) (M1 S1 : List (List Nat)), i ≤ n ∧ n - i ≤ gg ∧ s14 = .int .i64 i ∧ Aside0 (gj (n - i) i M1 S1 = gj n 0 m (Mat.idM n)) ∧ Aside0 (Mat.MB' n M1 ∧ M1.length = n ∧ Mat.MB' n S1 ∧ S1.length = n) ∧ Aside0 (Env.Env 23 3 w wr [(.slice (some ⟨g2, 0, none⟩) n d2, .mat (upM S1)), (.slice (some ⟨g1, 0, none⟩) n d1, .mat (upM M1))]))
  case atStart => exact ⟨0, m, Mat.idM n, Nat.zero_le _, by omega, rfl, ⟨rfl⟩, ⟨HM.out.1, HM.out.2.1, Mat.idM_MB n, Mat.idM_length n⟩, ENV⟩
  case round =>
    clear ENV
    obtain ⟨i, M1, S1, hi', hgi, rfl, HJ, HB, ENV⟩ := hrel
    have z0 : (0 : Int) ≤ (i : Int) := by omega
    have z1 : (i : Int) ≤ 100 := by omega
    by_cases hlt : i < n
    · have p1 : ((i : Int) < (n : Int)) = True := eq_true (by omega)
      have hcl := l2clear_e ENV.out 1 0 (by decide) (g1 := g1) (c1 := d1) (g2 := g2) (c2 := d2) (n := n) (m := M1) (s := S1) rfl rfl HB.out.1 HB.out.2.2.1 HB.out.2.1 HB.out.2.2.2 (by have := HM.out; omega) (by have := HM.out; omega) (by have := HM.out; omega) (r := i) (k := i) hlt hlt (by have := HM.out; omega)
      cases hpv : Mat.pv i (M1.drop i) with
      | none =>
        rw [hpv] at hcl
        have HCL := Aside0.mk hcl
        have HI := Aside0.mk (show invW m = ([], false) from by
          rw [HG.out, ← HJ.out, show n - i = (n - (i + 1)) + 1 by omega]
          unfold gj
          rw [hpv])
        clear hcl hpv
        go_wp2_with fail
        refine HCL.out.mono ?_
        rintro e w3 ⟨he, hE⟩
        replace he : e = .returned (.bool false) := he
        subst he
        have HBE := Aside0.mk hE.1
        clear hE HCL
        go_wp2
        go_ret2
        rw [HI.out]
        exact ⟨_, rfl, Kd.S_nil _ _ _ _ _, HBE.out⟩
      | some q =>
        rw [hpv] at hcl
        have HCL := Aside0.mk hcl
        have HI := Aside0.mk (show gj (n - (i + 1)) (i + 1) (clr1 M1 i i) (clr2 M1 S1 i i) = gj n 0 m (Mat.idM n) from by
          rw [← HJ.out, show n - i = (n - (i + 1)) + 1 by omega]
          conv => rhs; unfold gj
          rw [hpv])
        clear hcl hpv
        go_wp2_with fail
        refine HCL.out.mono ?_
        rintro e w3 ⟨he, hE⟩
        replace he : e = .returned (.bool true) := he
        subst he
        have HEE := Aside0.mk hE
        clear hE HCL
        go_wp2
        go_roundg (n - (i + 1))
        case measure => omega
        case rel => exact ⟨i + 1, clr1 M1 i i, clr2 M1 S1 i i, by omega, by omega, by go_num, HI, ⟨clr1_MB HB.out.1 _ _ (by rw [HB.out.2.1]; exact hlt), by rw [clr1_length]; exact HB.out.2.1, clr2_MB HB.out.1 HB.out.2.2.1 (by rw [HB.out.2.1, HB.out.2.2.2]) _ _ (by rw [HB.out.2.1]; exact hlt), by rw [clr2_length (by rw [HB.out.2.1, HB.out.2.2.2]), HB.out.2.1]⟩, HEE⟩
    · have p1 : ((i : Int) < (n : Int)) = False := eq_false (by omega)
      have HI := Aside0.mk (show invW m = (upM S1, true) from by
        rw [HG.out, ← HJ.out, show n - i = 0 by omega]
        rfl)
      obtain ⟨lo_, hi_, hlo_, _, ⟨vs_, hM_⟩, _⟩ := ENV.out.turn 0 rfl
      have HS_ := Aside0.mk (Kd.S_mono (ok' := fun _ => True) (Kd.S_lower (hM_.S (by decide)) hlo_) (fun _ _ => trivial))
      have HBE := Aside0.mk ENV.out.1
      clear hM_
      go_wp2
      go_ret2
      rw [HI.out]
      exact ⟨_, rfl, HS_.out, HBE.out⟩
def spec_InvertMatrix.f (l : List (List Int)) : Option (List (List Int) × Bool) := if l.length ≤ 1048576 ∧ (∀ r ∈ l, r.length ≤ 1048576) then some (invV l) else none
set_option maxHeartbeats 4000000 in
theorem spec_InvertMatrix.calls (A0 : Option Addr) (c0 : Nat) (l0 : List (List Int)) (r1 : List (List Int)) (r2 : Bool) (w : World) (hr0 : Kd.C (Kd.slice 3 (Kd.int .i64)) w A0 l0.length l0) (hc0 : l0.length ≤ c0) (h : spec_InvertMatrix.f l0 = some (r1, r2)) :
    Calls Try.prog 23 #[.slice A0 l0.length c0] w fun e w' => ∃ v0_ : Value, e = .returned (.tuple #[v0_, .bool r2]) ∧ Kd.S (Kd.slice 3 (Kd.int .i64)) 23 w' w.heap.size (fun _ => True) v0_ r1 ∧ Below w.heap.size w w' := by
  have HR := Aside0.mk hr0
  have HC := Aside0.mk hc0
  clear hr0 hc0
  unfold spec_InvertMatrix.f at h
  split at h
  rotate_left
  · cases h
  rename_i hsz
  have H0 := Option.some.inj h
  clear h
  obtain ⟨K, hk⟩ := (spec_GoodMatrix_ev l0 (by omega) (fun r h => by have := hsz.2 r h; omega)).rounds
  clear hsz
  cases hg : goodM l0 with
  | false =>
    rw [hg] at hk
    have H1 := Aside0.mk hk
    unfold invV at H0
    rw [hg] at H0
    injection H0 with e1 e2
    subst e1 e2
    clear hk hg
    go_enter Try.func23, Try.ntmps23
    go_wp2_with (go_at_call 93; refine (spec_GoodMatrix.calls K A0 c0 l0 false _ HR.out HC.out H1.out).mono ?_; rintro e w' ⟨rfl, ⟨nd1, rfl⟩⟩)
    go_ret2
    exact ⟨_, rfl, Kd.S_nil _ _ _ _ _, by repeat (first | exact Below.refl _ _ | apply pw_below_drewN)⟩
  | true =>
    rw [hg] at hk
    have H1 := Aside0.mk hk
    obtain ⟨c, m, rfl, hm, e1, e2, h1, h2, h3, h4⟩ := goodM_up hg
    have hlen : 0 < (upM m).length := by rw [upM_length]; omega
    obtain ⟨ad, A1, c1, rfl, hx, hl1, hi1⟩ := Mx.rows_at HR.out 0 hlen hlen
    have e0 : (upM m).getD 0 [] = (upM m)[0] := by rw [List.getD_eq_getElem?_getD, List.getElem?_eq_getElem hlen]; rfl
    rw [Addr.add_zero'] at hx
    have e3 : (upM m)[0].length = c := by rw [← e0, e1]
    generalize (upM m)[0] = r0 at hx hl1 hi1 e3
    have p0 := eq_true hlen
    have p1 : (0 < ((upM m).length : Int)) = True := eq_true (by omega)
    by_cases hq : m.length = c
    · have hv : invV (upM m) = invW m := by
        unfold invV invW
        rw [hg, e1, upM_length, decide_eq_true hq, dnM_upM]
        rfl
      rw [hv] at H0
      have H0' := Aside0.mk H0
      have q1 : (((upM m).length : Int) != (r0.length : Int)) = false := by rw [upM_length, e3, hq]; simp
      have q2 : ((upM m).length != r0.length) = false := by rw [upM_length, e3, hq]; simp
      have HI := Aside0.mk (fun w' (hC : Kd.C (Kd.slice 3 (Kd.int .i64)) w' (some ad) (upM m).length (upM m)) => l2invert_e (some ad) c0 c m w' hm hq h3 h4 hC HC.out)
      clear H0 hv hk hg hm e0 e1 e2 e3 h1 h2 h3 h4 hl1 hi1 hq hlen
      go_enter Try.func23, Try.ntmps23
      go_wp2_with (first | (go_at_call 93; refine (spec_GoodMatrix.calls K (some ad) c0 (upM m) true _ HR.out HC.out H1.out).mono ?_; rintro e w' ⟨rfl, ⟨nd1, rfl⟩⟩) | (go_at_call 94; refine (HI.out _ (Kd.C_drewN HR.out _)).mono ?_; rintro e w' ⟨v2, rfl, hS_, hb_⟩; have HS_ := Aside0.mk hS_; have HB_ := Aside0.mk hb_; clear hS_ hb_))
      go_ret2
      have e9 := H0'.out
      rw [e9] at HS_ 
      rw [e9]
      exact ⟨_, rfl, HS_.out, below_step (pw_below_drewN (Below.refl _ _) _) HB_.out⟩
    · have hv : invV (upM m) = ([], false) := by
        unfold invV
        rw [hg, e1, upM_length, decide_eq_false hq]
        rfl
      rw [hv] at H0
      injection H0 with e8 e9
      subst e8 e9
      have q1 : (((upM m).length : Int) != (r0.length : Int)) = true := by rw [upM_length, e3, bne_iff_ne]; omega
      have q2 : ((upM m).length != r0.length) = true := by rw [upM_length, e3, bne_iff_ne]; exact hq
      clear hv hk hg hm e0 e1 e2 e3 h1 h2 h3 h4 hl1 hi1 hq hlen
      go_enter Try.func23, Try.ntmps23
      go_wp2_with (go_at_call 93; refine (spec_GoodMatrix.calls K (some ad) c0 (upM m) true _ HR.out HC.out H1.out).mono ?_; rintro e w' ⟨rfl, ⟨nd1, rfl⟩⟩)
      go_ret2
      exact ⟨_, rfl, Kd.S_nil _ _ _ _ _, by repeat (first | exact Below.refl _ _ | apply pw_below_drewN)⟩
theorem spec_InvertMatrix_ev (l : List (List Int)) (h : l.length ≤ 1048576) (hr : ∀ r ∈ l, r.length ≤ 1048576) : spec_InvertMatrix.f l = some (invV l) := if_pos ⟨h, hr⟩

def impl_RankOf.f (l : List (List Int)) : Option (Int × Bool) := some (rankV l)
theorem impl_RankOf_eq (l : List (List Int)) : impl_RankOf.f l = some (rankV l) := rfl
set_option maxHeartbeats 4000000 in
set_option maxRecDepth 100000 in
theorem impl_RankOf.calls (A0 : Option Addr) (c0 : Nat) (l0 : List (List Int)) (r1 : Int) (r2 : Bool) (w : World) (hr0 : Kd.C (Kd.slice 3 (Kd.int .i64)) w A0 l0.length l0) (hc0 : l0.length ≤ c0) (h : impl_RankOf.f l0 = some (r1, r2)) :
    Calls Try.prog 24 #[.slice A0 l0.length c0] w fun e w' => e = .returned (.tuple #[.int .i64 r1, .bool r2]) ∧ Below w.heap.size w w' := by
  have HR := Aside0.mk hr0
  have HC := Aside0.mk hc0
  clear hr0 hc0
  unfold impl_RankOf.f at h
  have H0 := Option.some.inj h
  clear h
  have hk := impl_GoodMatrix_eq l0
  cases hg : goodM l0 with
  | false =>
    rw [hg] at hk
    have H1 := Aside0.mk hk
    unfold rankV at H0
    rw [hg] at H0
    injection H0 with e1 e2
    subst e1 e2
    clear hk hg
    go_enter Try.func24, Try.ntmps24
    go_wp2_with (go_at_call 27; refine (impl_GoodMatrix.calls A0 c0 l0 false _ HR.out HC.out H1.out).mono ?_; rintro e w' ⟨rfl, hb⟩; have HB := Aside0.mk hb; clear hb)
    go_ret2
    exact ⟨rfl, HB.out⟩
  | true =>
    rw [hg] at hk
    have H1 := Aside0.mk hk
    obtain ⟨c, m, rfl, hm, e1, e2, h1, h2, h3, h4⟩ := goodM_up hg
    have HRV := Aside0.mk (show rankV (upM m) = (((Mat.sv c 0 0 m).2 : Int), true) from by
      unfold rankV
      rw [hg, e1, dnM_upM]
      rfl)
    obtain ⟨n, hn⟩ : ∃ n, n = m.length := ⟨_, rfl⟩
    have HM := Aside0.mk (show Mat.MB' c m ∧ m.length = n ∧ 1 ≤ n ∧ n ≤ 8 ∧ 1 ≤ c ∧ c ≤ 8 from ⟨hm, hn.symm, by omega, by omega, h3, h4⟩)
    have HUL := Aside0.mk (show (upM m).length = n from by rw [upM_length, hn])
    have HRR := Aside0.mk H0
    have hlen : 0 < (upM m).length := by rw [upM_length]; omega
    obtain ⟨ad, A1, c1, rfl, hx, hl1, hi1⟩ := Mx.rows_at HR.out 0 hlen hlen
    have e0 : (upM m).getD 0 [] = (upM m)[0] := by rw [List.getD_eq_getElem?_getD, List.getElem?_eq_getElem hlen]; rfl
    rw [Addr.add_zero'] at hx
    have e3 : (upM m)[0].length = c := by rw [← e0, e1]
    rw [e3] at hx
    have p0 := eq_true hlen
    have p1 : (0 < ((upM m).length : Int)) = True := eq_true (by omega)
    have HX := Aside0.mk hx
    clear H0 hk hg hm e0 e1 e2 e3 h1 h2 h3 h4 hn hx hl1 hi1 hlen
    go_enter Try.func24, Try.ntmps24
    go_wp2_with (first | (go_at_call 27; refine (impl_GoodMatrix.calls (some ad) c0 (upM m) true _ HR.out HC.out H1.out).mono ?_; rintro e w3 ⟨rfl, hb⟩; have HBW := Aside0.mk hb; clear hb) | ((with_reducible refine gate_dst (N := 10) rfl ?_); refine Kd.R_lit (Kd.slice 3 (Kd.int .i64)) _ 23 ?hg (N := 10) ?hd (xs := ([] : List (List Int))) (inner := []) (ok := fun _ => True) (okp := fun _ => True) ?hr ?hp (fun _ hk => hk) trivial (Below.refl _ _) (Nat.le_refl _) (by simp) ?_; (case hd => rfl); (case hg => rfl); (case hr => first | (go_simp; done) | (go_simp; rfl)); (case hp => exact (Reps.none _ _)); intro v20 w20 ho20 hb20 _ _; have HBL0 := Aside0.mk hb20; have HSL0 := Aside0.mk (S_empty ho20); clear ho20 hb20))
    go_loopg [4, 13] n (fun gg v5 v23 wr => ∃ i : Nat, i ≤ n ∧ n - i ≤ gg ∧ v23 = .int .i64 i ∧ Aside0 ((Kd.slice 3 (Kd.int .i64)).S 23 wr w3.heap.size (fun _ => True) v5 (upM (m.take i))) ∧ Aside0 (Below w3.heap.size w3 wr))
    case atStart => exact ⟨0, Nat.zero_le _, by omega, rfl, HSL0, HBL0⟩
    case round =>
      clear HBL0 HSL0
      obtain ⟨i, hi', hgi, rfl, HS, HB⟩ := hrel
      have z0 : (0 : Int) ≤ (i : Int) := by omega
      have z1 : (i : Int) ≤ 100 := by have := HM.out; omega
      by_cases hlt : i < n
      · have hil : i < (upM m).length := by rw [HUL.out]; exact hlt
        have p3 : ((i : Int) < ((upM m).length : Int)) = True := eq_true (by omega)
        have p4 : (i < (upM m).length) = True := eq_true hil
        obtain ⟨ad0, A2, c2, e9, hx2, hl2, hr2⟩ := Mx.rows_at HR.out i hil hil
        injection e9 with e9
        subst e9
        have hri := HM.out.1.get (i := i) (by rw [HM.out.2.1]; exact hlt)
        have erow : (upM m)[i] = Poly.up (m.getD i []) := by
          have h9 := upM_getD m i
          rw [List.getD_eq_getElem?_getD, List.getElem?_eq_getElem hil] at h9
          exact h9
        rw [erow] at hx2 hl2 hr2
        have hxb := pw_cell_below (below_step HBW.out HB.out) hx2
        have hcl := slices_Clone_int_int.calls A2 c2 (Poly.up (m.getD i [])) (Poly.up (m.getD i [])) wr (Kd.C_below hr2 (below_step HBW.out HB.out)) hl2 (by unfold slices_Clone_int_int.f; rw [if_pos (by rw [Poly.up_length, hri.1]; have := HM.out; omega)])
        have HSL := Aside0.mk (show (upM (m.take i)).length ≤ 1000000 by rw [upM_length, List.length_take]; have := HM.out; omega)
        have HTS := Aside0.mk (show upM (m.take i) ++ [Poly.up (m.getD i [])] = upM (m.take (i + 1)) from by
          have hi9 : i < m.length := by rw [HM.out.2.1]; exact hlt
          rw [List.take_succ_eq_append_getElem hi9, ← upM_snoc, List.getD_eq_getElem?_getD, List.getElem?_eq_getElem hi9]; rfl)
        generalize m.getD i [] = row at hxb hcl HTS hl2
        clear hx2 hr2 hri erow hil
        go_wp2_with fail
        refine hcl.mono ?_
        rintro e w4 ⟨v1, rfl, hR1, hb1⟩
        obtain ⟨A9, c9, rfl⟩ := Kd.R_slice hR1
        have HB1 := Aside0.mk hb1
        have HR3 := Aside0.mk hR1
        clear hb1 hR1 hcl
        go_wp2_with ((with_reducible refine gate_builtin (b := .append) (xs := #[.tmp 17, .tmp 20]) rfl ?_); at_builtin; refine app_event (w0 := w3) w3.heap.size rfl (.tmp 17) (.tmp 20) rfl _ (upM (m.take i)) A9 c9 (Poly.up row) rfl rfl HS.out HB1.out HR3.out ?aB ?aS HSL.out ?_; (case aB => exact below_step HB.out HB1.out); (case aS => exact HB.out.size); intro A10 c10 w2 hS2 hB2 HK2; rw [HTS.out] at hS2; have HS2 := Aside0.mk hS2; have HB2 := Aside0.mk hB2; clear hS2 hB2)
        go_roundg (n - (i + 1))
        case measure => omega
        case rel => exact ⟨i + 1, by omega, by omega, by go_num, HS2, HB2⟩
      · have p3 : ((i : Int) < ((upM m).length : Int)) = False := eq_false (by have := HUL.out; omega)
        have p4 : (i < (upM m).length) = False := eq_false (by have := HUL.out; omega)
        have hS := HS.out
        rw [show m.take i = m from by rw [List.take_of_length_le (by rw [HM.out.2.1]; omega)]] at hS
        have hxb := pw_cell_below (below_step HBW.out HB.out) HX.out
        obtain ⟨B1, d1, rfl, hE⟩ := (Env.Env.start (e := 23) (t := 3) w3).madeS (by decide) hS HB.out
        have hsv := solved_e hE 0 (m := m) (c := d1) (A := B1) (by rw [upM_length]; rfl) (cc := c) HM.out.1 c (Nat.le_refl _) (by have := HM.out; omega) (by have := HM.out; omega) (by have := HM.out; omega)
        rw [show m.length = (upM m).length from (upM_length m).symm] at hsv
        have HSV := Aside0.mk hsv
        clear hS hsv hE
        go_wp2_with fail
        refine HSV.out.mono ?_
        rintro e w5 ⟨rfl, hE5⟩
        have HBE := Aside0.mk (below_step HBW.out hE5.1)
        clear hE5 HSV
        go_wp2
        go_ret2
        have h9 := HRR.out
        rw [HRV.out] at h9
        injection h9 with e8 e9
        subst e8 e9
        exact ⟨rfl, HBE.out⟩

def spec_RankOf.f (l : List (List Int)) : Option (Int × Bool) := if l.length ≤ 1048576 ∧ (∀ r ∈ l, r.length ≤ 1048576) then some (rankV l) else none
theorem spec_RankOf_ev (l : List (List Int)) (h : l.length ≤ 1048576) (hr : ∀ r ∈ l, r.length ≤ 1048576) : spec_RankOf.f l = some (rankV l) := if_pos ⟨h, hr⟩
set_option maxHeartbeats 4000000 in
set_option maxRecDepth 100000 in
theorem spec_RankOf.calls (A0 : Option Addr) (c0 : Nat) (l0 : List (List Int)) (r1 : Int) (r2 : Bool) (w : World) (hr0 : Kd.C (Kd.slice 3 (Kd.int .i64)) w A0 l0.length l0) (hc0 : l0.length ≤ c0) (h : spec_RankOf.f l0 = some (r1, r2)) :
    Calls Try.prog 25 #[.slice A0 l0.length c0] w fun e w' => e = .returned (.tuple #[.int .i64 r1, .bool r2]) ∧ Below w.heap.size w w' := by
  have HR := Aside0.mk hr0
  have HC := Aside0.mk hc0
  clear hr0 hc0
  unfold spec_RankOf.f at h
  split at h
  rotate_left
  · cases h
  rename_i hsz
  have H0 := Option.some.inj h
  clear h
  obtain ⟨K, hk⟩ := (spec_GoodMatrix_ev l0 (by omega) (fun r h => by have := hsz.2 r h; omega)).rounds
  obtain ⟨K1, hk1⟩ := (spec_l2Own_ev l0 hsz.1 hsz.2).rounds
  have H2 := Aside0.mk hk1
  clear hsz hk1
  cases hg : goodM l0 with
  | false =>
    rw [hg] at hk
    have H1 := Aside0.mk hk
    unfold rankV at H0
    rw [hg] at H0
    injection H0 with e1 e2
    subst e1 e2
    clear hk hg
    go_enter Try.func25, Try.ntmps25
    go_wp2_with (go_at_call 93; refine (spec_GoodMatrix.calls K A0 c0 l0 false _ HR.out HC.out H1.out).mono ?_; rintro e w' ⟨rfl, ⟨nd1, rfl⟩⟩)
    go_ret2
    exact ⟨rfl, by repeat (first | exact Below.refl _ _ | apply pw_below_drewN)⟩
  | true =>
    rw [hg] at hk
    have H1 := Aside0.mk hk
    obtain ⟨c, m, rfl, hm, e1, e2, h1, h2, h3, h4⟩ := goodM_up hg
    have HRV := Aside0.mk (show rankV (upM m) = (((Mat.sv c 0 0 m).2 : Int), true) from by
      unfold rankV
      rw [hg, e1, dnM_upM]
      rfl)
    obtain ⟨n, hn⟩ : ∃ n, n = m.length := ⟨_, rfl⟩
    have HM := Aside0.mk (show Mat.MB' c m ∧ m.length = n ∧ 1 ≤ n ∧ n ≤ 8 ∧ 1 ≤ c ∧ c ≤ 8 from ⟨hm, hn.symm, by omega, by omega, h3, h4⟩)
    have HRR := Aside0.mk H0
    clear H0 hk hg hm e1 e2 h1 h2 h3 h4 hn
    go_enter Try.func25, Try.ntmps25
    go_wp2_with (go_at_call 93; refine (spec_GoodMatrix.calls K A0 c0 (upM m) true _ HR.out HC.out H1.out).mono ?_; rintro e w' ⟨rfl, ⟨nd1, rfl⟩⟩)
    have ENV := Aside0.mk ((Env.Env.start (e := 23) (t := 3) w).drewN nd1)
    refine (spec_l2Own.calls K1 A0 c0 (upM m) (upM m) _ (ENV.out.came HR.out) HC.out H2.out).mono ?_
    rintro e w1 ⟨v1, rfl, hS_, hb_⟩
    obtain ⟨B1, d1, rfl, hE_⟩ := ENV.out.madeS (by decide) hS_ hb_
    obtain ⟨g1, _, _, hB, _⟩ := hE_.mrow (by decide) (j := 0) rfl (i := 0) (by rw [upM_length, HM.out.2.1]; have := HM.out.2.2.1; omega)
    subst hB
    replace ENV := Aside0.mk hE_
    clear hE_ hS_ hb_
    go_wp2_with fail
    refine (spec_l2Own.calls K1 A0 c0 (upM m) (upM m) _ (ENV.out.came HR.out) HC.out H2.out).mono ?_
    rintro e w2 ⟨v2, rfl, hS_, hb_⟩
    obtain ⟨B2, d2, rfl, hE_⟩ := ENV.out.madeS (by decide) hS_ hb_
    obtain ⟨g2, _, _, hB, _⟩ := hE_.mrow (by decide) (j := 0) rfl (i := 0) (by rw [upM_length, HM.out.2.1]; have := HM.out.2.2.1; omega)
    subst hB
    rw [upM_length, HM.out.2.1] at hE_ ⊢
    replace ENV := Aside0.mk hE_
    clear hE_ hS_ hb_
    go_wp2
    go_loopg [6, 7] c (fun gg s6 s7 wr => ∃ (k r : Nat) (M1 S1 : List (List Nat)), k ≤ c ∧ c - k ≤ gg ∧ r ≤ n ∧ s7 = .int .i64 k ∧ s6 = .int .i64 r ∧ Aside0 (r ≤ k ∧ (r < n → (Mat.sv (c - k) k r M1).2 = (Mat.sv c 0 0 m).2) ∧ (r = n → r = (Mat.sv c 0 0 m).2)) ∧ Aside0 (Mat.MB' c M1 ∧ M1.length = n ∧ Mat.MB' c S1 ∧ S1.length = n) ∧ Aside0 (Env.Env 23 3 w wr [(.slice (some ⟨g2, 0, none⟩) n d2, .mat (upM S1)), (.slice (some ⟨g1, 0, none⟩) n d1, .mat (upM M1))]))
    case atStart => exact ⟨0, 0, m, m, Nat.zero_le _, by omega, Nat.zero_le _, rfl, rfl, ⟨Nat.le_refl _, fun _ => rfl, fun h => by have := HM.out.2.2.1; omega⟩, ⟨HM.out.1, HM.out.2.1, HM.out.1, HM.out.2.1⟩, ENV⟩
    case round =>
      clear ENV
      obtain ⟨k, r, M1, S1, hk', hgk, hrn', rfl, rfl, HJ, HB, ENV⟩ := hrel
      have z0 : (0 : Int) ≤ (k : Int) := by omega
      have z1 : (k : Int) ≤ 100 := by have := HM.out; omega
      have z2 : (0 : Int) ≤ (r : Int) := by omega
      have z3 : (r : Int) ≤ 100 := by have := HM.out; omega
      have z4 : (0 < n) = True := eq_true (by have := HM.out; omega)
      have z5 : (0 < (n : Int)) = True := eq_true (by have := HM.out; omega)
      have hrow := HB.out.1.get (i := 0) (by rw [HB.out.2.1]; have := HM.out; omega)
      obtain ⟨g', gu, cu, hA', hh, _, _, _, _⟩ := ENV.out.mput2 (by decide) (j := 1) rfl (i := 0) (q := 0) (by rw [upM_length, HB.out.2.1]; have := HM.out; omega) (by rw [upM_getD, Poly.up_length, hrow.1]; have := HM.out; omega)
      injection hA' with hA'
      injection hA' with hA'
      subst hA'
      rw [upM_getD, Poly.up_length, hrow.1] at hh
      clear hrow
      by_cases hkc : k < c
      · have p1 : ((k : Int) < (c : Int)) = True := eq_true (by omega)
        by_cases hrn : r < n
        · have p2 : ((r : Int) < (n : Int)) = True := eq_true (by omega)
          have hcl := l2clear_e ENV.out 1 0 (by decide) (g1 := g1) (c1 := d1) (g2 := g2) (c2 := d2) (n := n) (m := M1) (s := S1) rfl rfl HB.out.1 HB.out.2.2.1 HB.out.2.1 HB.out.2.2.2 (by have := HM.out; omega) (by have := HM.out; omega) (by have := HM.out; omega) (r := r) (k := k) hrn hkc (by have := HM.out; omega)
          have hsv := HJ.out.2.1 hrn
          rw [show c - k = (c - (k + 1)) + 1 by omega] at hsv
          conv at hsv => lhs; unfold Mat.sv
          have HMB := Aside0.mk (show Mat.MB' c (clr1 M1 r k) ∧ (clr1 M1 r k).length = n ∧ Mat.MB' c (clr2 M1 S1 r k) ∧ (clr2 M1 S1 r k).length = n from ⟨clr1_MB HB.out.1 _ _ (by rw [HB.out.2.1]; exact hrn), by rw [clr1_length]; exact HB.out.2.1, clr2_MB HB.out.1 HB.out.2.2.1 (by rw [HB.out.2.1, HB.out.2.2.2]) _ _ (by rw [HB.out.2.1]; exact hrn), by rw [clr2_length (by rw [HB.out.2.1, HB.out.2.2.2]), HB.out.2.1]⟩)
          cases hpv : Mat.pv k (M1.drop r) with
          | none =>
            rw [hpv] at hcl hsv
            have HCL := Aside0.mk hcl
            have HC1 := Aside0.mk (show clr1 M1 r k = M1 from by unfold clr1; rw [hpv])
            have HSV := Aside0.mk hsv
            clear hcl hpv hsv
            go_wp2_with fail
            refine HCL.out.mono ?_
            rintro e w3 ⟨he, hE⟩
            replace he : e = .returned (.bool false) := he
            subst he
            have HEE := Aside0.mk hE
            clear hE HCL
            go_wp2
            go_roundg (c - (k + 1))
            case measure => omega
            case rel => exact ⟨k + 1, r, clr1 M1 r k, clr2 M1 S1 r k, by omega, by omega, by omega, by go_num, rfl, ⟨by have := HJ.out.1; omega, fun _ => by rw [HC1.out]; exact HSV.out, fun h => by omega⟩, HMB, HEE⟩
          | some p =>
            rw [hpv] at hcl hsv
            have HCL := Aside0.mk hcl
            have HC1 := Aside0.mk (show clr1 M1 r k = Mat.est M1 r (r + p) k from by unfold clr1; rw [hpv])
            dsimp only at hsv
            rw [HB.out.2.1] at hsv
            have HSV := Aside0.mk hsv
            clear hcl hpv hsv
            go_wp2_with fail
            refine HCL.out.mono ?_
            rintro e w3 ⟨he, hE⟩
            replace he : e = .returned (.bool true) := he
            subst he
            have HEE := Aside0.mk hE
            clear hE HCL
            go_wp2
            go_roundg (c - (k + 1))
            case measure => omega
            case rel =>
              refine ⟨k + 1, r + 1, clr1 M1 r k, clr2 M1 S1 r k, by omega, by omega, by omega, by go_num, by go_num, ⟨by have := HJ.out.1; omega, fun h => ?_, fun h => ?_⟩, HMB, HEE⟩
              · have h9 := HSV.out
                rw [if_neg (by omega)] at h9
                rw [HC1.out]
                exact h9
              · have h9 := HSV.out
                rw [if_pos h] at h9
                exact h9
        · have hrn2 : r = n := by omega
          have p2 : ((r : Int) < (n : Int)) = False := eq_false (by omega)
          have HRK := Aside0.mk (HJ.out.2.2 hrn2)
          have HBE := Aside0.mk ENV.out.1
          clear hrn2
          go_wp2
          go_ret2
          have h9 := HRR.out
          rw [HRV.out, ← HRK.out] at h9
          injection h9 with e8 e9
          subst e8 e9
          exact ⟨rfl, HBE.out⟩
      · have p1 : ((k : Int) < (c : Int)) = False := eq_false (by omega)
        have HRK := Aside0.mk (show r = (Mat.sv c 0 0 m).2 from by
          by_cases hrn : r < n
          · have h9 := HJ.out.2.1 hrn
            rw [show c - k = 0 by omega] at h9
            exact h9
          · exact HJ.out.2.2 (by omega))
        have HBE := Aside0.mk ENV.out.1
        go_wp2
        go_ret2
        have h9 := HRR.out
        rw [HRV.out, ← HRK.out] at h9
        injection h9 with e8 e9
        subst e8 e9
        exact ⟨rfl, HBE.out⟩

set_option maxHeartbeats 8000000 in
set_option maxRecDepth 100000 in
theorem laws_FnMatrix_calls (A0 : Option Addr) (c0 : Nat) (l0 : List Int) (A1 : Option Addr) (c1 : Nat) (l1 : List Int) (w : World) (hr0 : (Kd.int .u8).C w A0 l0.length l0) (hc0 : l0.length ≤ c0) (y0 : l0.length * 1 ≤ 140737488351232) (hw0 : ∀ x ∈ l0, (Lit.int .u8 x).wf = true)
    (hr1 : (Kd.int .u8).C w A1 l1.length l1) (hc1 : l1.length ≤ c1) (y1 : l1.length * 1 ≤ 140737488351232) (hw1 : ∀ x ∈ l1, (Lit.int .u8 x).wf = true) :
    Calls Try.prog 4 #[.slice A0 l0.length c0, .slice A1 l1.length c1] w fun e w' => e = .returned (.bool true) ∧ Below w.heap.size w w' := by
  have HB := Aside0.mk (Below.refl w.heap.size w)
  have HR0 := Aside0.mk hr0
  have HR1 := Aside0.mk hr1
  have HC1 := Aside0.mk hc1
  by_cases hlen : l0.length + l1.length ≤ 1048576
  rotate_left
  · clear hr0 hr1 hc0 hc1
    go_enter Try.func4, Try.ntmps4
    go_wp2
    go_ret
    exact ⟨rfl, HB.out⟩
  obtain ⟨nn, hd3⟩ := spec_DrawIdentityOf_ex (wf_BY hw1)
  have cD1 := fun w (h : (Kd.int .u8).C w A0 l0.length l0) => drawInv_e A0 c0 l0 w (wf_BY hw0) h
  have cD2 := fun w (h : (Kd.int .u8).C w A1 l1.length l1) => drawMul_e A1 c1 l1 w (wf_BY hw1) h
  have cD3 := fun w (h : (Kd.int .u8).C w A1 l1.length l1) => spec_DrawIdentityOf.calls A1 c1 l1 nn w h HC1.out hd3
  clear hd3 hw0 hw1 hr0 hr1 hc0 hc1
  go_enter Try.func4, Try.ntmps4
  go_wp2_with fail
  refine (cD1 _ HR0.out).mono ?_
  rintro e w1 ⟨A2, n2, m, rfl, hm1, hm2, hm3, hn2, hC2, hb⟩
  replace HB := Aside0.mk hb
  replace HR1 := Aside0.mk (Kd.C_below HR1.out hb)
  have HP := Aside0.mk hC2
  have HN2 := Aside0.mk hn2
  have hE1 := spec_InvertMatrix_ev m (by omega) (fun r hr => by have := hm3 r hr; omega)
  have hE2 := impl_InvertMatrix_eq m
  have hE3 := spec_RankOf_ev m (by omega) (fun r hr => by have := hm3 r hr; omega)
  have hE4 := impl_RankOf_eq m
  have hE5 := impl_GoodMatrix_eq m
  rw [← rank_good] at hE5
  have hL := rank_law m
  have hI := @inv_law m
  have hsm := invV_small m
  have HMS := Aside0.mk (show 1 ≤ m.length ∧ m.length ≤ 1048576 ∧ ∀ r ∈ m, r.length ≤ 1048576 from ⟨hm1, by omega, fun r hr => by have := hm3 r hr; omega⟩)
  generalize invV m = g1 at hE1 hE2 hL hI hsm
  generalize rankV m = g2 at hE3 hE4 hE5 hL
  obtain ⟨v, ok⟩ := g1
  obtain ⟨r, one⟩ := g2
  have H1 := Aside0.mk hE1
  have H2 := Aside0.mk hE2
  have H3 := Aside0.mk hE3
  have H4 := Aside0.mk hE4
  have H5 := Aside0.mk hE5
  have HL := Aside0.mk hL
  have HIV := Aside0.mk hI
  have HVS := Aside0.mk (show v.length ≤ 1000000 ∧ ∀ r ∈ v, r.length ≤ 1000000 from ⟨by have := hsm.1; simp only at this; omega, fun r hr => by have := hsm.2 r hr; omega⟩)
  have x1 : (ok != ok) = false := by simp
  have x2 : (one != one) = false := by simp
  have x3 : (r != r) = false := by simp
  clear hb hC2 hn2 hE1 hE2 hE3 hE4 hE5 hL hI hsm hm1 hm2 hm3 HR0 cD1
  go_wp2_with fail
  refine (impl_InvertMatrix.calls A2 n2 m v ok _ HP.out HN2.out H2.out).mono ?_
  rintro e w2 ⟨va, rfl, hva, hb⟩
  obtain ⟨A3, n3, rfl, hn3, hC3⟩ := S_reads hva
  have HD := Aside0.mk hC3
  have HN3 := Aside0.mk hn3
  clear hva hC3 hn3
  replace HB := Aside0.mk (HB.out.trans (hb.mono HB.out.size))
  replace HR1 := Aside0.mk (Kd.C_below HR1.out hb)
  replace HP := Aside0.mk (Kd.C_below HP.out hb)
  clear hb
  go_wp2_with fail
  refine (spec_InvertMatrix.calls A2 n2 m v ok _ HP.out HN2.out H1.out).mono ?_
  rintro e w3 ⟨va, rfl, hva, hb⟩
  obtain ⟨A4, n4, rfl, hn4, hC4⟩ := S_reads hva
  have HE := Aside0.mk hC4
  have HN4 := Aside0.mk hn4
  clear hva hC4 hn4
  replace HB := Aside0.mk (HB.out.trans (hb.mono HB.out.size))
  replace HR1 := Aside0.mk (Kd.C_below HR1.out hb)
  replace HP := Aside0.mk (Kd.C_below HP.out hb)
  replace HD := Aside0.mk (Kd.C_below HD.out hb)
  clear hb
  go_wp2_with fail
  refine (impl_RankOf.calls A2 n2 m r one _ HP.out HN2.out H4.out).mono ?_
  rintro e w4 ⟨rfl, hb⟩
  replace HB := Aside0.mk (HB.out.trans (hb.mono HB.out.size))
  replace HR1 := Aside0.mk (Kd.C_below HR1.out hb)
  replace HP := Aside0.mk (Kd.C_below HP.out hb)
  replace HD := Aside0.mk (Kd.C_below HD.out hb)
  replace HE := Aside0.mk (Kd.C_below HE.out hb)
  clear hb
  go_wp2_with fail
  refine (spec_RankOf.calls A2 n2 m r one _ HP.out HN2.out H3.out).mono ?_
  rintro e w5 ⟨rfl, hb⟩
  replace HB := Aside0.mk (HB.out.trans (hb.mono HB.out.size))
  replace HR1 := Aside0.mk (Kd.C_below HR1.out hb)
  replace HP := Aside0.mk (Kd.C_below HP.out hb)
  replace HD := Aside0.mk (Kd.C_below HD.out hb)
  replace HE := Aside0.mk (Kd.C_below HE.out hb)
  clear hb
  go_wp2_with fail
  refine (sameL_c v HVS.out.1 HVS.out.2 HN3.out HN4.out _ HD.out HE.out).mono ?_
  rintro e w6 ⟨rfl, hb⟩
  replace HB := Aside0.mk (HB.out.trans (hb.mono HB.out.size))
  replace HR1 := Aside0.mk (Kd.C_below HR1.out hb)
  replace HP := Aside0.mk (Kd.C_below HP.out hb)
  replace HD := Aside0.mk (Kd.C_below HD.out hb)
  replace HE := Aside0.mk (Kd.C_below HE.out hb)
  clear hb
  go_wp2_with fail
  refine (impl_GoodMatrix.calls A2 n2 m one _ HP.out HN2.out H5.out).mono ?_
  rintro e w7 ⟨rfl, hb⟩
  replace HB := Aside0.mk (HB.out.trans (hb.mono HB.out.size))
  replace HR1 := Aside0.mk (Kd.C_below HR1.out hb)
  replace HP := Aside0.mk (Kd.C_below HP.out hb)
  replace HD := Aside0.mk (Kd.C_below HD.out hb)
  replace HE := Aside0.mk (Kd.C_below HE.out hb)
  clear hb
  clear HE HN4
  go_upto_region 10 with (fail)
  go_cut [107] (fun v107 wc => v107 = .bool false ∧ Aside0 (Below w.heap.size w wc) ∧ Aside0 ((Kd.int .u8).C wc A1 l1.length l1) ∧ Aside0 (Kd.C (Kd.slice 3 (Kd.int .i64)) wc A2 m.length m) ∧ Aside0 (Kd.C (Kd.slice 3 (Kd.int .i64)) wc A3 v.length v))
  case first =>
    as_aux_lemma =>
      clear cD2 cD3 HIV x1 x2 x3 H1 H2 H3 H4 H5
      cases one with
      | false =>
        clear HL
        go_wp2
        go_meet
        case rel => exact ⟨rfl, HB, HR1, HP, HD⟩
      | true =>
        have hok := (HL.out rfl).2
        replace hok : ok = _ := hok
        have h0 := HMS.out.1
        obtain ⟨ad, A5, c5, eA, hx, hl5, hC5⟩ := at_L2 HP.out 0 (Int.le_refl _) (by omega)
        cases eA
        rw [show Int.toNat 0 = 0 from rfl, Addr.add_zero'] at hx
        rw [show rd_L2 m 0 = m.getD 0 [] from rfl] at hx
        generalize (m.getD 0 []).length = q at hx hok
        have p1 : (m.length = 0) = False := eq_false (by omega)
        have p3 : (0 < m.length) = True := eq_true h0
        have p4 : (0 < (m.length : Int)) = True := eq_true (by omega)
        clear HL hl5 hC5
        by_cases hE : m.length = q
        · have b1 : ((m.length : Int) == (q : Int)) = true := by rw [beq_iff_eq]; omega
          rw [decide_eq_true hE, Bool.true_and] at hok
          by_cases hR : r = (m.length : Int)
          · have b2 : (r == (m.length : Int)) = true := by rw [beq_iff_eq]; exact hR
            rw [decide_eq_true hR] at hok
            subst hok
            clear hE hR
            go_wp2
            go_meet
            case rel => exact ⟨rfl, HB, HR1, HP, HD⟩
          · have b2 : (r == (m.length : Int)) = false := by rw [beq_eq_false_iff_ne]; exact hR
            rw [decide_eq_false hR] at hok
            subst hok
            clear hE hR
            go_wp2
            go_meet
            case rel => exact ⟨rfl, HB, HR1, HP, HD⟩
        · have b1 : ((m.length : Int) == (q : Int)) = false := by rw [beq_eq_false_iff_ne]; omega
          rw [decide_eq_false hE, Bool.false_and] at hok
          subst hok
          clear hE
          go_wp2
          go_meet
          case rel => exact ⟨rfl, HB, HR1, HP, HD⟩
  case rest =>
    as_aux_lemma =>
      clear HB HR1 HP HD H1 H2 H3 H4 H5 HL x1 x2 x3
      obtain ⟨rfl, HB, HR1, HP, HD⟩ := hcut
      go_upto_if 108 with (fail)
      go_cut [] (fun wc => Aside0 (Below w.heap.size w wc) ∧ Aside0 ((Kd.int .u8).C wc A1 l1.length l1))
      case first =>
        as_aux_lemma =>
          clear cD2 cD3
          cases ok with
          | false =>
            clear HIV
            go_wp2
            go_meet
            exact ⟨HB, HR1⟩
          | true =>
            obtain ⟨n, hn, h1, h8, e1, e2, e3⟩ := HIV.out rfl
            obtain ⟨K1, k1⟩ := (impl_MulMatrix_ev m v HMS.out.2.1 HMS.out.2.2 (by have := HVS.out.1; omega) (fun r hr => by have := HVS.out.2 r hr; omega)).rounds
            obtain ⟨K2, k2⟩ := (impl_MulMatrix_ev v m (by have := HVS.out.1; omega) (fun r hr => by have := HVS.out.2 r hr; omega) HMS.out.2.1 HMS.out.2.2).rounds
            obtain ⟨K3, k3⟩ := (impl_IdentityOf_ev (n : Int)).rounds
            rw [e1] at k1
            rw [e2] at k2
            rw [e3, ← hn] at k3
            have HZ := Aside0.mk (hn ▸ idL_small h8 : (idL m.length m.length).length ≤ 1000000 ∧ ∀ r ∈ idL m.length m.length, r.length ≤ 1000000)
            rw [← hn] at k1 k2
            generalize idL m.length m.length = I at k1 k2 k3 HZ
            have J1 := Aside0.mk k1
            have J2 := Aside0.mk k2
            have J3 := Aside0.mk k3
            clear k1 k2 k3 e1 e2 e3 hn h1 h8 HIV
            go_wp2_with fail
            refine (impl_MulMatrix.calls K1 A2 n2 m A3 n3 v I true _ HP.out HN2.out HD.out HN3.out J1.out).mono ?_
            rintro e w11 ⟨va, rfl, hva, hb⟩
            obtain ⟨A4, n4, rfl, hn4, hC4⟩ := S_reads hva
            have HE := Aside0.mk hC4
            have HN4 := Aside0.mk hn4
            clear hva hC4 hn4
            replace HB := Aside0.mk (HB.out.trans (hb.mono HB.out.size))
            replace HR1 := Aside0.mk (Kd.C_below HR1.out hb)
            replace HP := Aside0.mk (Kd.C_below HP.out hb)
            replace HD := Aside0.mk (Kd.C_below HD.out hb)
            clear hb
            go_wp2_with fail
            refine (impl_MulMatrix.calls K2 A3 n3 v A2 n2 m I true _ HD.out HN3.out HP.out HN2.out J2.out).mono ?_
            rintro e w12 ⟨va, rfl, hva, hb⟩
            obtain ⟨A5, n5, rfl, hn5, hC5⟩ := S_reads hva
            have HF := Aside0.mk hC5
            have HN5 := Aside0.mk hn5
            clear hva hC5 hn5
            replace HB := Aside0.mk (HB.out.trans (hb.mono HB.out.size))
            replace HR1 := Aside0.mk (Kd.C_below HR1.out hb)
            replace HP := Aside0.mk (Kd.C_below HP.out hb)
            replace HD := Aside0.mk (Kd.C_below HD.out hb)
            replace HE := Aside0.mk (Kd.C_below HE.out hb)
            clear hb
            go_wp2_with fail
            refine (impl_IdentityOf.calls K3 (m.length : Int) I true _ J3.out).mono ?_
            rintro e w13 ⟨va, rfl, hva, hb⟩
            obtain ⟨A6, n6, rfl, hn6, hC6⟩ := S_reads hva
            have HG := Aside0.mk hC6
            have HN6 := Aside0.mk hn6
            clear hva hC6 hn6
            replace HB := Aside0.mk (HB.out.trans (hb.mono HB.out.size))
            replace HR1 := Aside0.mk (Kd.C_below HR1.out hb)
            replace HP := Aside0.mk (Kd.C_below HP.out hb)
            replace HD := Aside0.mk (Kd.C_below HD.out hb)
            replace HE := Aside0.mk (Kd.C_below HE.out hb)
            replace HF := Aside0.mk (Kd.C_below HF.out hb)
            clear hb
            go_wp2_with fail
            refine (sameL_c I HZ.out.1 HZ.out.2 HN4.out HN6.out _ HE.out HG.out).mono ?_
            rintro e w14 ⟨rfl, hb⟩
            replace HB := Aside0.mk (HB.out.trans (hb.mono HB.out.size))
            replace HR1 := Aside0.mk (Kd.C_below HR1.out hb)
            replace HP := Aside0.mk (Kd.C_below HP.out hb)
            replace HD := Aside0.mk (Kd.C_below HD.out hb)
            replace HE := Aside0.mk (Kd.C_below HE.out hb)
            replace HF := Aside0.mk (Kd.C_below HF.out hb)
            replace HG := Aside0.mk (Kd.C_below HG.out hb)
            clear hb
            go_wp2_with fail
            refine (sameL_c I HZ.out.1 HZ.out.2 HN5.out HN6.out _ HF.out HG.out).mono ?_
            rintro e w15 ⟨rfl, hb⟩
            replace HB := Aside0.mk (HB.out.trans (hb.mono HB.out.size))
            replace HR1 := Aside0.mk (Kd.C_below HR1.out hb)
            replace HP := Aside0.mk (Kd.C_below HP.out hb)
            replace HD := Aside0.mk (Kd.C_below HD.out hb)
            replace HE := Aside0.mk (Kd.C_below HE.out hb)
            replace HF := Aside0.mk (Kd.C_below HF.out hb)
            replace HG := Aside0.mk (Kd.C_below HG.out hb)
            clear hb
            go_wp2
            go_meet
            exact ⟨HB, HR1⟩
      case rest =>
        as_aux_lemma =>
          clear HB HR1 HP HD HIV HN2 HN3
          obtain ⟨HB, HR1⟩ := hcut
          go_wp2_with fail
          refine (cD2 _ HR1.out).mono ?_
          rintro e w21 ⟨A2, n2, a, A3, n3, b, rfl, ha1, ha2, hb1, hb2, hn2, hC2, hn3, hC3, hb⟩
          have HP := Aside0.mk hC2
          have HN2 := Aside0.mk hn2
          have HD := Aside0.mk hC3
          have HN3 := Aside0.mk hn3
          obtain ⟨K1, k1⟩ := (impl_MulMatrix_ev a b (by omega) (fun r hr => by have := ha2 r hr; omega) (by omega) (fun r hr => by have := hb2 r hr; omega)).rounds
          obtain ⟨K2, k2⟩ := (spec_MulMatrix_ev a b (by omega) (fun r hr => by have := ha2 r hr; omega) (by omega) (fun r hr => by have := hb2 r hr; omega)).rounds
          have hpl := @prod_law a b
          have hsm := mulMV_small a b
          generalize mulMV a b = g1 at k1 k2 hpl hsm
          obtain ⟨c, is⟩ := g1
          have J1 := Aside0.mk k1
          have J2 := Aside0.mk k2
          have HPL := Aside0.mk hpl
          have HZ := Aside0.mk (show c.length ≤ 1000000 ∧ ∀ r ∈ c, r.length ≤ 1000000 from ⟨by have := hsm.1; simp only at this; omega, fun r hr => by have := hsm.2 r hr; omega⟩)
          have x1 : (is != is) = false := by simp
          clear k1 k2 hpl hsm ha1 ha2 hb1 hb2 hn2 hC2 hn3 hC3 cD2
          replace HB := Aside0.mk (HB.out.trans (hb.mono HB.out.size))
          replace HR1 := Aside0.mk (Kd.C_below HR1.out hb)
          clear hb
          go_wp2_with fail
          refine (impl_MulMatrix.calls K1 A2 n2 a A3 n3 b c is _ HP.out HN2.out HD.out HN3.out J1.out).mono ?_
          rintro e w22 ⟨va, rfl, hva, hb⟩
          obtain ⟨A4, n4, rfl, hn4, hC4⟩ := S_reads hva
          have HE := Aside0.mk hC4
          have HN4 := Aside0.mk hn4
          clear hva hC4 hn4
          replace HB := Aside0.mk (HB.out.trans (hb.mono HB.out.size))
          replace HR1 := Aside0.mk (Kd.C_below HR1.out hb)
          replace HP := Aside0.mk (Kd.C_below HP.out hb)
          replace HD := Aside0.mk (Kd.C_below HD.out hb)
          clear hb
          go_wp2_with fail
          refine (spec_MulMatrix.calls K2 A2 n2 a A3 n3 b c is _ HP.out HN2.out HD.out HN3.out J2.out).mono ?_
          rintro e w23 ⟨va, rfl, hva, hb⟩
          obtain ⟨A5, n5, rfl, hn5, hC5⟩ := S_reads hva
          have HF := Aside0.mk hC5
          have HN5 := Aside0.mk hn5
          clear hva hC5 hn5
          replace HB := Aside0.mk (HB.out.trans (hb.mono HB.out.size))
          replace HR1 := Aside0.mk (Kd.C_below HR1.out hb)
          replace HP := Aside0.mk (Kd.C_below HP.out hb)
          replace HD := Aside0.mk (Kd.C_below HD.out hb)
          replace HE := Aside0.mk (Kd.C_below HE.out hb)
          clear hb
          go_wp2_with fail
          refine (sameL_c c HZ.out.1 HZ.out.2 HN4.out HN5.out _ HE.out HF.out).mono ?_
          rintro e w24 ⟨rfl, hb⟩
          replace HB := Aside0.mk (HB.out.trans (hb.mono HB.out.size))
          replace HR1 := Aside0.mk (Kd.C_below HR1.out hb)
          replace HP := Aside0.mk (Kd.C_below HP.out hb)
          replace HD := Aside0.mk (Kd.C_below HD.out hb)
          replace HE := Aside0.mk (Kd.C_below HE.out hb)
          replace HF := Aside0.mk (Kd.C_below HF.out hb)
          clear hb
          clear HF HN5
          go_upto_if 175 with (fail)
          go_cut [] (fun wc => Aside0 (Below w.heap.size w wc) ∧ Aside0 ((Kd.int .u8).C wc A1 l1.length l1))
          case first =>
            as_aux_lemma =>
              clear cD3
              cases is with
              | false =>
                clear HPL
                go_wp2
                go_meet
                exact ⟨HB, HR1⟩
              | true =>
                obtain ⟨q1, q2, q3, q4, q5⟩ := HPL.out rfl
                have k3 := impl_RankOf_eq a
                have k4 := impl_RankOf_eq b
                have k5 := impl_RankOf_eq c
                generalize rankV a = g1 at q1 q4 k3
                generalize rankV b = g2 at q2 q5 k4
                generalize rankV c = g3 at q3 q4 q5 k5
                obtain ⟨x, t1⟩ := g1
                obtain ⟨y, t2⟩ := g2
                obtain ⟨z, t3⟩ := g3
                (try simp only at q1 q2 q3 q4 q5)
                subst q1 q2 q3
                have J3 := Aside0.mk k3
                have J4 := Aside0.mk k4
                have J5 := Aside0.mk k5
                have p1 : decide (x < z) = false := decide_eq_false (by omega)
                have p2 : decide (y < z) = false := decide_eq_false (by omega)
                have p3 : (x < z) = False := eq_false (by omega)
                have p4 : (y < z) = False := eq_false (by omega)
                clear k3 k4 k5 q4 q5 HPL x1
                go_wp2_with fail
                refine (impl_RankOf.calls A2 n2 a x true _ HP.out HN2.out J3.out).mono ?_
                rintro e w25 ⟨rfl, hb⟩
                replace HB := Aside0.mk (HB.out.trans (hb.mono HB.out.size))
                replace HR1 := Aside0.mk (Kd.C_below HR1.out hb)
                replace HP := Aside0.mk (Kd.C_below HP.out hb)
                replace HD := Aside0.mk (Kd.C_below HD.out hb)
                replace HE := Aside0.mk (Kd.C_below HE.out hb)
                clear hb
                go_wp2_with fail
                refine (impl_RankOf.calls A3 n3 b y true _ HD.out HN3.out J4.out).mono ?_
                rintro e w26 ⟨rfl, hb⟩
                replace HB := Aside0.mk (HB.out.trans (hb.mono HB.out.size))
                replace HR1 := Aside0.mk (Kd.C_below HR1.out hb)
                replace HP := Aside0.mk (Kd.C_below HP.out hb)
                replace HD := Aside0.mk (Kd.C_below HD.out hb)
                replace HE := Aside0.mk (Kd.C_below HE.out hb)
                clear hb
                go_wp2_with fail
                refine (impl_RankOf.calls A4 n4 c z true _ HE.out HN4.out J5.out).mono ?_
                rintro e w27 ⟨rfl, hb⟩
                replace HB := Aside0.mk (HB.out.trans (hb.mono HB.out.size))
                replace HR1 := Aside0.mk (Kd.C_below HR1.out hb)
                replace HP := Aside0.mk (Kd.C_below HP.out hb)
                replace HD := Aside0.mk (Kd.C_below HD.out hb)
                replace HE := Aside0.mk (Kd.C_below HE.out hb)
                clear hb
                go_wp2
                go_meet
                exact ⟨HB, HR1⟩
          case rest =>
            as_aux_lemma =>
              clear HB HR1 HP HD HE HN2 HN3 HN4 J1 J2 HPL HZ
              obtain ⟨HB, HR1⟩ := hcut
              go_wp2_with fail
              refine (cD3 _ HR1.out).mono ?_
              rintro e w31 ⟨rfl, hb⟩
              replace HB := Aside0.mk (HB.out.trans (hb.mono HB.out.size))
              replace HR1 := Aside0.mk (Kd.C_below HR1.out hb)
              clear hb
              obtain ⟨K1, k1⟩ := (impl_IdentityOf_ev nn).rounds
              obtain ⟨K2, k2⟩ := (spec_IdentityOf_ev nn).rounds
              have hsm := identV_le nn
              generalize identV nn = g1 at k1 k2 hsm
              obtain ⟨I, q⟩ := g1
              have J1 := Aside0.mk k1
              have J2 := Aside0.mk k2
              have HZ := Aside0.mk (show I.length ≤ 1000000 ∧ ∀ r ∈ I, r.length ≤ 1000000 from ⟨by have := hsm.1; simp only at this; omega, fun r hr => by have := hsm.2 r hr; omega⟩)
              have x4 : (q == q) = true := by simp
              clear k1 k2 hsm cD3
              go_wp2_with fail
              refine (impl_IdentityOf.calls K1 nn I q _ J1.out).mono ?_
              rintro e w32 ⟨va, rfl, hva, hb⟩
              obtain ⟨A4, n4, rfl, hn4, hC4⟩ := S_reads hva
              have HE := Aside0.mk hC4
              have HN4 := Aside0.mk hn4
              clear hva hC4 hn4
              replace HB := Aside0.mk (HB.out.trans (hb.mono HB.out.size))
              replace HR1 := Aside0.mk (Kd.C_below HR1.out hb)
              clear hb
              go_wp2_with fail
              refine (spec_IdentityOf.calls K2 nn I q _ J2.out).mono ?_
              rintro e w33 ⟨va, rfl, hva, hb⟩
              obtain ⟨A5, n5, rfl, hn5, hC5⟩ := S_reads hva
              have HF := Aside0.mk hC5
              have HN5 := Aside0.mk hn5
              clear hva hC5 hn5
              replace HB := Aside0.mk (HB.out.trans (hb.mono HB.out.size))
              replace HR1 := Aside0.mk (Kd.C_below HR1.out hb)
              replace HE := Aside0.mk (Kd.C_below HE.out hb)
              clear hb
              cases q with
              | true =>
                go_wp2_with fail
                refine (sameL_c I HZ.out.1 HZ.out.2 HN4.out HN5.out _ HE.out HF.out).mono ?_
                rintro e w34 ⟨rfl, hb⟩
                replace HB := Aside0.mk (HB.out.trans (hb.mono HB.out.size))
                replace HR1 := Aside0.mk (Kd.C_below HR1.out hb)
                replace HE := Aside0.mk (Kd.C_below HE.out hb)
                replace HF := Aside0.mk (Kd.C_below HF.out hb)
                clear hb
                go_wp2
                go_ret
                exact ⟨rfl, HB.out⟩
              | false =>
                go_wp2_with fail
                refine (sameL_c I HZ.out.1 HZ.out.2 HN4.out HN5.out _ HE.out HF.out).mono ?_
                rintro e w34 ⟨rfl, hb⟩
                replace HB := Aside0.mk (HB.out.trans (hb.mono HB.out.size))
                replace HR1 := Aside0.mk (Kd.C_below HR1.out hb)
                replace HE := Aside0.mk (Kd.C_below HE.out hb)
                replace HF := Aside0.mk (Kd.C_below HF.out hb)
                clear hb
                go_wp2
                go_ret
                exact ⟨rfl, HB.out⟩

end Go.Proofs.Ytldlldfoaicjcaa.Pure
