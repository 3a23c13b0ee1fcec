/- The machine's side of FnWords, written by this session's program out of the kit's print of the program, with contracts of this session's own. No conditions beyond those typed. -/
import Derived.Test.YtldlldfoaicjcaaMFnWordsx0
import Derived.Test.YtldlldfoaicjcaaMFnWordsx5
import Derived.Test.YtldlldfoaicjcaaMFnWordsx6
import Derived.Test.YtldlldfoaicjcaaMFnWordsx11
import Derived.Test.YtldlldfoaicjcaaMFnWordsx12
namespace Go.Proofs.Ytldlldfoaicjcaa.MFnWords
open Go.RowKit Go.Proofs.YtldlldfoaicjcaaW.PrintWords Go.Proofs.YtldlldfoaicjcaaW.PrintLast Go.Proofs.YtldlldfoaicjcaaW.PrintMore
attribute [local go_sem] max2_int min2_int max_two min_two max_three min_three max_four min_four   -- for this text's walks alone
set_option linter.unusedVariables false
set_option linter.unusedSimpArgs false

/-! ### spec_EncodeWord: function 83 -/
mutual
def spec_EncodeWord.j0 : Nat → List Int → Int → Bool → Option (List Int × Bool)
 | 0, _, _, _ => none
 | k + 1, x0, x1, x28 => if x28 = true then (some (([] : List Int), false)) else (if 0 ≤ (wrap64 (2 * x1)) then (if (wrap64 (2 * x1) : Int).toNat ≤ 35184372088832 then ((some (List.replicate (wrap64 (2 * x1) : Int).toNat 0 : List Int)).bind fun y547 => (if y547.length + x0.length < 17592186044416 then ((some (y547 ++ x0 : List Int)).bind fun y550 => ((spec_l1Cut.f k y550).bind fun t553 => ((spec_l4Generator.f k x1).bind fun t556 => ((spec_DivPoly.f k t553 t556).bind fun bt559 => (spec_EncodeWord.l0 k y550 bt559.2.1 (bt559.2.1.length : Int) 0))))) else (none))) else (none)) else (none))
def spec_EncodeWord.l0 : Nat → List Int → List Int → Int → Int → Option (List Int × Bool)
 | 0, _, _, _, _ => none
 | k + 1, x6, x43, x44, x45 => if x45 < x44 then (if 0 ≤ x45 then (if x45 < (x43.length : Int) then (if x45 < (x6.length : Int) then (spec_EncodeWord.l0 k (x6.set (x45 : Int).toNat (rd x43 x45)) x43 x44 (wrap64 (x45 + 1))) else (none)) else (none)) else (none)) else (some (x6, true))
end
def spec_EncodeWord.f (k : Nat) (l0 : List Int) (a1 : Int) : Option (List Int × Bool) := (spec_l4Wrong.f a1).bind fun t544 => (if t544 = true then ((spec_l1In.f (l0.length : Int) 1 (wrap64 (24 - (wrap64 (2 * a1))))).bind fun t545 => (if t545 = true then ((spec_l1All.f k l0).bind fun t546 => (spec_EncodeWord.j0 k l0 a1 (!t546))) else (spec_EncodeWord.j0 k l0 a1 true))) else (spec_EncodeWord.j0 k l0 a1 true))
set_option maxHeartbeats 8000000 in
set_option maxRecDepth 100000 in
theorem spec_EncodeWord.calls (k : Nat) (A0 : Option Addr) (c0 : Nat) (l0 : List Int) (a1 : Int) (r1 : List Int) (r2 : Bool) (w : World) (hr0 : Kd.C (Kd.int .i64) w A0 l0.length l0) (hc0 : l0.length ≤ c0) (h : spec_EncodeWord.f k l0 a1 = some (r1, r2)) :
  Calls Try.prog 83 #[.slice A0 l0.length c0, .int .i64 a1] w fun e w' => ∃ v0_ : Value, e = .returned (.tuple #[v0_, .bool r2]) ∧ Kd.R (Kd.int .i64) 3 w' w.heap.size (fun _ => True) v0_ r1 ∧ Below w.heap.size w w' := by
 have HR0 := Aside0.mk hr0
 have HC0 := Aside0.mk hc0
 clear hr0 hc0
 have HB := Aside0.mk (Below.refl w.heap.size w)
 have H : ((spec_l4Wrong.f a1).bind fun t544 => (if t544 = true then ((spec_l1In.f (l0.length : Int) 1 (wrap64 (24 - (wrap64 (2 * a1))))).bind fun t545 => (if t545 = true then ((spec_l1All.f k l0).bind fun t546 => (spec_EncodeWord.j0 k l0 a1 (!t546))) else (spec_EncodeWord.j0 k l0 a1 true))) else (spec_EncodeWord.j0 k l0 a1 true))) = some (r1, r2) := h
 clear h
 have HC3 := Aside0.mk H
 clear H
 go_enter Try.func83, Try.ntmps83
 go_upto_region 1 with (fail)
 go_cut [28] (fun v28 wc => ∃ (kq : Nat) (x28_2 : Bool), v28 = .bool x28_2 ∧ Aside0 (spec_EncodeWord.j0 kq l0 a1 x28_2 = some (r1, r2)) ∧ Aside0 (kq ≤ k) ∧ Aside0 (Below w.heap.size w wc))
 case first =>
  have H := HC3.out
  clear HC3
  replace H := Option.bind_eq_some_iff.mp H
  obtain ⟨t544, A40, H⟩ := H
  replace H : (if t544 = true then ((spec_l1In.f (l0.length : Int) 1 (wrap64 (24 - (wrap64 (2 * a1))))).bind fun t545 => (if t545 = true then ((spec_l1All.f k l0).bind fun t546 => (spec_EncodeWord.j0 k l0 a1 (!t546))) else (spec_EncodeWord.j0 k l0 a1 true))) else (spec_EncodeWord.j0 k l0 a1 true)) = some (r1, r2) := H
  have A4 := Aside0.mk A40
  clear A40
  by_cases c5 : t544 = true
  ·subst c5
   have H1 : ((spec_l1In.f (l0.length : Int) 1 (wrap64 (24 - (wrap64 (2 * a1))))).bind fun t545 => (if t545 = true then ((spec_l1All.f k l0).bind fun t546 => (spec_EncodeWord.j0 k l0 a1 (!t546))) else (spec_EncodeWord.j0 k l0 a1 true))) = some (r1, r2) := by rw [if_pos rfl] at H; exact H
   clear H
   have H := H1
   clear H1
   replace H := Option.bind_eq_some_iff.mp H
   obtain ⟨t545, A60, H⟩ := H
   replace H : (if t545 = true then ((spec_l1All.f k l0).bind fun t546 => (spec_EncodeWord.j0 k l0 a1 (!t546))) else (spec_EncodeWord.j0 k l0 a1 true)) = some (r1, r2) := H
   have A6 := Aside0.mk A60
   clear A60
   by_cases c7 : t545 = true
   ·subst c7
    have H1 : ((spec_l1All.f k l0).bind fun t546 => (spec_EncodeWord.j0 k l0 a1 (!t546))) = some (r1, r2) := by rw [if_pos rfl] at H; exact H
    clear H
    have H := H1
    clear H1
    replace H := Option.bind_eq_some_iff.mp H
    obtain ⟨t546, A80, H⟩ := H
    replace H : (spec_EncodeWord.j0 k l0 a1 (!t546)) = some (r1, r2) := H
    have A8 := Aside0.mk A80
    clear A80
    have H' := Aside0.mk H
    clear H
    go_wp2_with (first | (go_at_call 152; (with_reducible refine (spec_l4Wrong.calls a1 true _ A4.out).mono ?_); rintro e w' ⟨rfl, ⟨nd, rfl⟩⟩) | (go_at_call 105; (with_reducible refine (spec_l1In.calls (l0.length : Int) 1 (wrap64 (24 - (wrap64 (2 * a1)))) true _ A6.out).mono ?_); rintro e w' ⟨rfl, ⟨nd, rfl⟩⟩) | (go_at_call 86; (with_reducible refine (spec_l1All.calls k _ _ l0 t546 _ ?side1 ?side2 A8.out).mono ?_); (case side1 => repeat (first | exact (Kd.C_below HR0.out (by repeat (with_reducible first | exact HB.out | apply below_alloc | apply pw_below_drewN | apply below_drew1))) | (with_reducible refine Kd.C_alloc ?_ _) | (with_reducible refine Kd.C_drewN ?_ _) | (with_reducible refine Kd.C_drew ?_))); (case side2 => exact HC0.out); rintro e w' ⟨rfl, ⟨nd, rfl⟩⟩))
    go_meet
    case rel => exact ⟨_, (!t546), (by first | rfl | simp [*]), H', ⟨by first | omega | exact Nat.le_refl _⟩, ⟨by repeat (with_reducible first | exact HB.out | apply below_alloc | apply pw_below_drewN | apply below_drew1)⟩⟩
   ·replace c7 := Bool.eq_false_iff.mpr c7
    subst c7
    have H1 : (spec_EncodeWord.j0 k l0 a1 true) = some (r1, r2) := by rw [if_neg (show ¬ (false = true) by decide)] at H; exact H
    clear H
    have H := H1
    clear H1
    have H' := Aside0.mk H
    clear H
    go_wp2_with (first | (go_at_call 152; (with_reducible refine (spec_l4Wrong.calls a1 true _ A4.out).mono ?_); rintro e w' ⟨rfl, ⟨nd, rfl⟩⟩) | (go_at_call 105; (with_reducible refine (spec_l1In.calls (l0.length : Int) 1 (wrap64 (24 - (wrap64 (2 * a1)))) false _ A6.out).mono ?_); rintro e w' ⟨rfl, ⟨nd, rfl⟩⟩))
    go_meet
    case rel => exact ⟨_, (true), (by first | rfl | simp [*]), H', ⟨by first | omega | exact Nat.le_refl _⟩, ⟨by repeat (with_reducible first | exact HB.out | apply below_alloc | apply pw_below_drewN | apply below_drew1)⟩⟩
  ·replace c5 := Bool.eq_false_iff.mpr c5
   subst c5
   have H1 : (spec_EncodeWord.j0 k l0 a1 true) = some (r1, r2) := by rw [if_neg (show ¬ (false = true) by decide)] at H; exact H
   clear H
   have H := H1
   clear H1
   have H' := Aside0.mk H
   clear H
   go_wp2_with (first | (go_at_call 152; (with_reducible refine (spec_l4Wrong.calls a1 false _ A4.out).mono ?_); rintro e w' ⟨rfl, ⟨nd, rfl⟩⟩))
   go_meet
   case rel => exact ⟨_, (true), (by first | rfl | simp [*]), H', ⟨by first | omega | exact Nat.le_refl _⟩, ⟨by repeat (with_reducible first | exact HB.out | apply below_alloc | apply pw_below_drewN | apply below_drew1)⟩⟩
 case rest =>
  clear HC3
  try clear c1; try clear p2; try clear c5; try clear p6; try clear c7; try clear c8
  obtain ⟨kq, x28_2, rfl, HA, HJ2, HB⟩ := hcut
  cases kq with
  | zero => exact absurd HA.out (by first | (unfold spec_EncodeWord.j0; exact fun h_ => nomatch h_) | simp [spec_EncodeWord.j0])
  | succ kj2 =>
   have H := HA.out
   clear HA
   simp only [spec_EncodeWord.j0] at H
   by_cases c9 : x28_2 = true
   ·subst c9
    have H1 : (some (([] : List Int), false)) = some (r1, r2) := by rw [if_pos rfl] at H; exact H
    clear H
    have H := H1
    clear H1
    simp only [Option.some.injEq, Prod.mk.injEq] at H
    obtain ⟨rfl, rfl⟩ := H
    go_wp2
    go_ret2
    exact ⟨_, by first | rfl | simp [*], by first | exact Kd.R_nil _ _ _ _ _ | exact Kd.N_nil _ _ _ _ _ | exact Kd.V_nil _ _ _ _ _ | exact Kd.Q_nil _ _ _ _ _ | exact Kd.S_nil _ _ _ _ _, by repeat (with_reducible first | exact HB.out | apply below_alloc | apply pw_below_drewN | apply below_drew1)⟩
   ·replace c9 := Bool.eq_false_iff.mpr c9
    subst c9
    have H1 : (if 0 ≤ (wrap64 (2 * a1)) then (if (wrap64 (2 * a1) : Int).toNat ≤ 35184372088832 then ((some (List.replicate (wrap64 (2 * a1) : Int).toNat 0 : List Int)).bind fun y547 => (if y547.length + l0.length < 17592186044416 then ((some (y547 ++ l0 : List Int)).bind fun y550 => ((spec_l1Cut.f kj2 y550).bind fun t553 => ((spec_l4Generator.f kj2 a1).bind fun t556 => ((spec_DivPoly.f kj2 t553 t556).bind fun bt559 => (spec_EncodeWord.l0 kj2 y550 bt559.2.1 (bt559.2.1.length : Int) 0))))) else (none))) else (none)) else (none)) = some (r1, r2) := by rw [if_neg (show ¬ (false = true) by decide)] at H; exact H
    clear H
    have H := H1
    clear H1
    obtain ⟨ji10, hji10⟩ : ∃ j_ : Int, (wrap64 (2 * a1)) = j_ := ⟨_, rfl⟩
    replace H : (if 0 ≤ (ji10) then (if (ji10 : Int).toNat ≤ 35184372088832 then ((some (List.replicate (ji10 : Int).toNat 0 : List Int)).bind fun y547 => (if y547.length + l0.length < 17592186044416 then ((some (y547 ++ l0 : List Int)).bind fun y550 => ((spec_l1Cut.f kj2 y550).bind fun t553 => ((spec_l4Generator.f kj2 a1).bind fun t556 => ((spec_DivPoly.f kj2 t553 t556).bind fun bt559 => (spec_EncodeWord.l0 kj2 y550 bt559.2.1 (bt559.2.1.length : Int) 0))))) else (none))) else (none)) else (none)) = some (r1, r2) := by first | (rw [hji10] at H; exact H) | (simp only [hji10] at H ⊢; exact H)
    have hji10w : (IntKind.i64.wrap (2 * a1)) = ji10 := (i64_w _).trans hji10
    by_cases c11 : 0 ≤ (ji10)
    ·rw [if_pos c11] at H
     have c11b0 := eq_true c11
     have c11b1 : decide (0 ≤ (ji10)) = true := decide_eq_true c11
     clear c11
     by_cases c12 : (ji10 : Int).toNat ≤ 35184372088832
     ·rw [if_pos c12] at H
      have c12b0 := eq_true c12
      have c12b1 : decide ((ji10 : Int).toNat ≤ 35184372088832) = true := decide_eq_true c12
      clear c12
      obtain ⟨y547, hy547⟩ : ∃ y_ : List Int, y_ = (List.replicate (ji10 : Int).toNat 0) := ⟨_, rfl⟩
      replace H : (if y547.length + l0.length < 17592186044416 then ((some (y547 ++ l0 : List Int)).bind fun y550 => ((spec_l1Cut.f kj2 y550).bind fun t553 => ((spec_l4Generator.f kj2 a1).bind fun t556 => ((spec_DivPoly.f kj2 t553 t556).bind fun bt559 => (spec_EncodeWord.l0 kj2 y550 bt559.2.1 (bt559.2.1.length : Int) 0))))) else (none)) = some (r1, r2) := by first | (rw [hy547]; with_reducible exact H) | (have H2_ := (Option.bind_some _ _).symm.trans H; rw [hy547]; with_reducible exact H2_) | (have H2_ := (Option.bind_some _ _).symm.trans H; with_reducible exact H2_) | with_reducible exact H | (rw [hy547]; exact H) | exact H
      have Ny547 := Aside0.mk hy547
      clear hy547
      by_cases c13 : y547.length + l0.length < 17592186044416
      ·rw [if_pos c13] at H
       have LMc13 := Aside0.mk c13
       clear c13
       obtain ⟨y550, hy550⟩ : ∃ y_ : List Int, y_ = (y547 ++ l0) := ⟨_, rfl⟩
       replace H : ((spec_l1Cut.f kj2 y550).bind fun t553 => ((spec_l4Generator.f kj2 a1).bind fun t556 => ((spec_DivPoly.f kj2 t553 t556).bind fun bt559 => (spec_EncodeWord.l0 kj2 y550 bt559.2.1 (bt559.2.1.length : Int) 0)))) = some (r1, r2) := by first | (rw [hy550]; with_reducible exact H) | (have H2_ := (Option.bind_some _ _).symm.trans H; rw [hy550]; with_reducible exact H2_) | (have H2_ := (Option.bind_some _ _).symm.trans H; with_reducible exact H2_) | with_reducible exact H | (rw [hy550]; exact H) | exact H
       have Ny550 := Aside0.mk hy550
       clear hy550
       replace H := Option.bind_eq_some_iff.mp H
       obtain ⟨t553, A140, H⟩ := H
       replace H : ((spec_l4Generator.f kj2 a1).bind fun t556 => ((spec_DivPoly.f kj2 t553 t556).bind fun bt559 => (spec_EncodeWord.l0 kj2 y550 bt559.2.1 (bt559.2.1.length : Int) 0))) = some (r1, r2) := H
       have A14 := Aside0.mk A140
       clear A140
       replace H := Option.bind_eq_some_iff.mp H
       obtain ⟨t556, A150, H⟩ := H
       replace H : ((spec_DivPoly.f kj2 t553 t556).bind fun bt559 => (spec_EncodeWord.l0 kj2 y550 bt559.2.1 (bt559.2.1.length : Int) 0)) = some (r1, r2) := H
       have A15 := Aside0.mk A150
       clear A150
       replace H := Option.bind_eq_some_iff.mp H
       obtain ⟨⟨t559, t560, t561⟩, A160, H⟩ := H
       replace H : (spec_EncodeWord.l0 kj2 y550 t560 (t560.length : Int) 0) = some (r1, r2) := H
       have A16 := Aside0.mk A160
       clear A160
       have H' := Aside0.mk H
       clear H
       go_wp2_with (first | ((with_reducible refine gate_dst (N := 31) rfl ?_); (try (refine gate_guard (by rfl) ?_; dsimp only)); refine Kd.R_make (Kd.int .i64) _ 3 rfl (N := 31) rfl 23 _ _ rfl ji10 rfl rfl Try.underlying23 (.int .i64 0) 8 info3 rfl (by decide) (by omega) 0 (ok := fun _ => True) (okp := fun _ => True) rfl (fun _ hk => hk) trivial (of_decide_eq_true (by assumption)) (Nat.le_trans (Nat.mul_le_mul_right _ (of_decide_eq_true (by assumption) : ji10.toNat ≤ 35184372088832)) (by omega)) (Below.refl _ _) (Nat.le_refl _) ?_; intro v548 w17 ho18 hb hg_ hnew_; clear hg_ hnew_; (first | rw [← Ny547.out] at ho18 | (simp only [Int.reduceToNat] at ho18; rw [← Ny547.out] at ho18)); have n0_ := Aside0.mk (Kd.R_lower ho18 (below_size (by repeat (with_reducible first | exact HB.out | apply below_alloc | apply pw_below_drewN | apply below_drew1)))); have n1_ := Aside0.mk (below_step (by repeat (with_reducible first | exact HB.out | apply below_alloc | apply pw_below_drewN | apply below_drew1)) hb); clear HB; have HO549 := n0_; have HB := n1_; clear n0_ n1_; clear hb ho18) | ((with_reducible refine gate_builtin (b := .append) (xs := #[.tmp 31, .tmp 32]) rfl ?_); (try (refine gate_guard (by rfl) ?_; dsimp only)); at_builtin; refine Kd.R_append_rows (Kd.int .i64) (w0 := w) w.heap.size rfl (.tmp 31) (.tmp 32) 23 3 (.int .i64 0) 8 rfl Try.underlying23 info3 rfl (by decide) (by omega) v548 y547 l0 _ _ _ (fun _ => True) (fun _ => False) rfl rfl ?aO ?aR (fun _ _ h => h) (fun _ h => h.elim) ?aF ?aB ?aS ?aL ?_; (case aR => repeat (first | exact (Kd.C_below HR0.out HB.out) | (with_reducible refine Kd.C_alloc ?_ _) | (with_reducible refine Kd.C_drewN ?_ _) | (with_reducible refine Kd.C_drew ?_))); (case aB => exact (by repeat (with_reducible first | exact HB.out | apply below_alloc | apply pw_below_drewN | apply below_drew1))); (case aF => exact (fun _ _ => trivial)); (case aO => exact (by (with_reducible repeat (first | apply Kd.R_alloc | apply Kd.R_drewN | apply Kd.R_drew)); exact HO549.out)); (case aS => exact (below_size (by repeat (with_reducible first | exact HB.out | apply below_alloc | apply pw_below_drewN | apply below_drew1)))); (case aL => have := LMc13.out; omega); intro v551 w19 ho hb hg hat; rw [← Ny550.out] at ho; have n0_ := Aside0.mk (hb); have n1_ := Aside0.mk (ho); clear HB; clear HO549; have HB := n0_; have HO552 := n1_; clear n0_ n1_; clear ho hb hg hat; obtain ⟨Ao20, co20, eo20⟩ := Kd.R_slice HO552.out; subst eo20) | (go_at_call 161; (with_reducible refine (spec_l1Cut.calls kj2 (fun k_ => some k_ = (.slice Ao20 y550.length co20 : Value).ownBlock) _ _ y550 t553 _ ?side1 A14.out).mono ?_); (case side1 => exact Kd.R_V (Kd.R_tight rfl (HO552.out))); rintro e w21 ⟨v554, rfl, ho0, hb⟩; have n0_ := Aside0.mk (Kd.R_elder' (by (with_reducible repeat (first | apply Kd.R_alloc | apply Kd.R_drewN | apply Kd.R_drew)); exact HO552.out) (Kd.R_base ho0) hb); have n1_ := Aside0.mk (Kd.R_lower (Kd.R_new' (Kd.R_mono (ok' := fun k_ => True) ho0 (fun _ hk_ => trivial)) (Kd.R_lt (by (with_reducible repeat (first | apply Kd.R_alloc | apply Kd.R_drewN | apply Kd.R_drew)); exact HO552.out))) (below_size (by repeat (with_reducible first | exact HB.out | apply below_alloc | apply pw_below_drewN | apply below_drew1)))); have n2_ := Aside0.mk (below_step (by repeat (with_reducible first | exact HB.out | apply below_alloc | apply pw_below_drewN | apply below_drew1)) hb); clear HO552; clear HB; have HO552 := n0_; have HO555 := n1_; have HB := n2_; clear n0_ n1_ n2_; (try clear hb); (try clear hb2); (try clear hk); (try clear hi); (try clear ho0)) | (go_at_call 153; (with_reducible refine (spec_l4Generator.calls kj2 a1 t556 _ A15.out).mono ?_); rintro e w22 ⟨v557, rfl, ho0, hb⟩; have n0_ := Aside0.mk (Kd.R_elder' (by (with_reducible repeat (first | apply Kd.R_alloc | apply Kd.R_drewN | apply Kd.R_drew)); exact HO552.out) (Kd.R_base ho0) hb); have n1_ := Aside0.mk (Kd.R_elder' (by (with_reducible repeat (first | apply Kd.R_alloc | apply Kd.R_drewN | apply Kd.R_drew)); exact HO555.out) (Kd.R_base ho0) hb); have n2_ := Aside0.mk (Kd.R_lower (Kd.R_new' (Kd.R_new' ho0 (Kd.R_lt (by (with_reducible repeat (first | apply Kd.R_alloc | apply Kd.R_drewN | apply Kd.R_drew)); exact HO552.out))) (Kd.R_lt (by (with_reducible repeat (first | apply Kd.R_alloc | apply Kd.R_drewN | apply Kd.R_drew)); exact HO555.out))) (below_size (by repeat (with_reducible first | exact HB.out | apply below_alloc | apply pw_below_drewN | apply below_drew1)))); have n3_ := Aside0.mk (below_step (by repeat (with_reducible first | exact HB.out | apply below_alloc | apply pw_below_drewN | apply below_drew1)) hb); clear HO552; clear HO555; clear HB; have HO552 := n0_; have HO555 := n1_; have HO558 := n2_; have HB := n3_; clear n0_ n1_ n2_ n3_; (try clear hb); (try clear hb2); (try clear hk); (try clear hi); (try clear ho0); obtain ⟨Ao23, co23, eo23⟩ := Kd.R_slice HO555.out; subst eo23; obtain ⟨Ao24, co24, eo24⟩ := Kd.R_slice HO558.out; subst eo24) | (go_at_call 160; (with_reducible refine (spec_DivPoly.calls kj2 _ _ t553 _ _ t556 t559 t560 t561 _ ?side1 ?side2 ?side3 ?side4 A16.out).mono ?_); (case side1 => repeat (first | exact (Kd.R_reads' HO555.out).2.2 | (with_reducible refine Kd.C_alloc ?_ _) | (with_reducible refine Kd.C_drewN ?_ _) | (with_reducible refine Kd.C_drew ?_))); (case side2 => exact (Kd.R_reads' HO555.out).2.1); (case side3 => repeat (first | exact (Kd.R_reads' HO558.out).2.2 | (with_reducible refine Kd.C_alloc ?_ _) | (with_reducible refine Kd.C_drewN ?_ _) | (with_reducible refine Kd.C_drew ?_))); (case side4 => exact (Kd.R_reads' HO558.out).2.1); rintro e w25 ⟨v562, v564, rfl, ho0, ho1, hb⟩; have n0_ := Aside0.mk (Kd.R_mono (Kd.R_told (Kd.R_told (Kd.R_old (by (with_reducible repeat (first | apply Kd.R_alloc | apply Kd.R_drewN | apply Kd.R_drew)); exact HO552.out) hb) (Kd.R_base ho0)) (Kd.R_base ho1)) (fun _ h_ => h_.1)); have n1_ := Aside0.mk (Kd.R_mono (Kd.R_told (Kd.R_told (Kd.R_old (by (with_reducible repeat (first | apply Kd.R_alloc | apply Kd.R_drewN | apply Kd.R_drew)); exact HO555.out) hb) (Kd.R_base ho0)) (Kd.R_base ho1)) (fun _ h_ => h_.1)); have n2_ := Aside0.mk (Kd.R_mono (Kd.R_told (Kd.R_told (Kd.R_old (by (with_reducible repeat (first | apply Kd.R_alloc | apply Kd.R_drewN | apply Kd.R_drew)); exact HO558.out) hb) (Kd.R_base ho0)) (Kd.R_base ho1)) (fun _ h_ => h_.1)); have n3_ := Aside0.mk (Kd.R_lower (Kd.R_new' (Kd.R_new' (Kd.R_new' ho0 (Kd.R_lt (by (with_reducible repeat (first | apply Kd.R_alloc | apply Kd.R_drewN | apply Kd.R_drew)); exact HO552.out))) (Kd.R_lt (by (with_reducible repeat (first | apply Kd.R_alloc | apply Kd.R_drewN | apply Kd.R_drew)); exact HO555.out))) (Kd.R_lt (by (with_reducible repeat (first | apply Kd.R_alloc | apply Kd.R_drewN | apply Kd.R_drew)); exact HO558.out))) (below_size (by repeat (with_reducible first | exact HB.out | apply below_alloc | apply pw_below_drewN | apply below_drew1)))); have n4_ := Aside0.mk (Kd.R_lower (Kd.R_new' (Kd.R_new' (Kd.R_new' ho1 (Kd.R_lt (by (with_reducible repeat (first | apply Kd.R_alloc | apply Kd.R_drewN | apply Kd.R_drew)); exact HO552.out))) (Kd.R_lt (by (with_reducible repeat (first | apply Kd.R_alloc | apply Kd.R_drewN | apply Kd.R_drew)); exact HO555.out))) (Kd.R_lt (by (with_reducible repeat (first | apply Kd.R_alloc | apply Kd.R_drewN | apply Kd.R_drew)); exact HO558.out))) (below_size (by repeat (with_reducible first | exact HB.out | apply below_alloc | apply pw_below_drewN | apply below_drew1)))); have n5_ := Aside0.mk (below_step (by repeat (with_reducible first | exact HB.out | apply below_alloc | apply pw_below_drewN | apply below_drew1)) hb); clear HO552; clear HO555; clear HO558; clear HB; have HO552 := n0_; have HO555 := n1_; have HO558 := n2_; have HO563 := n3_; have HO565 := n4_; have HB := n5_; clear n0_ n1_ n2_ n3_ n4_ n5_; (try clear hb); (try clear hb2); (try clear hk); (try clear hi); (try clear ho0); (try clear ho1); obtain ⟨Ao26, co26, eo26⟩ := Kd.R_slice HO565.out; subst eo26))
       go_loopg [45] kj2 (fun kq v45 w' => ∃ (x6_2 : List Int) (x45_2 : Int), v45 = .int .i64 x45_2 ∧ Aside0 (spec_EncodeWord.l0 kq x6_2 t560 (t560.length : Int) x45_2 = some (r1, r2)) ∧ Aside0 (kq ≤ kj2) ∧ Aside0 (Kd.R (Kd.int .i64) 3 w' w.heap.size (fun k_ => some k_ ≠ ((.slice Ao26 t560.length co26) : Value).ownBlock) (.slice Ao20 y550.length co20) x6_2) ∧ Aside0 (Kd.R (Kd.int .i64) 3 w' w.heap.size (fun k_ => some k_ ≠ ((.slice Ao20 y550.length co20) : Value).ownBlock) (.slice Ao26 t560.length co26) t560) ∧ Aside0 (Below w.heap.size w w'))
       case atStart => exact ⟨(y550), (0), (by first | rfl | simp [*]), H', ⟨Nat.le_refl _⟩, ⟨by (with_reducible repeat (first | apply Kd.R_alloc | apply Kd.R_drewN | apply Kd.R_drew)); exact Kd.R_mono HO552.out (fun _ hk => hk.2)⟩, ⟨by (with_reducible repeat (first | apply Kd.R_alloc | apply Kd.R_drewN | apply Kd.R_drew)); exact Kd.R_mono HO565.out (fun _ hk => hk.1.1.2)⟩, ⟨by repeat (with_reducible first | exact HB.out | apply below_alloc | apply pw_below_drewN | apply below_drew1)⟩⟩
       case round =>
        clear H'
        try clear c1; try clear p2; try clear c5; try clear p6; try clear c7; try clear c8; try clear c9; try clear c11; try clear c11b0; try clear c11b1; try clear c12; try clear c12b0; try clear c12b1; try clear c13; try clear c15; try clear c16; try clear p2; try clear p6
        obtain ⟨x6_2, x45_2, rfl, HA, HK2, HO_6, HO_43, HB⟩ := hrel
        have hl6_2 := (Kd.R_reads' HO_6.out).1
        rw [hl6_2] at HO_6
        (try simp only [hl6_2])
        (try simp only [hl6_2] at HO_43)
        cases gk with
        | zero => exact absurd HA.out (by first | (unfold spec_EncodeWord.l0; exact fun h_ => nomatch h_) | simp [spec_EncodeWord.l0])
        | succ k2 =>
         have H := HA.out
         clear HA
         simp only [spec_EncodeWord.l0] at H
         by_cases c27 : x45_2 < (t560.length : Int)
         ·rw [if_pos c27] at H
          have c27b0 : decide (x45_2 < (t560.length : Int)) = true := decide_eq_true c27
          clear c27
          by_cases c28 : 0 ≤ x45_2
          ·rw [if_pos c28] at H
           have c28b0 : decide (0 ≤ x45_2) = true := decide_eq_true c28
           clear c28
           by_cases c29 : x45_2 < (t560.length : Int)
           ·rw [if_pos c29] at H
            have c29b0 : decide (x45_2 < (t560.length : Int)) = true := decide_eq_true c29
            clear c29
            by_cases c30 : x45_2 < (x6_2.length : Int)
            ·rw [if_pos c30] at H
             have c30b0 : decide (x45_2 < (x6_2.length : Int)) = true := decide_eq_true c30
             clear c30
             obtain ⟨y567, hy567⟩ : ∃ y_ : List Int, y_ = (x6_2.set (x45_2 : Int).toNat (rd t560 x45_2)) := ⟨_, rfl⟩
             replace H : (spec_EncodeWord.l0 k2 y567 t560 (t560.length : Int) (wrap64 (x45_2 + 1))) = some (r1, r2) := by first | (rw [hy567]; with_reducible exact H) | (have H2_ := (Option.bind_some _ _).symm.trans H; rw [hy567]; with_reducible exact H2_) | (have H2_ := (Option.bind_some _ _).symm.trans H; with_reducible exact H2_) | with_reducible exact H | (rw [hy567]; exact H) | exact H
             have Ny567 := Aside0.mk hy567
             clear hy567
             have H' := Aside0.mk H
             clear H
             have p566 : 0 ≤ (x45_2 : Int) := of_decide_eq_true (by assumption)
             have q566 : x45_2 < (t560.length : Int) := of_decide_eq_true (by assumption)
             obtain ⟨ad566, e566, hx566_0⟩ := Kd.at_int (Kd.R_reads' HO_43.out).2.2 x45_2 p566 q566
             cases e566
             replace p566 := eq_true p566
             replace q566 := eq_true q566
             have p31 : 0 ≤ (x45_2 : Int) := of_decide_eq_true (by assumption)
             have q31 : (x45_2 : Int) < ((x6_2.length : Int) : Int) := of_decide_eq_true (by assumption)
             obtain ⟨go31, co31, eo31, gb31, gl31, cl31, HG31⟩ := Kd.R_form HO_6.out (by omega)
             (first | cases eo31 | (injection eo31 with ea_ en_ ec_; (first | subst ea_ | (injection ea_ with ea_; subst ea_)); subst ec_; clear en_))
             have GB31 := Aside0.mk gb31
             have GG31 := Aside0.mk HG31
             clear gb31 gl31 HG31
             obtain ⟨hx31_0, hf31_0⟩ := Kd.R_celln 0 HO_6.out (x45_2 : Int) p31 q31
             replace p31 := eq_true p31
             replace q31 := eq_true q31
             have HP32 := Kd.R_putg HO_6.out (x45_2 : Int) (rd t560 x45_2)
             go_wp2_with (first | ((with_reducible refine gate_store (t := 3) (p := 53) rfl ?_); refine store_event (t := 3) (p := 53) (v := ?vo_w33) (w1 := (wr.setCell ⟨go31, (x45_2 : Int).toNat, none⟩ (.int .i64 (rd t560 x45_2)))) ?hg ?ho ?hn ?hr ?_; (case ho => rfl); (case hg => rfl); (case hn => rfl); (case hr => first | (go_simp; done) | (go_simp; rfl)); intro w33 hw; have hg : wr.grownBy w33 (some go31) := (by rw [hw]; exact HP32.2); have hp_ : Kd.R (Kd.int .i64) 3 w33 w.heap.size (fun k_ => some k_ ≠ (.slice (some ad566) t560.length co26 : Value).ownBlock) (.slice (some ⟨go31, 0, none⟩) x6_2.length co20) y567 := (by rw [hw, Ny567.out]; exact HP32.1); clear HP32; have n0_ := Aside0.mk (hp_); have n1_ := Aside0.mk (Kd.R_after (v := (.slice (some ⟨go31, 0, none⟩) x6_2.length co20)) (v1 := (.slice (some ⟨go31, 0, none⟩) x6_2.length co20)) (ok := (fun _ => True)) (by (with_reducible repeat (first | apply Kd.R_alloc | apply Kd.R_drewN | apply Kd.R_drew)); exact Kd.R_mono HO_43.out (fun _ hk => ⟨trivial, hk⟩)) hg (.inl rfl)); have n2_ := Aside0.mk ((by rw [hw]; exact below_set (HB.out) GB31.out : Below w.heap.size w w33)); clear HO_6; clear HO_43; clear HB; have HO_6 := n0_; have HO_43 := n1_; have HB := n2_; clear n0_ n1_ n2_; clear hg hw hp_))
             (try simp only [← hl6_2])
             go_roundg k2
             case measure => have := HJ2.out; have := HK2.out; omega
             case rel => exact ⟨(y567), (wrap64 (x45_2 + 1)), (by first | rfl | simp [*]), H', ⟨by have := HJ2.out; have := HK2.out; omega⟩, ⟨by (try simp only [hl6_2]); (with_reducible repeat (first | apply Kd.R_alloc | apply Kd.R_drewN | apply Kd.R_drew)); exact HO_6.out⟩, ⟨by (try simp only [hl6_2]); (with_reducible repeat (first | apply Kd.R_alloc | apply Kd.R_drewN | apply Kd.R_drew)); exact Kd.R_mono HO_43.out (fun _ hk => hk.2)⟩, ⟨by repeat (with_reducible first | exact HB.out | apply below_alloc | apply pw_below_drewN | apply below_drew1)⟩⟩
            ·rw [if_neg c30] at H
             exact absurd H (by simp)
           ·rw [if_neg c29] at H
            exact absurd H (by simp)
          ·rw [if_neg c28] at H
           exact absurd H (by simp)
         ·rw [if_neg c27] at H
          have c27b0 : decide (x45_2 < (t560.length : Int)) = false := decide_eq_false c27
          clear c27
          simp only [Option.some.injEq, Prod.mk.injEq] at H
          obtain ⟨rfl, rfl⟩ := H
          go_wp2
          go_ret2
          exact ⟨_, by first | rfl | (simp [errW_none, errW_some] <;> rfl) | (simp only [← hji10]; first | rfl | (simp [errW_none, errW_some] <;> rfl)) | (simp [*, errW_none, errW_some] <;> rfl), by (with_reducible repeat (first | apply Kd.R_alloc | apply Kd.R_drewN | apply Kd.R_drew)); exact Kd.R_mono HO_6.out (fun _ hk => trivial), by repeat (with_reducible first | exact HB.out | apply below_alloc | apply pw_below_drewN | apply below_drew1)⟩
      ·rw [if_neg c13] at H
       exact absurd H (by simp)
     ·rw [if_neg c12] at H
      exact absurd H (by simp)
    ·rw [if_neg c11] at H
     exact absurd H (by simp)

/-! ### spec_l1Cur_spoiltWord: function 140 -/
def spec_l1Cur_spoiltWord.l0 : Nat → Int → List Int → Int → List Int → Int → Int → Option (List Int × Int × Int × Int)
 | 0, _, _, _, _, _, _ => none
 | k + 1, x4, x5, x7, x1000, x1001, x1002 => if x7 > 0 then ((spec_l1Cur_pick.f x1000 x1001 x1002 (x5.length : Int)).bind fun bt586 => ((spec_l1Cur_pick.f x1000 bt586.2.1 bt586.2.2 256).bind fun bt589 => (if 0 ≤ bt586.1 then (if bt586.1 < (x5.length : Int) then (spec_l1Cur_spoiltWord.l0 k x4 (x5.set (bt586.1 : Int).toNat bt589.1) (wrap64 (x7 - 1)) x1000 bt589.2.1 bt589.2.2) else (none)) else (none)))) else (some (x5, x4, x1001, x1002))
def spec_l1Cur_spoiltWord.f (k : Nat) (s0_0 : List Int) (s0_1 : Int) (s0_2 : Int) : Option (List Int × Int × Int × Int) := (spec_l1Cur_pick.f s0_0 s0_1 s0_2 3).bind fun bt568 => ((spec_l1Cur_pick.f s0_0 bt568.2.1 bt568.2.2 8).bind fun bt571 => ((spec_l1Cur_elements.f k s0_0 bt571.2.1 bt571.2.2 (wrap64 (1 + bt571.1))).bind fun bt574 => ((spec_EncodeWord.f k bt574.1 (wrap64 (1 + bt568.1))).bind fun bt579 => (if bt579.2 = true then ((spec_l1Cur_pick.f s0_0 bt574.2.1 bt574.2.2 (wrap64 ((wrap64 (1 + bt568.1)) + 2))).bind fun bt583 => (spec_l1Cur_spoiltWord.l0 k (wrap64 (1 + bt568.1)) bt579.1 bt583.1 s0_0 bt583.2.1 bt583.2.2)) else (some (([] : List Int), wrap64 (1 + bt568.1), bt574.2.1, bt574.2.2))))))
set_option maxHeartbeats 8000000 in
set_option maxRecDepth 100000 in
theorem spec_l1Cur_spoiltWord.calls (k : Nat) (g : Nat) (s0_0 : List Int) (s0_1 : Int) (s0_2 : Int) (r1 : List Int) (r2 : Int) (r3 : Int) (r4 : Int) (w0 w : World) (hI : IsS93 w0 w g s0_0 s0_1 s0_2) (hB : Below w0.heap.size w0 w) (h : spec_l1Cur_spoiltWord.f k s0_0 s0_1 s0_2 = some (r1, r2, r3, r4)) :
  Calls Try.prog 140 #[.pointer (some ⟨g, 0, none⟩)] w fun e w' => ∃ v0_ : Value, e = .returned (.tuple #[v0_, .int .i64 r2]) ∧ Kd.R (Kd.int .i64) 3 w' w.heap.size (fun _ => True) v0_ r1 ∧ IsS93 w0 w' g s0_0 r3 r4 ∧ Below w0.heap.size w0 w' ∧ KeepBut w w' g none := by
 have HI0 := Aside0.mk hI
 have HK := Aside0.mk (KeepBut.refl w g none)
 have HL := Aside0.mk hB.size
 clear hI
 have HW0 := Aside0.mk hB.size
 have HB := Aside0.mk hB
 clear hB
 have H : ((spec_l1Cur_pick.f s0_0 s0_1 s0_2 3).bind fun bt568 => ((spec_l1Cur_pick.f s0_0 bt568.2.1 bt568.2.2 8).bind fun bt571 => ((spec_l1Cur_elements.f k s0_0 bt571.2.1 bt571.2.2 (wrap64 (1 + bt571.1))).bind fun bt574 => ((spec_EncodeWord.f k bt574.1 (wrap64 (1 + bt568.1))).bind fun bt579 => (if bt579.2 = true then ((spec_l1Cur_pick.f s0_0 bt574.2.1 bt574.2.2 (wrap64 ((wrap64 (1 + bt568.1)) + 2))).bind fun bt583 => (spec_l1Cur_spoiltWord.l0 k (wrap64 (1 + bt568.1)) bt579.1 bt583.1 s0_0 bt583.2.1 bt583.2.2)) else (some (([] : List Int), wrap64 (1 + bt568.1), bt574.2.1, bt574.2.2))))))) = some (r1, r2, r3, r4) := h
 clear h
 replace H := Option.bind_eq_some_iff.mp H
 obtain ⟨⟨t568, t569, t570⟩, A20, H⟩ := H
 replace H : ((spec_l1Cur_pick.f s0_0 t569 t570 8).bind fun bt571 => ((spec_l1Cur_elements.f k s0_0 bt571.2.1 bt571.2.2 (wrap64 (1 + bt571.1))).bind fun bt574 => ((spec_EncodeWord.f k bt574.1 (wrap64 (1 + t568))).bind fun bt579 => (if bt579.2 = true then ((spec_l1Cur_pick.f s0_0 bt574.2.1 bt574.2.2 (wrap64 ((wrap64 (1 + t568)) + 2))).bind fun bt583 => (spec_l1Cur_spoiltWord.l0 k (wrap64 (1 + t568)) bt579.1 bt583.1 s0_0 bt583.2.1 bt583.2.2)) else (some (([] : List Int), wrap64 (1 + t568), bt574.2.1, bt574.2.2)))))) = some (r1, r2, r3, r4) := H
 have A2 := Aside0.mk A20
 clear A20
 replace H := Option.bind_eq_some_iff.mp H
 obtain ⟨⟨t571, t572, t573⟩, A30, H⟩ := H
 replace H : ((spec_l1Cur_elements.f k s0_0 t572 t573 (wrap64 (1 + t571))).bind fun bt574 => ((spec_EncodeWord.f k bt574.1 (wrap64 (1 + t568))).bind fun bt579 => (if bt579.2 = true then ((spec_l1Cur_pick.f s0_0 bt574.2.1 bt574.2.2 (wrap64 ((wrap64 (1 + t568)) + 2))).bind fun bt583 => (spec_l1Cur_spoiltWord.l0 k (wrap64 (1 + t568)) bt579.1 bt583.1 s0_0 bt583.2.1 bt583.2.2)) else (some (([] : List Int), wrap64 (1 + t568), bt574.2.1, bt574.2.2))))) = some (r1, r2, r3, r4) := H
 have A3 := Aside0.mk A30
 clear A30
 replace H := Option.bind_eq_some_iff.mp H
 obtain ⟨⟨t574, t577, t578⟩, A40, H⟩ := H
 replace H : ((spec_EncodeWord.f k t574 (wrap64 (1 + t568))).bind fun bt579 => (if bt579.2 = true then ((spec_l1Cur_pick.f s0_0 t577 t578 (wrap64 ((wrap64 (1 + t568)) + 2))).bind fun bt583 => (spec_l1Cur_spoiltWord.l0 k (wrap64 (1 + t568)) bt579.1 bt583.1 s0_0 bt583.2.1 bt583.2.2)) else (some (([] : List Int), wrap64 (1 + t568), t577, t578)))) = some (r1, r2, r3, r4) := H
 have A4 := Aside0.mk A40
 clear A40
 replace H := Option.bind_eq_some_iff.mp H
 obtain ⟨⟨t579, t580⟩, A50, H⟩ := H
 replace H : (if t580 = true then ((spec_l1Cur_pick.f s0_0 t577 t578 (wrap64 ((wrap64 (1 + t568)) + 2))).bind fun bt583 => (spec_l1Cur_spoiltWord.l0 k (wrap64 (1 + t568)) t579 bt583.1 s0_0 bt583.2.1 bt583.2.2)) else (some (([] : List Int), wrap64 (1 + t568), t577, t578))) = some (r1, r2, r3, r4) := H
 have A5 := Aside0.mk A50
 clear A50
 by_cases c6 : t580 = true
 ·subst c6
  have H1 : ((spec_l1Cur_pick.f s0_0 t577 t578 (wrap64 ((wrap64 (1 + t568)) + 2))).bind fun bt583 => (spec_l1Cur_spoiltWord.l0 k (wrap64 (1 + t568)) t579 bt583.1 s0_0 bt583.2.1 bt583.2.2)) = some (r1, r2, r3, r4) := by rw [if_pos rfl] at H; exact H
  clear H
  have H := H1
  clear H1
  replace H := Option.bind_eq_some_iff.mp H
  obtain ⟨⟨t583, t584, t585⟩, A70, H⟩ := H
  replace H : (spec_l1Cur_spoiltWord.l0 k (wrap64 (1 + t568)) t579 t583 s0_0 t584 t585) = some (r1, r2, r3, r4) := H
  have A7 := Aside0.mk A70
  clear A70
  have H' := Aside0.mk H
  clear H
  go_enter Try.func140, Try.ntmps140
  go_wp2_with (first | (go_at_call 90; (with_reducible refine (spec_l1Cur_pick.calls g s0_0 s0_1 s0_2 3 t568 t569 t570 w0 _ ?side1 ?side2 A2.out).mono ?_); (case side1 => repeat (with_reducible first | exact HI0.out | apply IsS93.alloc | apply IsS93.drewN | apply IsS93.drew | apply IsS93.set_1 | apply IsS93.set_2)); (case side2 => repeat (with_reducible first | exact HB.out | apply below_alloc | apply pw_below_drewN | apply below_drew1 | refine below_set ?_ (IsS93.ge HI0.out))); rintro e w8 ⟨rfl, hi, hb, hk⟩; have n0_ := Aside0.mk (KeepBut.trans (by repeat (with_reducible first | exact HK.out | apply KeepBut.set_ | apply keep_drewN | apply keep_drew | apply keep_alloc)) hk (.inl rfl)); have n1_ := Aside0.mk (hb); have n2_ := Aside0.mk (hi); clear HK; clear HB; clear HI0; have HK := n0_; have HB := n1_; have HI0 := n2_; clear n0_ n1_ n2_; (try clear hb); (try clear hb2); (try clear hk); (try clear hi)) | (go_at_call 90; (with_reducible refine (spec_l1Cur_pick.calls g s0_0 t569 t570 8 t571 t572 t573 w0 _ ?side1 ?side2 A3.out).mono ?_); (case side1 => repeat (with_reducible first | exact HI0.out | apply IsS93.alloc | apply IsS93.drewN | apply IsS93.drew | apply IsS93.set_1 | apply IsS93.set_2)); (case side2 => repeat (with_reducible first | exact HB.out | apply below_alloc | apply pw_below_drewN | apply below_drew1 | refine below_set ?_ (IsS93.ge HI0.out))); rintro e w9 ⟨rfl, hi, hb, hk⟩; have n0_ := Aside0.mk (KeepBut.trans (by repeat (with_reducible first | exact HK.out | apply KeepBut.set_ | apply keep_drewN | apply keep_drew | apply keep_alloc)) hk (.inl rfl)); have n1_ := Aside0.mk (hb); have n2_ := Aside0.mk (hi); clear HK; clear HB; clear HI0; have HK := n0_; have HB := n1_; have HI0 := n2_; clear n0_ n1_ n2_; (try clear hb); (try clear hb2); (try clear hk); (try clear hi)) | (go_at_call 139; (with_reducible refine (spec_l1Cur_elements.calls k g s0_0 t572 t573 (wrap64 (1 + t571)) t574 t577 t578 w0 _ ?side1 ?side2 A4.out).mono ?_); (case side1 => repeat (with_reducible first | exact HI0.out | apply IsS93.alloc | apply IsS93.drewN | apply IsS93.drew | apply IsS93.set_1 | apply IsS93.set_2)); (case side2 => repeat (with_reducible first | exact HB.out | apply below_alloc | apply pw_below_drewN | apply below_drew1 | refine below_set ?_ (IsS93.ge HI0.out))); rintro e w10 ⟨v575, rfl, ho0, hi, hb, hk⟩; have n0_ := Aside0.mk (Kd.R_lower ho0 (keep_size (w := w) (g := g) (row := none) (by repeat (with_reducible first | exact HK.out | apply KeepBut.set_ | apply keep_drewN | apply keep_drew | apply keep_alloc)))); have n1_ := Aside0.mk (KeepBut.trans (by repeat (with_reducible first | exact HK.out | apply KeepBut.set_ | apply keep_drewN | apply keep_drew | apply keep_alloc)) hk (.inl rfl)); have n2_ := Aside0.mk (hb); have n3_ := Aside0.mk (hi); clear HK; clear HB; clear HI0; have HO576 := n0_; have HK := n1_; have HB := n2_; have HI0 := n3_; clear n0_ n1_ n2_ n3_; (try clear hb); (try clear hb2); (try clear hk); (try clear hi); (try clear ho0); obtain ⟨Ao11, co11, eo11⟩ := Kd.R_slice HO576.out; subst eo11) | (go_at_call 83; (with_reducible refine (spec_EncodeWord.calls k _ _ t574 (wrap64 (1 + t568)) t579 true _ ?side1 ?side2 A5.out).mono ?_); (case side1 => repeat (first | exact (Kd.R_reads' HO576.out).2.2 | (with_reducible refine Kd.C_alloc ?_ _) | (with_reducible refine Kd.C_drewN ?_ _) | (with_reducible refine Kd.C_drew ?_))); (case side2 => exact (Kd.R_reads' HO576.out).2.1); rintro e w12 ⟨v581, rfl, ho0, hb⟩; have n0_ := Aside0.mk (Kd.R_elder' (by (with_reducible repeat (first | apply Kd.R_alloc | apply Kd.R_drewN | apply Kd.R_drew)); exact HO576.out) (Kd.R_base ho0) hb); have n1_ := Aside0.mk (Kd.R_lower (Kd.R_new' ho0 (Kd.R_lt (by (with_reducible repeat (first | apply Kd.R_alloc | apply Kd.R_drewN | apply Kd.R_drew)); exact HO576.out))) (keep_size (w := w) (g := g) (row := none) (by repeat (with_reducible first | exact HK.out | apply KeepBut.set_ | apply keep_drewN | apply keep_drew | apply keep_alloc)))); have n2_ := Aside0.mk (IsS93.below (by repeat (with_reducible first | exact HI0.out | apply IsS93.alloc | apply IsS93.drewN | apply IsS93.drew | apply IsS93.set_1 | apply IsS93.set_2)) hb); have n3_ := Aside0.mk (KeepBut.trans (by repeat (with_reducible first | exact HK.out | apply KeepBut.set_ | apply keep_drewN | apply keep_drew | apply keep_alloc)) (KeepBut.of_below hb g none) (.inl rfl)); have n4_ := Aside0.mk (below_step (by repeat (with_reducible first | exact HB.out | apply below_alloc | apply pw_below_drewN | apply below_drew1 | refine below_set ?_ (IsS93.ge HI0.out))) hb); clear HO576; clear HI0; clear HK; clear HB; have HO576 := n0_; have HO582 := n1_; have HI0 := n2_; have HK := n3_; have HB := n4_; clear n0_ n1_ n2_ n3_ n4_; (try clear hb); (try clear hb2); (try clear hk); (try clear hi); (try clear ho0)) | (go_at_call 90; (with_reducible refine (spec_l1Cur_pick.calls g s0_0 t577 t578 (wrap64 ((wrap64 (1 + t568)) + 2)) t583 t584 t585 w0 _ ?side1 ?side2 A7.out).mono ?_); (case side1 => repeat (with_reducible first | exact HI0.out | apply IsS93.alloc | apply IsS93.drewN | apply IsS93.drew | apply IsS93.set_1 | apply IsS93.set_2)); (case side2 => repeat (with_reducible first | exact HB.out | apply below_alloc | apply pw_below_drewN | apply below_drew1 | refine below_set ?_ (IsS93.ge HI0.out))); rintro e w13 ⟨rfl, hi, hb, hk⟩; have n0_ := Aside0.mk (Kd.R_mono (Kd.R_keep (IsS93.apart (show IsS93 w0 _ g s0_0 t577 t578 from by repeat (with_reducible first | exact HI0.out | apply IsS93.alloc | apply IsS93.drewN | apply IsS93.drew | apply IsS93.set_1 | apply IsS93.set_2)) (by (with_reducible repeat (first | apply Kd.R_alloc | apply Kd.R_drewN | apply Kd.R_drew)); exact HO576.out) (by decide)) hk (fun _ h => h.2)) (fun _ h => h.1)); have n1_ := Aside0.mk (Kd.R_mono (Kd.R_keep (IsS93.apart (show IsS93 w0 _ g s0_0 t577 t578 from by repeat (with_reducible first | exact HI0.out | apply IsS93.alloc | apply IsS93.drewN | apply IsS93.drew | apply IsS93.set_1 | apply IsS93.set_2)) (by (with_reducible repeat (first | apply Kd.R_alloc | apply Kd.R_drewN | apply Kd.R_drew)); exact HO582.out) (by decide)) hk (fun _ h => h.2)) (fun _ h => h.1)); have n2_ := Aside0.mk (KeepBut.trans (by repeat (with_reducible first | exact HK.out | apply KeepBut.set_ | apply keep_drewN | apply keep_drew | apply keep_alloc)) hk (.inl rfl)); have n3_ := Aside0.mk (hb); have n4_ := Aside0.mk (hi); clear HO576; clear HO582; clear HK; clear HB; clear HI0; have HO576 := n0_; have HO582 := n1_; have HK := n2_; have HB := n3_; have HI0 := n4_; clear n0_ n1_ n2_ n3_ n4_; (try clear hb); (try clear hb2); (try clear hk); (try clear hi)))
  go_loopg [7] k (fun kq v7 w' => ∃ (x5_1 : List Int) (x7_1 : Int) (x1001_1 : Int) (x1002_1 : Int), v7 = .int .i64 x7_1 ∧ Aside0 (spec_l1Cur_spoiltWord.l0 kq (wrap64 (1 + t568)) x5_1 x7_1 s0_0 x1001_1 x1002_1 = some (r1, r2, r3, r4)) ∧ Aside0 (kq ≤ k) ∧ Aside0 (Kd.R (Kd.int .i64) 3 w' w.heap.size (fun _ => True) v581 x5_1) ∧ Aside0 (IsS93 w0 w' g s0_0 x1001_1 x1002_1) ∧ Aside0 (KeepBut w w' g none) ∧ Aside0 (Below w0.heap.size w0 w'))
  case atStart => exact ⟨(t579), (t583), (t584), (t585), (by first | rfl | simp [*]), H', ⟨Nat.le_refl _⟩, ⟨by (with_reducible repeat (first | apply Kd.R_alloc | apply Kd.R_drewN | apply Kd.R_drew)); exact Kd.R_mono HO582.out (fun _ hk => trivial)⟩, ⟨by repeat (with_reducible first | exact HI0.out | apply IsS93.alloc | apply IsS93.drewN | apply IsS93.drew | apply IsS93.set_1 | apply IsS93.set_2)⟩, ⟨by repeat (with_reducible first | exact HK.out | apply KeepBut.set_ | apply keep_drewN | apply keep_drew | apply keep_alloc)⟩, ⟨by repeat (with_reducible first | exact HB.out | apply below_alloc | apply pw_below_drewN | apply below_drew1 | refine below_set ?_ (IsS93.ge HI0.out))⟩⟩
  case round =>
   clear H'
   try clear c1; try clear p2; try clear c6; try clear p6; try clear c8; try clear c9; try clear c13
   obtain ⟨x5_1, x7_1, x1001_1, x1002_1, rfl, HA, HK1, HO_5, HI0, HK, HB⟩ := hrel
   cases gk with
   | zero => exact absurd HA.out (by first | (unfold spec_l1Cur_spoiltWord.l0; exact fun h_ => nomatch h_) | simp [spec_l1Cur_spoiltWord.l0])
   | succ k1 =>
    have H := HA.out
    clear HA
    simp only [spec_l1Cur_spoiltWord.l0] at H
    by_cases c14 : x7_1 > 0
    ·rw [if_pos c14] at H
     have c14b0 : decide (0 < x7_1) = true := decide_eq_true c14
     clear c14
     replace H := Option.bind_eq_some_iff.mp H
     obtain ⟨⟨t586, t587, t588⟩, A150, H⟩ := H
     replace H : ((spec_l1Cur_pick.f s0_0 t587 t588 256).bind fun bt589 => (if 0 ≤ t586 then (if t586 < (x5_1.length : Int) then (spec_l1Cur_spoiltWord.l0 k1 (wrap64 (1 + t568)) (x5_1.set (t586 : Int).toNat bt589.1) (wrap64 (x7_1 - 1)) s0_0 bt589.2.1 bt589.2.2) else (none)) else (none))) = some (r1, r2, r3, r4) := H
     have A15 := Aside0.mk A150
     clear A150
     replace H := Option.bind_eq_some_iff.mp H
     obtain ⟨⟨t589, t590, t591⟩, A160, H⟩ := H
     replace H : (if 0 ≤ t586 then (if t586 < (x5_1.length : Int) then (spec_l1Cur_spoiltWord.l0 k1 (wrap64 (1 + t568)) (x5_1.set (t586 : Int).toNat t589) (wrap64 (x7_1 - 1)) s0_0 t590 t591) else (none)) else (none)) = some (r1, r2, r3, r4) := H
     have A16 := Aside0.mk A160
     clear A160
     by_cases c17 : 0 ≤ t586
     ·rw [if_pos c17] at H
      have c17b0 : decide (0 ≤ t586) = true := decide_eq_true c17
      clear c17
      by_cases c18 : t586 < (x5_1.length : Int)
      ·rw [if_pos c18] at H
       have c18b0 : decide (t586 < (x5_1.length : Int)) = true := decide_eq_true c18
       clear c18
       obtain ⟨y592, hy592⟩ : ∃ y_ : List Int, y_ = (x5_1.set (t586 : Int).toNat t589) := ⟨_, rfl⟩
       replace H : (spec_l1Cur_spoiltWord.l0 k1 (wrap64 (1 + t568)) y592 (wrap64 (x7_1 - 1)) s0_0 t590 t591) = some (r1, r2, r3, r4) := by first | (rw [hy592]; with_reducible exact H) | (have H2_ := (Option.bind_some _ _).symm.trans H; rw [hy592]; with_reducible exact H2_) | (have H2_ := (Option.bind_some _ _).symm.trans H; with_reducible exact H2_) | with_reducible exact H | (rw [hy592]; exact H) | exact H
       have Ny592 := Aside0.mk hy592
       clear hy592
       have H' := Aside0.mk H
       clear H
       obtain ⟨Ao20, co20, eo20⟩ := Kd.R_slice HO_5.out
       subst eo20
       go_wp2_with (first | (go_at_call 90; (with_reducible refine (spec_l1Cur_pick.calls g s0_0 x1001_1 x1002_1 (x5_1.length : Int) t586 t587 t588 w0 _ ?side1 ?side2 A15.out).mono ?_); (case side1 => repeat (with_reducible first | exact HI0.out | apply IsS93.alloc | apply IsS93.drewN | apply IsS93.drew | apply IsS93.set_1 | apply IsS93.set_2)); (case side2 => repeat (with_reducible first | exact HB.out | apply below_alloc | apply pw_below_drewN | apply below_drew1 | refine below_set ?_ (IsS93.ge HI0.out))); rintro e w21 ⟨rfl, hi, hb, hk⟩; have n0_ := Aside0.mk (Kd.R_mono (Kd.R_keep (IsS93.apart (show IsS93 w0 _ g s0_0 x1001_1 x1002_1 from by repeat (with_reducible first | exact HI0.out | apply IsS93.alloc | apply IsS93.drewN | apply IsS93.drew | apply IsS93.set_1 | apply IsS93.set_2)) (by (with_reducible repeat (first | apply Kd.R_alloc | apply Kd.R_drewN | apply Kd.R_drew)); exact HO_5.out) (by decide)) hk (fun _ h => h.2)) (fun _ h => h.1)); have n1_ := Aside0.mk (KeepBut.trans (by repeat (with_reducible first | exact HK.out | apply KeepBut.set_ | apply keep_drewN | apply keep_drew | apply keep_alloc)) hk (.inl rfl)); have n2_ := Aside0.mk (hb); have n3_ := Aside0.mk (hi); clear HO_5; clear HK; clear HB; clear HI0; have HO_5 := n0_; have HK := n1_; have HB := n2_; have HI0 := n3_; clear n0_ n1_ n2_ n3_; (try clear hb); (try clear hb2); (try clear hk); (try clear hi)) | (go_at_call 90; (with_reducible refine (spec_l1Cur_pick.calls g s0_0 t587 t588 256 t589 t590 t591 w0 _ ?side1 ?side2 A16.out).mono ?_); (case side1 => repeat (with_reducible first | exact HI0.out | apply IsS93.alloc | apply IsS93.drewN | apply IsS93.drew | apply IsS93.set_1 | apply IsS93.set_2)); (case side2 => repeat (with_reducible first | exact HB.out | apply below_alloc | apply pw_below_drewN | apply below_drew1 | refine below_set ?_ (IsS93.ge HI0.out))); rintro e w22 ⟨rfl, hi, hb, hk⟩; have n0_ := Aside0.mk (Kd.R_mono (Kd.R_keep (IsS93.apart (show IsS93 w0 _ g s0_0 t587 t588 from by repeat (with_reducible first | exact HI0.out | apply IsS93.alloc | apply IsS93.drewN | apply IsS93.drew | apply IsS93.set_1 | apply IsS93.set_2)) (by (with_reducible repeat (first | apply Kd.R_alloc | apply Kd.R_drewN | apply Kd.R_drew)); exact HO_5.out) (by decide)) hk (fun _ h => h.2)) (fun _ h => h.1)); have n1_ := Aside0.mk (KeepBut.trans (by repeat (with_reducible first | exact HK.out | apply KeepBut.set_ | apply keep_drewN | apply keep_drew | apply keep_alloc)) hk (.inl rfl)); have n2_ := Aside0.mk (hb); have n3_ := Aside0.mk (hi); clear HO_5; clear HK; clear HB; clear HI0; have HO_5 := n0_; have HK := n1_; have HB := n2_; have HI0 := n3_; clear n0_ n1_ n2_ n3_; (try clear hb); (try clear hb2); (try clear hk); (try clear hi); have p19 : 0 ≤ (t586 : Int) := of_decide_eq_true (by assumption); have q19 : (t586 : Int) < ((x5_1.length : Int) : Int) := of_decide_eq_true (by assumption); obtain ⟨go19, co19, eo19, gb19, gl19, cl19, HG19⟩ := Kd.R_form HO_5.out (by omega); (first | cases eo19 | (injection eo19 with ea_ en_ ec_; (first | subst ea_ | (injection ea_ with ea_; subst ea_)); subst ec_; clear en_)); have GB19 := Aside0.mk gb19; have GG19 := Aside0.mk HG19; clear gb19 gl19 HG19; obtain ⟨hx19_0, hf19_0⟩ := Kd.R_celln 0 HO_5.out (t586 : Int) p19 q19; replace p19 := eq_true p19; replace q19 := eq_true q19; obtain ⟨hy23_, hz23_⟩ := Kd.R_celln 0 HO_5.out (t586 : Int) (of_decide_eq_true (by assumption)) (of_decide_eq_true (by assumption)); have HP23 := Kd.R_putg HO_5.out (t586 : Int) t589) | ((with_reducible refine gate_store (t := 3) (p := 39) rfl ?_); refine store_event (t := 3) (p := 39) (v := ?vo_w24) (w1 := (w22.setCell ⟨go19, (t586 : Int).toNat, none⟩ (.int .i64 t589))) ?hg ?ho ?hn ?hr ?_; (case ho => rfl); (case hg => rfl); (case hn => rfl); (case hr => first | (go_simp; done) | (go_simp; rfl)); intro w24 hw; have hg : w22.grownBy w24 (some go19) := (by rw [hw]; exact HP23.2); have hp_ : Kd.R (Kd.int .i64) 3 w24 w.heap.size (fun _ => True) (.slice (some ⟨go19, 0, none⟩) x5_1.length co20) y592 := (by rw [hw, Ny592.out]; exact HP23.1); clear HP23; have n0_ := Aside0.mk (hp_); have n1_ := Aside0.mk (IsS93.grown (by repeat (with_reducible first | exact HI0.out | apply IsS93.alloc | apply IsS93.drewN | apply IsS93.drew | apply IsS93.set_1 | apply IsS93.set_2)) hg (IsS93.own_ne HI0.out HO_5.out (by decide))); have n2_ := Aside0.mk ((by rw [hw]; exact below_set (HB.out) (Nat.le_trans HL.out GB19.out) : Below w0.heap.size w0 w24)); have n3_ := Aside0.mk (KeepBut.trans (by repeat (with_reducible first | exact HK.out | apply KeepBut.set_ | apply keep_drewN | apply keep_drew | apply keep_alloc)) (KeepBut.of_grown hg g) (Kd.R_base2 HO_5.out)); clear HO_5; clear HI0; clear HB; clear HK; have HO_5 := n0_; have HI0 := n1_; have HB := n2_; have HK := n3_; clear n0_ n1_ n2_ n3_; clear hg hw hp_))
       go_roundg k1
       case measure => have := HK1.out; omega
       case rel => exact ⟨(y592), (wrap64 (x7_1 - 1)), (t590), (t591), (by first | rfl | simp [*]), H', ⟨by have := HK1.out; omega⟩, ⟨by (with_reducible repeat (first | apply Kd.R_alloc | apply Kd.R_drewN | apply Kd.R_drew)); exact HO_5.out⟩, ⟨by repeat (with_reducible first | exact HI0.out | apply IsS93.alloc | apply IsS93.drewN | apply IsS93.drew | apply IsS93.set_1 | apply IsS93.set_2)⟩, ⟨by repeat (with_reducible first | exact HK.out | apply KeepBut.set_ | apply keep_drewN | apply keep_drew | apply keep_alloc)⟩, ⟨by repeat (with_reducible first | exact HB.out | apply below_alloc | apply pw_below_drewN | apply below_drew1 | refine below_set ?_ (IsS93.ge HI0.out))⟩⟩
      ·rw [if_neg c18] at H
       exact absurd H (by simp)
     ·rw [if_neg c17] at H
      exact absurd H (by simp)
    ·rw [if_neg c14] at H
     have c14b0 : decide (0 < x7_1) = false := decide_eq_false c14
     clear c14
     simp only [Option.some.injEq, Prod.mk.injEq] at H
     obtain ⟨rfl, rfl, rfl, rfl⟩ := H
     go_wp2
     go_ret2
     exact ⟨_, by first | rfl | simp [*], by (with_reducible repeat (first | apply Kd.R_alloc | apply Kd.R_drewN | apply Kd.R_drew)); exact HO_5.out, by repeat (with_reducible first | exact HI0.out | apply IsS93.alloc | apply IsS93.drewN | apply IsS93.drew | apply IsS93.set_1 | apply IsS93.set_2), by repeat (with_reducible first | exact HB.out | apply below_alloc | apply pw_below_drewN | apply below_drew1 | refine below_set ?_ (IsS93.ge HI0.out)), by repeat (with_reducible first | exact HK.out | apply KeepBut.set_ | apply keep_drewN | apply keep_drew | apply keep_alloc)⟩
 ·replace c6 := Bool.eq_false_iff.mpr c6
  subst c6
  have H1 : (some (([] : List Int), wrap64 (1 + t568), t577, t578)) = some (r1, r2, r3, r4) := by rw [if_neg (show ¬ (false = true) by decide)] at H; exact H
  clear H
  have H := H1
  clear H1
  simp only [Option.some.injEq, Prod.mk.injEq] at H
  obtain ⟨rfl, rfl, rfl, rfl⟩ := H
  go_enter Try.func140, Try.ntmps140
  go_wp2_with (first | (go_at_call 90; (with_reducible refine (spec_l1Cur_pick.calls g s0_0 s0_1 s0_2 3 t568 t569 t570 w0 _ ?side1 ?side2 A2.out).mono ?_); (case side1 => repeat (with_reducible first | exact HI0.out | apply IsS93.alloc | apply IsS93.drewN | apply IsS93.drew | apply IsS93.set_1 | apply IsS93.set_2)); (case side2 => repeat (with_reducible first | exact HB.out | apply below_alloc | apply pw_below_drewN | apply below_drew1 | refine below_set ?_ (IsS93.ge HI0.out))); rintro e w25 ⟨rfl, hi, hb, hk⟩; have n0_ := Aside0.mk (KeepBut.trans (by repeat (with_reducible first | exact HK.out | apply KeepBut.set_ | apply keep_drewN | apply keep_drew | apply keep_alloc)) hk (.inl rfl)); have n1_ := Aside0.mk (hb); have n2_ := Aside0.mk (hi); clear HK; clear HB; clear HI0; have HK := n0_; have HB := n1_; have HI0 := n2_; clear n0_ n1_ n2_; (try clear hb); (try clear hb2); (try clear hk); (try clear hi)) | (go_at_call 90; (with_reducible refine (spec_l1Cur_pick.calls g s0_0 t569 t570 8 t571 t572 t573 w0 _ ?side1 ?side2 A3.out).mono ?_); (case side1 => repeat (with_reducible first | exact HI0.out | apply IsS93.alloc | apply IsS93.drewN | apply IsS93.drew | apply IsS93.set_1 | apply IsS93.set_2)); (case side2 => repeat (with_reducible first | exact HB.out | apply below_alloc | apply pw_below_drewN | apply below_drew1 | refine below_set ?_ (IsS93.ge HI0.out))); rintro e w26 ⟨rfl, hi, hb, hk⟩; have n0_ := Aside0.mk (KeepBut.trans (by repeat (with_reducible first | exact HK.out | apply KeepBut.set_ | apply keep_drewN | apply keep_drew | apply keep_alloc)) hk (.inl rfl)); have n1_ := Aside0.mk (hb); have n2_ := Aside0.mk (hi); clear HK; clear HB; clear HI0; have HK := n0_; have HB := n1_; have HI0 := n2_; clear n0_ n1_ n2_; (try clear hb); (try clear hb2); (try clear hk); (try clear hi)) | (go_at_call 139; (with_reducible refine (spec_l1Cur_elements.calls k g s0_0 t572 t573 (wrap64 (1 + t571)) t574 t577 t578 w0 _ ?side1 ?side2 A4.out).mono ?_); (case side1 => repeat (with_reducible first | exact HI0.out | apply IsS93.alloc | apply IsS93.drewN | apply IsS93.drew | apply IsS93.set_1 | apply IsS93.set_2)); (case side2 => repeat (with_reducible first | exact HB.out | apply below_alloc | apply pw_below_drewN | apply below_drew1 | refine below_set ?_ (IsS93.ge HI0.out))); rintro e w27 ⟨v575, rfl, ho0, hi, hb, hk⟩; have n0_ := Aside0.mk (Kd.R_lower ho0 (keep_size (w := w) (g := g) (row := none) (by repeat (with_reducible first | exact HK.out | apply KeepBut.set_ | apply keep_drewN | apply keep_drew | apply keep_alloc)))); have n1_ := Aside0.mk (KeepBut.trans (by repeat (with_reducible first | exact HK.out | apply KeepBut.set_ | apply keep_drewN | apply keep_drew | apply keep_alloc)) hk (.inl rfl)); have n2_ := Aside0.mk (hb); have n3_ := Aside0.mk (hi); clear HK; clear HB; clear HI0; have HO576 := n0_; have HK := n1_; have HB := n2_; have HI0 := n3_; clear n0_ n1_ n2_ n3_; (try clear hb); (try clear hb2); (try clear hk); (try clear hi); (try clear ho0); obtain ⟨Ao28, co28, eo28⟩ := Kd.R_slice HO576.out; subst eo28) | (go_at_call 83; (with_reducible refine (spec_EncodeWord.calls k _ _ t574 (wrap64 (1 + t568)) t579 false _ ?side1 ?side2 A5.out).mono ?_); (case side1 => repeat (first | exact (Kd.R_reads' HO576.out).2.2 | (with_reducible refine Kd.C_alloc ?_ _) | (with_reducible refine Kd.C_drewN ?_ _) | (with_reducible refine Kd.C_drew ?_))); (case side2 => exact (Kd.R_reads' HO576.out).2.1); rintro e w29 ⟨v581, rfl, ho0, hb⟩; have n0_ := Aside0.mk (Kd.R_elder' (by (with_reducible repeat (first | apply Kd.R_alloc | apply Kd.R_drewN | apply Kd.R_drew)); exact HO576.out) (Kd.R_base ho0) hb); have n1_ := Aside0.mk (Kd.R_lower (Kd.R_new' ho0 (Kd.R_lt (by (with_reducible repeat (first | apply Kd.R_alloc | apply Kd.R_drewN | apply Kd.R_drew)); exact HO576.out))) (keep_size (w := w) (g := g) (row := none) (by repeat (with_reducible first | exact HK.out | apply KeepBut.set_ | apply keep_drewN | apply keep_drew | apply keep_alloc)))); have n2_ := Aside0.mk (IsS93.below (by repeat (with_reducible first | exact HI0.out | apply IsS93.alloc | apply IsS93.drewN | apply IsS93.drew | apply IsS93.set_1 | apply IsS93.set_2)) hb); have n3_ := Aside0.mk (KeepBut.trans (by repeat (with_reducible first | exact HK.out | apply KeepBut.set_ | apply keep_drewN | apply keep_drew | apply keep_alloc)) (KeepBut.of_below hb g none) (.inl rfl)); have n4_ := Aside0.mk (below_step (by repeat (with_reducible first | exact HB.out | apply below_alloc | apply pw_below_drewN | apply below_drew1 | refine below_set ?_ (IsS93.ge HI0.out))) hb); clear HO576; clear HI0; clear HK; clear HB; have HO576 := n0_; have HO582 := n1_; have HI0 := n2_; have HK := n3_; have HB := n4_; clear n0_ n1_ n2_ n3_ n4_; (try clear hb); (try clear hb2); (try clear hk); (try clear hi); (try clear ho0)))
  go_ret2
  exact ⟨_, by first | rfl | simp [*], by first | exact Kd.R_nil _ _ _ _ _ | exact Kd.N_nil _ _ _ _ _ | exact Kd.V_nil _ _ _ _ _ | exact Kd.Q_nil _ _ _ _ _ | exact Kd.S_nil _ _ _ _ _, by repeat (with_reducible first | exact HI0.out | apply IsS93.alloc | apply IsS93.drewN | apply IsS93.drew | apply IsS93.set_1 | apply IsS93.set_2), by repeat (with_reducible first | exact HB.out | apply below_alloc | apply pw_below_drewN | apply below_drew1 | refine below_set ?_ (IsS93.ge HI0.out)), by repeat (with_reducible first | exact HK.out | apply KeepBut.set_ | apply keep_drewN | apply keep_drew | apply keep_alloc)⟩

/-! ### spec_DrawSyndromesOf: function 68 -/
def spec_DrawSyndromesOf.f (k : Nat) (l0 : List Int) : Option (List Int × Int) := (spec_l1Cur_spoiltWord.f k l0 0 0).bind fun bt594 => (some (bt594.1, bt594.2.1))
set_option maxHeartbeats 8000000 in
set_option maxRecDepth 100000 in
theorem spec_DrawSyndromesOf.calls (k : Nat) (A0 : Option Addr) (c0 : Nat) (l0 : List Int) (r1 : List Int) (r2 : Int) (w : World) (hr0 : Kd.C (Kd.int .u8) w A0 l0.length l0) (hc0 : l0.length ≤ c0) (h : spec_DrawSyndromesOf.f k l0 = some (r1, r2)) :
  Calls Try.prog 68 #[.slice A0 l0.length c0] w fun e w' => ∃ v0_ : Value, e = .returned (.tuple #[v0_, .int .i64 r2]) ∧ Kd.R (Kd.int .i64) 3 w' w.heap.size (fun _ => True) v0_ r1 ∧ Below w.heap.size w w' := by
 have hu93 := Try.underlying93
 have HR0 := Aside0.mk hr0
 have HC0 := Aside0.mk hc0
 clear hr0 hc0
 have HB := Aside0.mk (Below.refl w.heap.size w)
 have H : ((spec_l1Cur_spoiltWord.f k l0 0 0).bind fun bt594 => (some (bt594.1, bt594.2.1))) = some (r1, r2) := h
 clear h
 replace H := Option.bind_eq_some_iff.mp H
 obtain ⟨⟨t594, t597, t598, t599⟩, A20, H⟩ := H
 replace H : (some (t594, t597)) = some (r1, r2) := H
 have A2 := Aside0.mk A20
 clear A20
 simp only [Option.some.injEq, Prod.mk.injEq] at H
 obtain ⟨rfl, rfl⟩ := H
 go_enter Try.func68, Try.ntmps68
 go_wp2_with (first | ((with_reducible refine gate_dst (N := 7) rfl ?_); refine box_event ?hg (N := 7) ?hd (cs := #[.slice A0 l0.length c0, .int .i64 0, .int .u64 0]) (t := 93) ?hr ?_; (case hd => rfl); (case hg => rfl); (case hr => first | (go_simp; done) | (go_simp; rfl)); intro gb593 hg w3 hbox hb; have n0_ := Aside0.mk (below_step (by repeat (first | (with_reducible first | exact HB.out | apply below_alloc | apply pw_below_drewN | apply below_drew1) | exact HB.out)) hb); have n1_ := Aside0.mk ((⟨_, _, hbox, by rw [hg]; exact (below_size (by repeat (first | (with_reducible first | exact HB.out | apply below_alloc | apply pw_below_drewN | apply below_drew1) | exact HB.out))), HR0.out⟩ : IsS93 w w3 gb593 l0 0 0)); clear HB; have HB := n0_; have HI593 := n1_; clear n0_ n1_; clear hb hbox hg) | (go_at_call 140; (with_reducible refine (spec_l1Cur_spoiltWord.calls k gb593 l0 0 0 t594 t597 t598 t599 w _ ?side1 ?side2 A2.out).mono ?_); (case side1 => repeat (first | (with_reducible first | exact HI593.out | apply IsS93.alloc | apply IsS93.drewN | apply IsS93.drew | apply IsS93.set_1 | apply IsS93.set_2) | exact HI593.out)); (case side2 => repeat (first | (with_reducible first | exact HB.out | apply below_alloc | apply pw_below_drewN | apply below_drew1 | refine below_set ?_ (IsS93.ge HI593.out)) | exact HB.out)); rintro e w4 ⟨v595, rfl, ho0, hi, hb, hk⟩; have n0_ := Aside0.mk (Kd.R_lower ho0 (below_size (by repeat (first | (with_reducible first | exact HB.out | apply below_alloc | apply pw_below_drewN | apply below_drew1 | refine below_set ?_ (IsS93.ge HI593.out)) | exact HB.out)))); have n1_ := Aside0.mk (hb); have n2_ := Aside0.mk (hi); clear HB; clear HI593; have HO596 := n0_; have HB := n1_; have HI593 := n2_; clear n0_ n1_ n2_; (try clear hb); (try clear hb2); (try clear hk); (try clear hi); (try clear ho0)))
 go_ret2
 exact ⟨_, by first | rfl | simp [*], by (with_reducible repeat (first | apply Kd.R_alloc | apply Kd.R_drewN | apply Kd.R_drew)); exact HO596.out, by repeat (with_reducible first | exact HB.out | apply below_alloc | apply pw_below_drewN | apply below_drew1 | refine below_set ?_ (IsS93.ge HI593.out))⟩

/-! ### spec_DrawDecodeWord: function 84 -/
def spec_DrawDecodeWord.f (k : Nat) (l0 : List Int) : Option (List Int × Int) := (spec_DrawSyndromesOf.f k l0).bind fun bt600 => (some (bt600.1, bt600.2))
set_option maxHeartbeats 8000000 in
set_option maxRecDepth 100000 in
theorem spec_DrawDecodeWord.calls (k : Nat) (A0 : Option Addr) (c0 : Nat) (l0 : List Int) (r1 : List Int) (r2 : Int) (w : World) (hr0 : Kd.C (Kd.int .u8) w A0 l0.length l0) (hc0 : l0.length ≤ c0) (h : spec_DrawDecodeWord.f k l0 = some (r1, r2)) :
  Calls Try.prog 84 #[.slice A0 l0.length c0] w fun e w' => ∃ v0_ : Value, e = .returned (.tuple #[v0_, .int .i64 r2]) ∧ Kd.R (Kd.int .i64) 3 w' w.heap.size (fun _ => True) v0_ r1 ∧ Below w.heap.size w w' := by
 have HR0 := Aside0.mk hr0
 have HC0 := Aside0.mk hc0
 clear hr0 hc0
 have HB := Aside0.mk (Below.refl w.heap.size w)
 have H : ((spec_DrawSyndromesOf.f k l0).bind fun bt600 => (some (bt600.1, bt600.2))) = some (r1, r2) := h
 clear h
 replace H := Option.bind_eq_some_iff.mp H
 obtain ⟨⟨t600, t601⟩, A20, H⟩ := H
 replace H : (some (t600, t601)) = some (r1, r2) := H
 have A2 := Aside0.mk A20
 clear A20
 simp only [Option.some.injEq, Prod.mk.injEq] at H
 obtain ⟨rfl, rfl⟩ := H
 go_enter Try.func84, Try.ntmps84
 go_wp2_with (first | (go_at_call 68; (with_reducible refine (spec_DrawSyndromesOf.calls k _ _ l0 t600 t601 _ ?side1 ?side2 A2.out).mono ?_); (case side1 => repeat (first | exact HR0.out | (with_reducible refine Kd.C_alloc ?_ _) | (with_reducible refine Kd.C_drewN ?_ _) | (with_reducible refine Kd.C_drew ?_))); (case side2 => exact HC0.out); rintro e w3 ⟨v602, rfl, ho0, hb⟩; have n0_ := Aside0.mk (Kd.R_lower ho0 (below_size (by repeat (with_reducible first | exact HB.out | apply below_alloc | apply pw_below_drewN | apply below_drew1)))); have n1_ := Aside0.mk (below_step (by repeat (with_reducible first | exact HB.out | apply below_alloc | apply pw_below_drewN | apply below_drew1)) hb); clear HB; have HO603 := n0_; have HB := n1_; clear n0_ n1_; (try clear hb); (try clear hb2); (try clear hk); (try clear hi); (try clear ho0)))
 go_ret2
 exact ⟨_, by first | rfl | simp [*], by (with_reducible repeat (first | apply Kd.R_alloc | apply Kd.R_drewN | apply Kd.R_drew)); exact HO603.out, by repeat (with_reducible first | exact HB.out | apply below_alloc | apply pw_below_drewN | apply below_drew1)⟩

-- NOT PRINTED: function 10 (laws_FnWords)

end Go.Proofs.Ytldlldfoaicjcaa.MFnWords
-- SHRUNK
