/- The machine's side of FnBodies, written by this session's program out of the kit's print of the program, with contracts of this session's own. No conditions beyond those typed. -/
import Derived.Test.YtldlldfoaicjcaaMFnBodiesx0
import Derived.Test.YtldlldfoaicjcaaMFnBodiesx1
namespace Go.Proofs.Ytldlldfoaicjcaa.MFnBodies
open Go.RowKit Go.Proofs.YtldlldfoaicjcaaW.PrintWords Go.Proofs.YtldlldfoaicjcaaW.PrintLast Go.Proofs.YtldlldfoaicjcaaW.PrintMore
attribute [local go_sem] max2_int min2_int max_two min_two max_three min_three max_four min_four   -- for this text's walks alone
set_option linter.unusedVariables false
set_option linter.unusedSimpArgs false

/-! ### impl_SplitBody: function 41 -/
def impl_SplitBody.l0 : Nat → ByteArray → List ByteArray → Option (List ByteArray × Bool)
 | 0, _, _ => none
 | k + 1, x0, x4 => if (x0.size : Int) > 16 then (if 0 ≤ 16 then (if 16 ≤ (x0.size : Int) then (if x4.length < 8796093022208 then (impl_SplitBody.l0 k (x0.extract 16 x0.size) (x4 ++ [x0.extract 0 16])) else (none)) else (none)) else (none)) else (if x4.length < 8796093022208 then (some ((x4 ++ [x0]), true)) else (none))
def impl_SplitBody.f (k : Nat) (a0 : ByteArray) : Option (List ByteArray × Bool) := (impl_within.f (a0.size : Int) 1 160).bind fun t180 => (if t180 = true then (impl_SplitBody.l0 k a0 (([] : List ByteArray))) else (some (([] : List ByteArray), false)))
set_option maxRecDepth 100000 in
theorem impl_SplitBody.mono_l : ∀ k, (∀ y0 y1, LeO (impl_SplitBody.l0 k y0 y1) (impl_SplitBody.l0 (k + 1) y0 y1))
 | 0 => fun _ _ r h => by first | (unfold impl_SplitBody.l0 at h; cases h; done) | simp [impl_SplitBody.l0] at h
 | k + 1 => by
  have ih0 := impl_SplitBody.mono_l k
  ·intro y0 y1
   unfold impl_SplitBody.l0
   with_reducible repeat' first | exact ih0 _ _ | exact LeO.refl _ | exact LeO.none _ | refine LeO.ite ?_ ?_ | refine LeO.bind ?_ (fun _ => ?_)
theorem impl_SplitBody.mono : ∀ a0 k, LeO (impl_SplitBody.f k a0) (impl_SplitBody.f (k + 1) a0) := by
 intro a0 k
 have ih0 := impl_SplitBody.mono_l k
 unfold impl_SplitBody.f
 with_reducible repeat' first | exact ih0 _ _ | exact LeO.refl _ | exact LeO.none _ | refine LeO.ite ?_ ?_ | refine LeO.bind ?_ (fun _ => ?_)
set_option maxHeartbeats 8000000 in
set_option maxRecDepth 100000 in
theorem impl_SplitBody.calls (k : Nat) (a0 : ByteArray) (r1 : List ByteArray) (r2 : Bool) (w : World) (h : impl_SplitBody.f k a0 = some (r1, r2)) :
  Calls Try.prog 41 #[.string a0] w fun e w' => ∃ v0_ : Value, e = .returned (.tuple #[v0_, .bool r2]) ∧ Kd.R Kd.string 9 w' w.heap.size (fun _ => True) v0_ r1 ∧ Below w.heap.size w w' := by
 have HB := Aside0.mk (Below.refl w.heap.size w)
 have H : ((impl_within.f (a0.size : Int) 1 160).bind fun t180 => (if t180 = true then (impl_SplitBody.l0 k a0 (([] : List ByteArray))) else (some (([] : List ByteArray), false)))) = some (r1, r2) := h
 clear h
 replace H := Option.bind_eq_some_iff.mp H
 obtain ⟨t180, A20, H⟩ := H
 have A2 := Aside0.mk A20
 clear A20
 by_cases c3 : t180 = true
 ·subst c3
  have H1 : (impl_SplitBody.l0 k a0 (([] : List ByteArray))) = some (r1, r2) := by rw [if_pos rfl] at H; exact H
  clear H
  have H := H1
  clear H1
  obtain ⟨y181, hy181⟩ : ∃ y_ : List ByteArray, y_ = (([] : List ByteArray)) := ⟨_, rfl⟩
  replace H : (impl_SplitBody.l0 k a0 y181) = some (r1, r2) := by first | (rw [hy181]; with_reducible exact H) | (have H2_ := (Option.bind_some _ _).symm.trans H; rw [hy181]; with_reducible exact H2_) | (have H2_ := (Option.bind_some _ _).symm.trans H; with_reducible exact H2_) | with_reducible exact H | (rw [hy181]; exact H) | exact H
  have Ny181 := Aside0.mk hy181
  clear hy181
  have H' := Aside0.mk H
  clear H
  go_enter Try.func41, Try.ntmps41
  go_wp2_with (first | (go_at_call 99; (with_reducible refine (impl_within.calls (a0.size : Int) 1 160 true _ A2.out).mono ?_); rintro e w' ⟨rfl, ⟨nd, rfl⟩⟩) | ((with_reducible refine gate_dst (N := 9) rfl ?_); refine Kd.R_lit Kd.string _ 9 ?hg (N := 9) ?hd (xs := ([] : List ByteArray)) (inner := []) (ok := fun _ => True) (okp := fun _ => True) ?hr ?hp (fun _ hk => hk) trivial (Below.refl _ _) (Nat.le_refl _) (by simp) ?_; (case hd => rfl); (case hg => rfl); (case hr => first | (go_simp; done) | (go_simp; rfl)); (case hp => exact (Reps.none _ _)); intro v182 w4 ho5 hb hg_ hnew_; clear hg_ hnew_; (first | rw [← Ny181.out] at ho5 | (simp only [Int.reduceToNat] at ho5; rw [← Ny181.out] at ho5)); have HO183 := Aside0.mk (Kd.R_lower ho5 (below_size (bez HB.out))); replace HB := Aside0.mk (below_step (bez HB.out) hb); clear hb ho5))
  go_loopg [0, 4] k (fun kq v0 v4 w' => ∃ (x0_1 : ByteArray) (x4_1 : List ByteArray), v0 = .string x0_1 ∧ Aside0 (impl_SplitBody.l0 kq x0_1 x4_1 = some (r1, r2)) ∧ Aside0 (kq ≤ k) ∧ Aside0 (Kd.R Kd.string 9 w' w.heap.size (fun _ => True) v4 x4_1) ∧ Aside0 (Below w.heap.size w w'))
  case atStart => exact ⟨(a0), (y181), (by first | rfl | simp [*]), H', ⟨Nat.le_refl _⟩, ⟨by (with_reducible repeat (first | apply Kd.R_alloc | apply Kd.R_drewN | apply Kd.R_drew)); exact HO183.out⟩, ⟨(bez HB.out)⟩⟩
  case round =>
   clear H'
   try clear p2; try clear c3; try clear c4
   obtain ⟨x0_1, x4_1, rfl, HA, HK1, HO_4, HB⟩ := hrel
   cases gk with
   | zero => exact absurd HA.out (by first | (unfold impl_SplitBody.l0; exact fun h_ => nomatch h_) | simp [impl_SplitBody.l0])
   | succ k1 =>
    have H := HA.out
    clear HA
    simp only [impl_SplitBody.l0] at H
    by_cases c6 : (x0_1.size : Int) > 16
    ·rw [if_pos c6] at H
     have c6b0 := decide_eq_true c6
     have c6b1 : decide (16 < x0_1.size) = true := decide_eq_true (by omega)
     clear c6
     by_cases c7 : 0 ≤ 16
     ·rw [if_pos c7] at H
      have c7b0 := eq_true c7
      have c7b1 := decide_eq_true c7
      clear c7
      by_cases c8 : 16 ≤ (x0_1.size : Int)
      ·rw [if_pos c8] at H
       have c8b0 := eq_true c8
       have c8b1 := decide_eq_true c8
       clear c8
       by_cases c9 : x4_1.length < 8796093022208
       ·rw [if_pos c9] at H
        have LMc9 := Aside0.mk c9
        clear c9
        obtain ⟨y184, hy184⟩ : ∃ y_ : List ByteArray, y_ = (x4_1 ++ [x0_1.extract 0 16]) := ⟨_, rfl⟩
        replace H : (impl_SplitBody.l0 k1 (x0_1.extract 16 x0_1.size) y184) = some (r1, r2) := by first | (rw [hy184]; with_reducible exact H) | (have H2_ := (Option.bind_some _ _).symm.trans H; rw [hy184]; with_reducible exact H2_) | (have H2_ := (Option.bind_some _ _).symm.trans H; with_reducible exact H2_) | with_reducible exact H | (rw [hy184]; exact H) | exact H
        have Ny184 := Aside0.mk hy184
        clear hy184
        have c10b0 := eq_true (of_decide_eq_true (by assumption) : 16 ≤ (x0_1.size : Int))
        have H' := Aside0.mk H
        clear H
        go_wp2_with (first | ((with_reducible refine gate_builtin (b := .append) (xs := #[.tmp 15, .tmp 18]) rfl ?_); at_builtin; refine Kd.R_append Kd.string (w0 := w) w.heap.size rfl (.tmp 15) (.tmp 18) 48 9 (.string ⟨#[]⟩) 16 rfl Try.underlying48 info9 rfl (by decide) (by omega) u4 x4_1 (x0_1.extract 0 16) [.string (x0_1.extract 0 16)] (fun _ => True) (fun _ => False) rfl rfl ?aP (fun _ hk => hk.elim) ?aF ?aO ?aB ?aS ?aL ?_; (case aP => exact rfl); (case aB => exact (bez HB.out)); (case aF => exact (fun _ _ => trivial)); (case aO => exact (kdr HO_4.out)); (case aS => exact (below_size (bez HB.out))); (case aL => have := LMc9.out; omega); intro v185 w11 ho hb hg hat; rw [← Ny184.out] at ho; replace HB := Aside0.mk (hb); have HO186 := Aside0.mk (ho); clear HO_4; clear ho hb hg hat))
        go_roundg k1
        case measure => have := HK1.out; omega
        case rel => exact ⟨(x0_1.extract 16 x0_1.size), (y184), (by first | rfl | simp [*]), H', ⟨by have := HK1.out; omega⟩, ⟨by (with_reducible repeat (first | apply Kd.R_alloc | apply Kd.R_drewN | apply Kd.R_drew)); exact HO186.out⟩, ⟨(bez HB.out)⟩⟩
       ·rw [if_neg c9] at H
        exact absurd H (by simp)
      ·rw [if_neg c8] at H
       exact absurd H (by simp)
     ·rw [if_neg c7] at H
      exact absurd H (by simp)
    ·rw [if_neg c6] at H
     have c6b0 := decide_eq_false c6
     have c6b1 : decide (16 < x0_1.size) = false := decide_eq_false (by omega)
     clear c6
     by_cases c12 : x4_1.length < 8796093022208
     ·rw [if_pos c12] at H
      have LMc12 := Aside0.mk c12
      clear c12
      obtain ⟨y187, hy187⟩ : ∃ y_ : List ByteArray, y_ = (x4_1 ++ [x0_1]) := ⟨_, rfl⟩
      replace H : (some (y187, true)) = some (r1, r2) := by first | (rw [hy187]; with_reducible exact H) | (have H2_ := (Option.bind_some _ _).symm.trans H; rw [hy187]; with_reducible exact H2_) | (have H2_ := (Option.bind_some _ _).symm.trans H; with_reducible exact H2_) | with_reducible exact H | (rw [hy187]; exact H) | exact H
      have Ny187 := Aside0.mk hy187
      clear hy187
      simp only [Option.some.injEq, Prod.mk.injEq] at H
      obtain ⟨rfl, rfl⟩ := H
      go_wp2_with (first | ((with_reducible refine gate_builtin (b := .append) (xs := #[.tmp 20, .tmp 22]) rfl ?_); at_builtin; refine Kd.R_append Kd.string (w0 := w) w.heap.size rfl (.tmp 20) (.tmp 22) 48 9 (.string ⟨#[]⟩) 16 rfl Try.underlying48 info9 rfl (by decide) (by omega) u4 x4_1 x0_1 [.string x0_1] (fun _ => True) (fun _ => False) rfl rfl ?aP (fun _ hk => hk.elim) ?aF ?aO ?aB ?aS ?aL ?_; (case aP => exact rfl); (case aB => exact (bez HB.out)); (case aF => exact (fun _ _ => trivial)); (case aO => exact (kdr HO_4.out)); (case aS => exact (below_size (bez HB.out))); (case aL => have := LMc12.out; omega); intro v188 w13 ho hb hg hat; rw [← Ny187.out] at ho; replace HB := Aside0.mk (hb); have HO189 := Aside0.mk (ho); clear HO_4; clear ho hb hg hat))
      go_ret2
      exact ⟨_, by first | rfl | simp [*], by (with_reducible repeat (first | apply Kd.R_alloc | apply Kd.R_drewN | apply Kd.R_drew)); exact HO189.out, (bez HB.out)⟩
     ·rw [if_neg c12] at H
      exact absurd H (by simp)
 ·replace c3 := Bool.eq_false_iff.mpr c3
  subst c3
  have H1 : (some (([] : List ByteArray), false)) = some (r1, r2) := by rw [if_neg (show ¬ (false = true) by decide)] at H; exact H
  clear H
  have H := H1
  clear H1
  simp only [Option.some.injEq, Prod.mk.injEq] at H
  obtain ⟨rfl, rfl⟩ := H
  go_enter Try.func41, Try.ntmps41
  go_wp2_with (first | (go_at_call 99; (with_reducible refine (impl_within.calls (a0.size : Int) 1 160 false _ A2.out).mono ?_); rintro e w' ⟨rfl, ⟨nd, rfl⟩⟩))
  go_ret2
  exact ⟨_, by first | rfl | simp [*], by first | exact Kd.R_nil _ _ _ _ _ | exact Kd.N_nil _ _ _ _ _ | exact Kd.V_nil _ _ _ _ _ | exact Kd.Q_nil _ _ _ _ _ | exact Kd.S_nil _ _ _ _ _, (bez HB.out)⟩

/-! ### impl_GoodFrame: function 109 -/
def impl_GoodFrame.f (a0_0 : Int) (a0_1 : Int) (a0_2 : Int) (a0_3 : ByteArray) : Option (Bool) := (impl_within.f a0_0 1 255).bind fun t191 => (if t191 = true then ((impl_within.f a0_1 0 60000).bind fun t192 => (if t192 = true then ((impl_within.f a0_2 0 60000).bind fun t193 => (if t193 = true then (some (decide ((a0_3.size : Int) ≤ 16))) else (some false))) else (some false))) else (some false))
set_option maxHeartbeats 8000000 in
set_option maxRecDepth 100000 in
theorem impl_GoodFrame.calls (a0_0 : Int) (a0_1 : Int) (a0_2 : Int) (a0_3 : ByteArray) (r : Bool) (w : World) (h : impl_GoodFrame.f a0_0 a0_1 a0_2 a0_3 = some r) :
  Calls Try.prog 109 #[.agg #[.int .i64 a0_0, .int .i64 a0_1, .int .i64 a0_2, .string a0_3]] w fun e w' => e = .returned (.bool r) ∧ Below w.heap.size w w' := by
 have hu102 := Try.underlying102
 have HB := Aside0.mk (Below.refl w.heap.size w)
 have H : ((impl_within.f a0_0 1 255).bind fun t191 => (if t191 = true then ((impl_within.f a0_1 0 60000).bind fun t192 => (if t192 = true then ((impl_within.f a0_2 0 60000).bind fun t193 => (if t193 = true then (some (decide ((a0_3.size : Int) ≤ 16))) else (some false))) else (some false))) else (some false))) = some r := h
 clear h
 replace H := Option.bind_eq_some_iff.mp H
 obtain ⟨t191, A20, H⟩ := H
 have A2 := Aside0.mk A20
 clear A20
 by_cases c3 : t191 = true
 ·subst c3
  have H1 : ((impl_within.f a0_1 0 60000).bind fun t192 => (if t192 = true then ((impl_within.f a0_2 0 60000).bind fun t193 => (if t193 = true then (some (decide ((a0_3.size : Int) ≤ 16))) else (some false))) else (some false))) = some r := by rw [if_pos rfl] at H; exact H
  clear H
  have H := H1
  clear H1
  replace H := Option.bind_eq_some_iff.mp H
  obtain ⟨t192, A40, H⟩ := H
  have A4 := Aside0.mk A40
  clear A40
  by_cases c5 : t192 = true
  ·subst c5
   have H1 : ((impl_within.f a0_2 0 60000).bind fun t193 => (if t193 = true then (some (decide ((a0_3.size : Int) ≤ 16))) else (some false))) = some r := by rw [if_pos rfl] at H; exact H
   clear H
   have H := H1
   clear H1
   replace H := Option.bind_eq_some_iff.mp H
   obtain ⟨t193, A60, H⟩ := H
   have A6 := Aside0.mk A60
   clear A60
   by_cases c7 : t193 = true
   ·subst c7
    have H1 : (some (decide ((a0_3.size : Int) ≤ 16))) = some r := by rw [if_pos rfl] at H; exact H
    clear H
    have H := H1
    clear H1
    obtain rfl := Option.some.inj H
    go_enter Try.func109, Try.ntmps109
    go_wp2_with (first | ((with_reducible refine gate_dst (N := 1) rfl ?_); (try (refine gate_guard (by rfl) ?_; dsimp only)); refine boxE 1 #[.int .i64 a0_0, .int .i64 a0_1, .int .i64 a0_2, .string a0_3] 102 ?_; intro gb190 hg w8 hbox hb; have BK190 := Aside0.mk (hbox); have GW190 := Aside0.mk ((by rw [hg]; exact (below_size (bez HB.out)) : w.heap.size ≤ gb190)); have GE190 := Aside0.mk ((by rw [hg]; exact (below_size (bez HB.out)) : w.heap.size ≤ gb190)); replace HB := Aside0.mk (below_step (bez HB.out) hb); clear hb hbox hg; obtain ⟨⟨hcz9_0, hcz9_1, hcz9_2, hcz9_3⟩, hfz9_0, hfz9_1, hfz9_2, hfz9_3⟩ := blk4 BK190.out) | (go_at_call 99; (with_reducible refine (impl_within.calls a0_0 1 255 true _ A2.out).mono ?_); rintro e w' ⟨rfl, ⟨nd, rfl⟩⟩) | (go_at_call 99; (with_reducible refine (impl_within.calls a0_1 0 60000 true _ A4.out).mono ?_); rintro e w' ⟨rfl, ⟨nd, rfl⟩⟩) | (go_at_call 99; (with_reducible refine (impl_within.calls a0_2 0 60000 true _ A6.out).mono ?_); rintro e w' ⟨rfl, ⟨nd, rfl⟩⟩))
    go_ret
    exact ⟨by first | rfl | simp [*], (bel HB.out)⟩
   ·replace c7 := Bool.eq_false_iff.mpr c7
    subst c7
    have H1 : (some false) = some r := by rw [if_neg (show ¬ (false = true) by decide)] at H; exact H
    clear H
    have H := H1
    clear H1
    obtain rfl := Option.some.inj H
    go_enter Try.func109, Try.ntmps109
    go_wp2_with (first | ((with_reducible refine gate_dst (N := 1) rfl ?_); (try (refine gate_guard (by rfl) ?_; dsimp only)); refine boxE 1 #[.int .i64 a0_0, .int .i64 a0_1, .int .i64 a0_2, .string a0_3] 102 ?_; intro gb190 hg w10 hbox hb; have BK190 := Aside0.mk (hbox); have GW190 := Aside0.mk ((by rw [hg]; exact (below_size (bez HB.out)) : w.heap.size ≤ gb190)); have GE190 := Aside0.mk ((by rw [hg]; exact (below_size (bez HB.out)) : w.heap.size ≤ gb190)); replace HB := Aside0.mk (below_step (bez HB.out) hb); clear hb hbox hg; obtain ⟨⟨hcz11_0, hcz11_1, hcz11_2, hcz11_3⟩, hfz11_0, hfz11_1, hfz11_2, hfz11_3⟩ := blk4 BK190.out) | (go_at_call 99; (with_reducible refine (impl_within.calls a0_0 1 255 true _ A2.out).mono ?_); rintro e w' ⟨rfl, ⟨nd, rfl⟩⟩) | (go_at_call 99; (with_reducible refine (impl_within.calls a0_1 0 60000 true _ A4.out).mono ?_); rintro e w' ⟨rfl, ⟨nd, rfl⟩⟩) | (go_at_call 99; (with_reducible refine (impl_within.calls a0_2 0 60000 false _ A6.out).mono ?_); rintro e w' ⟨rfl, ⟨nd, rfl⟩⟩))
    go_ret
    exact ⟨by first | rfl | simp [*], (bel HB.out)⟩
  ·replace c5 := Bool.eq_false_iff.mpr c5
   subst c5
   have H1 : (some false) = some r := by rw [if_neg (show ¬ (false = true) by decide)] at H; exact H
   clear H
   have H := H1
   clear H1
   obtain rfl := Option.some.inj H
   go_enter Try.func109, Try.ntmps109
   go_wp2_with (first | ((with_reducible refine gate_dst (N := 1) rfl ?_); (try (refine gate_guard (by rfl) ?_; dsimp only)); refine boxE 1 #[.int .i64 a0_0, .int .i64 a0_1, .int .i64 a0_2, .string a0_3] 102 ?_; intro gb190 hg w12 hbox hb; have BK190 := Aside0.mk (hbox); have GW190 := Aside0.mk ((by rw [hg]; exact (below_size (bez HB.out)) : w.heap.size ≤ gb190)); have GE190 := Aside0.mk ((by rw [hg]; exact (below_size (bez HB.out)) : w.heap.size ≤ gb190)); replace HB := Aside0.mk (below_step (bez HB.out) hb); clear hb hbox hg; obtain ⟨⟨hcz13_0, hcz13_1, hcz13_2, hcz13_3⟩, hfz13_0, hfz13_1, hfz13_2, hfz13_3⟩ := blk4 BK190.out) | (go_at_call 99; (with_reducible refine (impl_within.calls a0_0 1 255 true _ A2.out).mono ?_); rintro e w' ⟨rfl, ⟨nd, rfl⟩⟩) | (go_at_call 99; (with_reducible refine (impl_within.calls a0_1 0 60000 false _ A4.out).mono ?_); rintro e w' ⟨rfl, ⟨nd, rfl⟩⟩))
   go_ret
   exact ⟨by first | rfl | simp [*], (bel HB.out)⟩
 ·replace c3 := Bool.eq_false_iff.mpr c3
  subst c3
  have H1 : (some false) = some r := by rw [if_neg (show ¬ (false = true) by decide)] at H; exact H
  clear H
  have H := H1
  clear H1
  obtain rfl := Option.some.inj H
  go_enter Try.func109, Try.ntmps109
  go_wp2_with (first | ((with_reducible refine gate_dst (N := 1) rfl ?_); (try (refine gate_guard (by rfl) ?_; dsimp only)); refine boxE 1 #[.int .i64 a0_0, .int .i64 a0_1, .int .i64 a0_2, .string a0_3] 102 ?_; intro gb190 hg w14 hbox hb; have BK190 := Aside0.mk (hbox); have GW190 := Aside0.mk ((by rw [hg]; exact (below_size (bez HB.out)) : w.heap.size ≤ gb190)); have GE190 := Aside0.mk ((by rw [hg]; exact (below_size (bez HB.out)) : w.heap.size ≤ gb190)); replace HB := Aside0.mk (below_step (bez HB.out) hb); clear hb hbox hg; obtain ⟨⟨hcz15_0, hcz15_1, hcz15_2, hcz15_3⟩, hfz15_0, hfz15_1, hfz15_2, hfz15_3⟩ := blk4 BK190.out) | (go_at_call 99; (with_reducible refine (impl_within.calls a0_0 1 255 false _ A2.out).mono ?_); rintro e w' ⟨rfl, ⟨nd, rfl⟩⟩))
  go_ret
  exact ⟨by first | rfl | simp [*], (bel HB.out)⟩

/-! ### impl_turned: function 205 -/
def impl_turned.f (a0 : Int) : Option (Int) := some (Go.bits .xor .i64 a0 4294967295)
set_option maxHeartbeats 8000000 in
set_option maxRecDepth 100000 in
theorem impl_turned.calls (a0 : Int) (r : Int) (w : World) (h : impl_turned.f a0 = some r) :
  Calls Try.prog 205 #[.int .i64 a0] w fun e w' => e = .returned (.int .i64 r) ∧ Drawn0 w w' := by
 have H : (some (Go.bits .xor .i64 a0 4294967295)) = some r := h
 clear h
 obtain rfl := Option.some.inj H
 go_enter Try.func205, Try.ntmps205
 go_wp2
 go_ret
 exact ⟨by first | rfl | simp [*], by repeat (first | exact Drawn0.refl _ | apply Drawn0.step)⟩

/-! ### impl_shifted: function 206 -/
def impl_shifted.l0 : Nat → Int → Int → Option (Int)
 | 0, _, _ => none
 | k + 1, x0, x4 => if x4 < 8 then (if (Go.bits .and .i64 x0 1) = 1 then (impl_shifted.l0 k (Go.bits .xor .i64 (x0 / 2) 2197175160) (wrap64 (x4 + 1))) else (impl_shifted.l0 k (x0 / 2) (wrap64 (x4 + 1)))) else (some x0)
def impl_shifted.f (k : Nat) (a0 : Int) : Option (Int) := impl_shifted.l0 k a0 0
set_option maxRecDepth 100000 in
theorem impl_shifted.mono_l : ∀ k, (∀ y0 y1, LeO (impl_shifted.l0 k y0 y1) (impl_shifted.l0 (k + 1) y0 y1))
 | 0 => fun _ _ r h => by first | (unfold impl_shifted.l0 at h; cases h; done) | simp [impl_shifted.l0] at h
 | k + 1 => by
  have ih0 := impl_shifted.mono_l k
  ·intro y0 y1
   unfold impl_shifted.l0
   with_reducible repeat' first | exact ih0 _ _ | exact LeO.refl _ | exact LeO.none _ | refine LeO.ite ?_ ?_ | refine LeO.bind ?_ (fun _ => ?_)
theorem impl_shifted.mono : ∀ a0 k, LeO (impl_shifted.f k a0) (impl_shifted.f (k + 1) a0) := by
 intro a0 k
 have ih0 := impl_shifted.mono_l k
 unfold impl_shifted.f
 with_reducible repeat' first | exact ih0 _ _ | exact LeO.refl _ | exact LeO.none _ | refine LeO.ite ?_ ?_ | refine LeO.bind ?_ (fun _ => ?_)
set_option maxHeartbeats 8000000 in
set_option maxRecDepth 100000 in
theorem impl_shifted.calls (k : Nat) (a0 : Int) (r : Int) (w : World) (h : impl_shifted.f k a0 = some r) :
  Calls Try.prog 206 #[.int .i64 a0] w fun e w' => e = .returned (.int .i64 r) ∧ Drawn0 w w' := by
 have H : (impl_shifted.l0 k a0 0) = some r := h
 clear h
 have H' := Aside0.mk H
 clear H
 go_enter Try.func206, Try.ntmps206
 go_wp2
 go_loopg [0, 4] k (fun kq v0 v4 w' => ∃ (x0_1 : Int) (x4_1 : Int), v0 = .int .i64 x0_1 ∧ v4 = .int .i64 x4_1 ∧ Aside0 (impl_shifted.l0 kq x0_1 x4_1 = some r) ∧ Aside0 (kq ≤ k) ∧ Drawn0 w w')
 case atStart => exact ⟨(a0), (0), (by first | rfl | simp [*]), (by first | rfl | simp [*]), H', ⟨Nat.le_refl _⟩, by repeat (first | exact Drawn0.refl _ | apply Drawn0.step)⟩
 case round =>
  clear H'
  obtain ⟨x0_1, x4_1, rfl, rfl, HA, HK1, ⟨m1, rfl⟩⟩ := hrel
  cases gk with
  | zero => exact absurd HA.out (by first | (unfold impl_shifted.l0; exact fun h_ => nomatch h_) | simp [impl_shifted.l0])
  | succ k1 =>
   have H := HA.out
   clear HA
   simp only [impl_shifted.l0] at H
   by_cases c2 : x4_1 < 8
   ·rw [if_pos c2] at H
    have c2b0 := decide_eq_true c2
    clear c2
    by_cases c3 : (Go.bits .and .i64 x0_1 1) = 1
    ·rw [if_pos c3] at H
     have c3b0 : ((Go.bits .and .i64 x0_1 1) == 1) = true := beq_iff_eq.mpr c3
     have c3b1 : ((Go.bits .and .i64 x0_1 1) != 1) = false := bne_eq_false_iff_eq.mpr c3
     clear c3
     have H' := Aside0.mk H
     clear H
     go_wp2
     go_roundg k1
     case measure => have := HK1.out; omega
     case rel => exact ⟨(Go.bits .xor .i64 (x0_1 / 2) 2197175160), (wrap64 (x4_1 + 1)), (by first | rfl | simp [*]), (by first | rfl | simp [*]), H', ⟨by have := HK1.out; omega⟩, by repeat (first | exact Drawn0.refl _ | apply Drawn0.step)⟩
    ·rw [if_neg c3] at H
     have c3b0 : ((Go.bits .and .i64 x0_1 1) == 1) = false := beq_eq_false_iff_ne.mpr c3
     have c3b1 : ((Go.bits .and .i64 x0_1 1) != 1) = true := bne_iff_ne.mpr c3
     have H' := Aside0.mk H
     clear H
     go_wp2
     go_roundg k1
     case measure => have := HK1.out; omega
     case rel => exact ⟨(x0_1 / 2), (wrap64 (x4_1 + 1)), (by first | rfl | simp [*]), (by first | rfl | simp [*]), H', ⟨by have := HK1.out; omega⟩, by repeat (first | exact Drawn0.refl _ | apply Drawn0.step)⟩
   ·rw [if_neg c2] at H
    have c2b0 := decide_eq_false c2
    clear c2
    obtain rfl := Option.some.inj H
    go_wp2
    go_ret
    exact ⟨by first | rfl | simp [*], by repeat (first | exact Drawn0.refl _ | apply Drawn0.step)⟩

/-! ### impl_sumOn: function 174 -/
def impl_sumOn.l0 : Nat → Int → ByteArray → Int → Int → Option (Int)
 | 0, _, _, _, _ => none
 | k + 1, x0, x1, x9, x10 => if x10 < x9 then (if 0 ≤ x10 then (if x10 < (x1.size : Int) then ((impl_shifted.f k (Go.bits .xor .i64 x0 (wrap64 (bt x1 x10)))).bind fun t195 => (impl_sumOn.l0 k t195 x1 x9 (wrap64 (x10 + 1)))) else (none)) else (none)) else ((impl_turned.f x0).bind fun t196 => (some t196))
def impl_sumOn.f (k : Nat) (a0 : Int) (a1 : ByteArray) : Option (Int) := (impl_turned.f a0).bind fun t194 => (impl_sumOn.l0 k t194 a1 (a1.size : Int) 0)
set_option maxRecDepth 100000 in
theorem impl_sumOn.mono_l : ∀ k, (∀ y0 y1 y2 y3, LeO (impl_sumOn.l0 k y0 y1 y2 y3) (impl_sumOn.l0 (k + 1) y0 y1 y2 y3))
 | 0 => fun _ _ _ _ r h => by first | (unfold impl_sumOn.l0 at h; cases h; done) | simp [impl_sumOn.l0] at h
 | k + 1 => by
  have ih0 := impl_sumOn.mono_l k
  ·intro y0 y1 y2 y3
   unfold impl_sumOn.l0
   with_reducible repeat' first | exact ih0 _ _ _ _ | exact impl_shifted.mono _ _ | exact LeO.refl _ | exact LeO.none _ | refine LeO.ite ?_ ?_ | refine LeO.bind ?_ (fun _ => ?_)
theorem impl_sumOn.mono : ∀ a0 a1 k, LeO (impl_sumOn.f k a0 a1) (impl_sumOn.f (k + 1) a0 a1) := by
 intro a0 a1 k
 have ih0 := impl_sumOn.mono_l k
 unfold impl_sumOn.f
 with_reducible repeat' first | exact ih0 _ _ _ _ | exact impl_shifted.mono _ _ | exact LeO.refl _ | exact LeO.none _ | refine LeO.ite ?_ ?_ | refine LeO.bind ?_ (fun _ => ?_)
set_option maxHeartbeats 8000000 in
set_option maxRecDepth 100000 in
theorem impl_sumOn.calls (k : Nat) (a0 : Int) (a1 : ByteArray) (r : Int) (w : World) (h : impl_sumOn.f k a0 a1 = some r) :
  Calls Try.prog 174 #[.int .i64 a0, .string a1] w fun e w' => e = .returned (.int .i64 r) ∧ Drawn0 w w' := by
 have H : ((impl_turned.f a0).bind fun t194 => (impl_sumOn.l0 k t194 a1 (a1.size : Int) 0)) = some r := h
 clear h
 replace H := Option.bind_eq_some_iff.mp H
 obtain ⟨t194, A30, H⟩ := H
 have A3 := Aside0.mk A30
 clear A30
 have H' := Aside0.mk H
 clear H
 go_enter Try.func174, Try.ntmps174
 go_wp2_with (first | (go_at_call 205; (with_reducible refine (impl_turned.calls a0 t194 _ A3.out).mono ?_); rintro e w' ⟨rfl, ⟨nd, rfl⟩⟩))
 go_loopg [0, 10] k (fun kq v0 v10 w' => ∃ (x0_1 : Int) (x10_1 : Int), v0 = .int .i64 x0_1 ∧ v10 = .int .i64 x10_1 ∧ Aside0 (impl_sumOn.l0 kq x0_1 a1 (a1.size : Int) x10_1 = some r) ∧ Aside0 (kq ≤ k) ∧ Drawn0 w w')
 case atStart => exact ⟨(t194), (0), (by first | rfl | simp [*]), (by first | rfl | simp [*]), H', ⟨Nat.le_refl _⟩, by repeat (first | exact Drawn0.refl _ | apply Drawn0.step)⟩
 case round =>
  clear H'
  try clear c1; try clear c2; try clear p2
  obtain ⟨x0_1, x10_1, rfl, rfl, HA, HK1, ⟨m1, rfl⟩⟩ := hrel
  cases gk with
  | zero => exact absurd HA.out (by first | (unfold impl_sumOn.l0; exact fun h_ => nomatch h_) | simp [impl_sumOn.l0])
  | succ k1 =>
   have H := HA.out
   clear HA
   simp only [impl_sumOn.l0] at H
   by_cases c4 : x10_1 < (a1.size : Int)
   ·rw [if_pos c4] at H
    have c4b0 := decide_eq_true c4
    clear c4
    by_cases c5 : 0 ≤ x10_1
    ·rw [if_pos c5] at H
     have c5b0 := decide_eq_true c5
     clear c5
     by_cases c6 : x10_1 < (a1.size : Int)
     ·rw [if_pos c6] at H
      have c6b0 := decide_eq_true c6
      clear c6
      replace H := Option.bind_eq_some_iff.mp H
      obtain ⟨t195, A80, H⟩ := H
      have A8 := Aside0.mk A80
      clear A80
      have H' := Aside0.mk H
      clear H
      have p7 : 0 ≤ (x10_1 : Int) := of_decide_eq_true (by assumption)
      have q7 : x10_1 < (a1.size : Int) := of_decide_eq_true (by assumption)
      have hx7 := bt_at a1 x10_1
      replace p7 := eq_true p7
      replace q7 := eq_true q7
      go_wp2_with (first | (go_at_call 206; (with_reducible refine (impl_shifted.calls k1 (Go.bits .xor .i64 x0_1 (wrap64 (bt a1 x10_1))) t195 _ A8.out).mono ?_); rintro e w' ⟨rfl, ⟨nd, rfl⟩⟩))
      go_roundg k1
      case measure => have := HK1.out; omega
      case rel => exact ⟨(t195), (wrap64 (x10_1 + 1)), (by first | rfl | simp [*]), (by first | rfl | simp [*]), H', ⟨by have := HK1.out; omega⟩, by repeat (first | exact Drawn0.refl _ | apply Drawn0.step)⟩
     ·rw [if_neg c6] at H
      exact absurd H (by simp)
    ·rw [if_neg c5] at H
     exact absurd H (by simp)
   ·rw [if_neg c4] at H
    have c4b0 := decide_eq_false c4
    clear c4
    replace H := Option.bind_eq_some_iff.mp H
    obtain ⟨t196, A90, H⟩ := H
    have A9 := Aside0.mk A90
    clear A90
    obtain rfl := Option.some.inj H
    go_wp2_with (first | (go_at_call 205; (with_reducible refine (impl_turned.calls x0_1 t196 _ A9.out).mono ?_); rintro e w' ⟨rfl, ⟨nd, rfl⟩⟩))
    go_ret
    exact ⟨by first | rfl | simp [*], by repeat (first | exact Drawn0.refl _ | apply Drawn0.step)⟩

/-! ### impl_frameBytes: function 110 -/
def impl_frameBytes.f (k : Nat) (a0_0 : Int) (a0_1 : Int) (a0_2 : Int) (a0_3 : ByteArray) : Option (ByteArray) := (some (([(a0_0) % 256, (a0_1 / 256) % 256, (a0_1) % 256, (a0_2 / 256) % 256, (a0_2) % 256, ((a0_3.size : Int)) % 256] : List Int) : List Int)).bind fun y198 => (if y198.length + a0_3.size < 140737488355328 then ((some (y198 ++ bytesOf a0_3 : List Int)).bind fun y201 => (if 0 ≤ (wrap64 (18 - (a0_3.size : Int))) then (if y201.length + (wrap64 (18 - (a0_3.size : Int)) : Int).toNat < 140737488355328 then ((some (y201 ++ List.replicate (wrap64 (18 - (a0_3.size : Int)) : Int).toNat 0 : List Int)).bind fun y204 => ((impl_sumOn.f k 0 (strOfNums y204)).bind fun t207 => ((some (([(t207) % 256, (t207 / 256) % 256, (t207 / 65536) % 256, (t207 / 16777216) % 256] : List Int) : List Int)).bind fun y208 => (if y204.length + y208.length < 140737488355328 then (some (strOfNums (y204 ++ y208))) else (none))))) else (none)) else (none))) else (none))
theorem impl_frameBytes.mono : ∀ a0 a1 a2 a3 k, LeO (impl_frameBytes.f k a0 a1 a2 a3) (impl_frameBytes.f (k + 1) a0 a1 a2 a3) := by
 intro a0 a1 a2 a3 k
 unfold impl_frameBytes.f
 with_reducible repeat' first | exact impl_sumOn.mono _ _ _ | exact LeO.refl _ | exact LeO.none _ | refine LeO.ite ?_ ?_ | refine LeO.bind ?_ (fun _ => ?_)
set_option maxHeartbeats 8000000 in
set_option maxRecDepth 100000 in
theorem impl_frameBytes.calls (k : Nat) (a0_0 : Int) (a0_1 : Int) (a0_2 : Int) (a0_3 : ByteArray) (r : ByteArray) (w : World) (h : impl_frameBytes.f k a0_0 a0_1 a0_2 a0_3 = some r) :
  Calls Try.prog 110 #[.agg #[.int .i64 a0_0, .int .i64 a0_1, .int .i64 a0_2, .string a0_3]] w fun e w' => e = .returned (.string r) ∧ Below w.heap.size w w' := by
 have hu102 := Try.underlying102
 have HB := Aside0.mk (Below.refl w.heap.size w)
 have H : ((some (([(a0_0) % 256, (a0_1 / 256) % 256, (a0_1) % 256, (a0_2 / 256) % 256, (a0_2) % 256, ((a0_3.size : Int)) % 256] : List Int) : List Int)).bind fun y198 => (if y198.length + a0_3.size < 140737488355328 then ((some (y198 ++ bytesOf a0_3 : List Int)).bind fun y201 => (if 0 ≤ (wrap64 (18 - (a0_3.size : Int))) then (if y201.length + (wrap64 (18 - (a0_3.size : Int)) : Int).toNat < 140737488355328 then ((some (y201 ++ List.replicate (wrap64 (18 - (a0_3.size : Int)) : Int).toNat 0 : List Int)).bind fun y204 => ((impl_sumOn.f k 0 (strOfNums y204)).bind fun t207 => ((some (([(t207) % 256, (t207 / 256) % 256, (t207 / 65536) % 256, (t207 / 16777216) % 256] : List Int) : List Int)).bind fun y208 => (if y204.length + y208.length < 140737488355328 then (some (strOfNums (y204 ++ y208))) else (none))))) else (none)) else (none))) else (none))) = some r := h
 clear h
 obtain ⟨y198, hy198⟩ : ∃ y_ : List Int, y_ = (([(a0_0) % 256, (a0_1 / 256) % 256, (a0_1) % 256, (a0_2 / 256) % 256, (a0_2) % 256, ((a0_3.size : Int)) % 256] : List Int)) := ⟨_, rfl⟩
 replace H : (if y198.length + a0_3.size < 140737488355328 then ((some (y198 ++ bytesOf a0_3 : List Int)).bind fun y201 => (if 0 ≤ (wrap64 (18 - (a0_3.size : Int))) then (if y201.length + (wrap64 (18 - (a0_3.size : Int)) : Int).toNat < 140737488355328 then ((some (y201 ++ List.replicate (wrap64 (18 - (a0_3.size : Int)) : Int).toNat 0 : List Int)).bind fun y204 => ((impl_sumOn.f k 0 (strOfNums y204)).bind fun t207 => ((some (([(t207) % 256, (t207 / 256) % 256, (t207 / 65536) % 256, (t207 / 16777216) % 256] : List Int) : List Int)).bind fun y208 => (if y204.length + y208.length < 140737488355328 then (some (strOfNums (y204 ++ y208))) else (none))))) else (none)) else (none))) else (none)) = some r := by first | (rw [hy198]; with_reducible exact H) | (have H2_ := (Option.bind_some _ _).symm.trans H; rw [hy198]; with_reducible exact H2_) | (have H2_ := (Option.bind_some _ _).symm.trans H; with_reducible exact H2_) | with_reducible exact H | (rw [hy198]; exact H) | exact H
 have Ny198 := Aside0.mk hy198
 clear hy198
 by_cases c2 : y198.length + a0_3.size < 140737488355328
 ·rw [if_pos c2] at H
  have LMc2 := Aside0.mk c2
  clear c2
  obtain ⟨y201, hy201⟩ : ∃ y_ : List Int, y_ = (y198 ++ bytesOf a0_3) := ⟨_, rfl⟩
  replace H : (if 0 ≤ (wrap64 (18 - (a0_3.size : Int))) then (if y201.length + (wrap64 (18 - (a0_3.size : Int)) : Int).toNat < 140737488355328 then ((some (y201 ++ List.replicate (wrap64 (18 - (a0_3.size : Int)) : Int).toNat 0 : List Int)).bind fun y204 => ((impl_sumOn.f k 0 (strOfNums y204)).bind fun t207 => ((some (([(t207) % 256, (t207 / 256) % 256, (t207 / 65536) % 256, (t207 / 16777216) % 256] : List Int) : List Int)).bind fun y208 => (if y204.length + y208.length < 140737488355328 then (some (strOfNums (y204 ++ y208))) else (none))))) else (none)) else (none)) = some r := by first | (rw [hy201]; with_reducible exact H) | (have H2_ := (Option.bind_some _ _).symm.trans H; rw [hy201]; with_reducible exact H2_) | (have H2_ := (Option.bind_some _ _).symm.trans H; with_reducible exact H2_) | with_reducible exact H | (rw [hy201]; exact H) | exact H
  have Ny201 := Aside0.mk hy201
  clear hy201
  obtain ⟨ji3, hji3⟩ : ∃ j_ : Int, (wrap64 (18 - (a0_3.size : Int))) = j_ := ⟨_, rfl⟩
  replace H : (if 0 ≤ (ji3) then (if y201.length + (ji3 : Int).toNat < 140737488355328 then ((some (y201 ++ List.replicate (ji3 : Int).toNat 0 : List Int)).bind fun y204 => ((impl_sumOn.f k 0 (strOfNums y204)).bind fun t207 => ((some (([(t207) % 256, (t207 / 256) % 256, (t207 / 65536) % 256, (t207 / 16777216) % 256] : List Int) : List Int)).bind fun y208 => (if y204.length + y208.length < 140737488355328 then (some (strOfNums (y204 ++ y208))) else (none))))) else (none)) else (none)) = some r := by first | (rw [hji3] at H; exact H) | (simp only [hji3] at H ⊢; exact H)
  have hji3w : (IntKind.i64.wrap (18 - (a0_3.size : Int))) = ji3 := (i64_w _).trans hji3
  by_cases c4 : 0 ≤ (ji3)
  ·rw [if_pos c4] at H
   have c4b0 := eq_true c4
   have c4b1 := decide_eq_true c4
   clear c4
   by_cases c5 : y201.length + (ji3 : Int).toNat < 140737488355328
   ·rw [if_pos c5] at H
    have LMc5 := Aside0.mk c5
    clear c5
    obtain ⟨y204, hy204⟩ : ∃ y_ : List Int, y_ = (y201 ++ List.replicate (ji3 : Int).toNat 0) := ⟨_, rfl⟩
    replace H : ((impl_sumOn.f k 0 (strOfNums y204)).bind fun t207 => ((some (([(t207) % 256, (t207 / 256) % 256, (t207 / 65536) % 256, (t207 / 16777216) % 256] : List Int) : List Int)).bind fun y208 => (if y204.length + y208.length < 140737488355328 then (some (strOfNums (y204 ++ y208))) else (none)))) = some r := by first | (rw [hy204]; with_reducible exact H) | (have H2_ := (Option.bind_some _ _).symm.trans H; rw [hy204]; with_reducible exact H2_) | (have H2_ := (Option.bind_some _ _).symm.trans H; with_reducible exact H2_) | with_reducible exact H | (rw [hy204]; exact H) | exact H
    have Ny204 := Aside0.mk hy204
    clear hy204
    replace H := Option.bind_eq_some_iff.mp H
    obtain ⟨t207, A60, H⟩ := H
    have A6 := Aside0.mk A60
    clear A60
    obtain ⟨y208, hy208⟩ : ∃ y_ : List Int, y_ = (([(t207) % 256, (t207 / 256) % 256, (t207 / 65536) % 256, (t207 / 16777216) % 256] : List Int)) := ⟨_, rfl⟩
    replace H : (if y204.length + y208.length < 140737488355328 then (some (strOfNums (y204 ++ y208))) else (none)) = some r := by first | (rw [hy208]; with_reducible exact H) | (have H2_ := (Option.bind_some _ _).symm.trans H; rw [hy208]; with_reducible exact H2_) | (have H2_ := (Option.bind_some _ _).symm.trans H; with_reducible exact H2_) | with_reducible exact H | (rw [hy208]; exact H) | exact H
    have Ny208 := Aside0.mk hy208
    clear hy208
    by_cases c7 : y204.length + y208.length < 140737488355328
    ·rw [if_pos c7] at H
     have LMc7 := Aside0.mk c7
     clear c7
     obtain ⟨y211, hy211⟩ : ∃ y_ : List Int, y_ = (y204 ++ y208) := ⟨_, rfl⟩
     replace H : (some (strOfNums y211)) = some r := by first | (rw [hy211]; with_reducible exact H) | (have H2_ := (Option.bind_some _ _).symm.trans H; rw [hy211]; with_reducible exact H2_) | (have H2_ := (Option.bind_some _ _).symm.trans H; with_reducible exact H2_) | with_reducible exact H | (rw [hy211]; exact H) | exact H
     have Ny211 := Aside0.mk hy211
     clear hy211
     obtain rfl := Option.some.inj H
     go_enter Try.func110, Try.ntmps110
     go_wp2_with (first | ((with_reducible refine gate_dst (N := 1) rfl ?_); refine boxE 1 #[.int .i64 a0_0, .int .i64 a0_1, .int .i64 a0_2, .string a0_3] 102 ?_; intro gb197 hg w8 hbox hb; have BK197 := Aside0.mk (hbox); have GW197 := Aside0.mk ((by rw [hg]; exact (below_size (bez HB.out)) : w.heap.size ≤ gb197)); have GE197 := Aside0.mk ((by rw [hg]; exact (below_size (bez HB.out)) : w.heap.size ≤ gb197)); replace HB := Aside0.mk (below_step (bez HB.out) hb); clear hb hbox hg; obtain ⟨⟨hcz9_0, hcz9_1, hcz9_2, hcz9_3⟩, hfz9_0, hfz9_1, hfz9_2, hfz9_3⟩ := blk4 BK197.out) | ((with_reducible refine gate_dst (N := 26) rfl ?_); refine Kd.R_lit (Kd.int .u8) _ 5 ?hg (N := 26) ?hd (xs := ([(a0_0) % 256, (a0_1 / 256) % 256, (a0_1) % 256, (a0_2 / 256) % 256, (a0_2) % 256, ((a0_3.size : Int)) % 256] : List Int)) (inner := [.int .u8 ((a0_0) % 256), .int .u8 ((a0_1 / 256) % 256), .int .u8 ((a0_1) % 256), .int .u8 ((a0_2 / 256) % 256), .int .u8 ((a0_2) % 256), .int .u8 (((a0_3.size : Int)) % 256)]) (ok := fun _ => True) (okp := fun _ => True) ?hr ?hp (fun _ hk => hk) trivial (Below.refl _ _) (Nat.le_refl _) (by simp) ?_; (case hd => rfl); (case hg => rfl); (case hr => first | (go_simp; done) | (go_simp; rfl)); (case hp => exact (Reps.one (show Kd.M (Kd.int .u8) _ _ _ ((a0_0) % 256) [.int .u8 ((a0_0) % 256)] from rfl) (Reps.one (show Kd.M (Kd.int .u8) _ _ _ ((a0_1 / 256) % 256) [.int .u8 ((a0_1 / 256) % 256)] from rfl) (Reps.one (show Kd.M (Kd.int .u8) _ _ _ ((a0_1) % 256) [.int .u8 ((a0_1) % 256)] from rfl) (Reps.one (show Kd.M (Kd.int .u8) _ _ _ ((a0_2 / 256) % 256) [.int .u8 ((a0_2 / 256) % 256)] from rfl) (Reps.one (show Kd.M (Kd.int .u8) _ _ _ ((a0_2) % 256) [.int .u8 ((a0_2) % 256)] from rfl) (Reps.one (show Kd.M (Kd.int .u8) _ _ _ (((a0_3.size : Int)) % 256) [.int .u8 (((a0_3.size : Int)) % 256)] from rfl) (Reps.none _ _)))))))); intro v199 w10 ho11 hb hg_ hnew_; clear hg_ hnew_; (first | rw [← Ny198.out] at ho11 | (simp only [Int.reduceToNat] at ho11; rw [← Ny198.out] at ho11)); have HO200 := Aside0.mk (Kd.R_lower ho11 (below_size (bel HB.out))); replace BK197 := Aside0.mk (blk_below (g := gb197) (o := .cells #[.int .i64 a0_0, .int .i64 a0_1, .int .i64 a0_2, .string a0_3] 102 (0, 0)) (blkd BK197.out) hb); replace HB := Aside0.mk (below_step (bel HB.out) hb); clear hb ho11; obtain ⟨⟨hcz12_0, hcz12_1, hcz12_2, hcz12_3⟩, hfz12_0, hfz12_1, hfz12_2, hfz12_3⟩ := blk4 BK197.out) | (at_builtin; refine print_append_str (w0 := w) w.heap.size rfl (.tmp 27) _ 33 9 5 rfl Try.underlying33 Try.underlying9 info5 v199 y198 a0_3 rfl rfl ?aO ?aB ?aS ?aL ?_; (case aB => exact (bel HB.out)); (case aO => exact (Kd.own_of_R (kdr HO200.out))); (case aS => exact (below_size (bel HB.out))); (case aL => have := LMc2.out; omega); intro v202 w13 ho0 hb hg; have ho := Kd.R_of_own (h1 := fun _ => rfl) (ok := fun _ => True) ho0 (fun _ _ => trivial); clear ho0; have hat := True.intro; rw [← Ny201.out] at ho; change Kd.R (Kd.int .u8) 5 w13 w.heap.size (fun _ => True) v202 y201 at ho; replace BK197 := Aside0.mk (blk_grown (g := gb197) (o := .cells #[.int .i64 a0_0, .int .i64 a0_1, .int .i64 a0_2, .string a0_3] 102 (0, 0)) (blkd BK197.out) hg (Kd.R_ne HO200.out BK197.out (by decide))); replace HB := Aside0.mk (hb); have HO203 := Aside0.mk (ho); clear HO200; clear ho hb hg hat; obtain ⟨⟨hcz14_0, hcz14_1, hcz14_2, hcz14_3⟩, hfz14_0, hfz14_1, hfz14_2, hfz14_3⟩ := blk4 BK197.out) | (at_builtin; refine Kd.R_append_zeros (Kd.int .u8) (w0 := w) w.heap.size rfl (.tmp 31) (.tmp 35) 33 3 5 (.int .u8 0) 1 rfl Try.underlying33 Try.underlying3 info5 rfl (by decide) (by omega) v202 y201 0 (ji3 : Int) (fun _ => True) rfl rfl rfl ?aF ?aO (of_decide_eq_true (by assumption)) ?aB ?aS ?aL ?_; (case aB => exact (bel HB.out)); (case aF => exact (fun _ _ => trivial)); (case aO => exact (kdr HO203.out)); (case aS => exact (below_size (bel HB.out))); (case aL => have := LMc5.out; omega); intro v205 w15 ho hb hg hat; rw [← Ny204.out] at ho; replace BK197 := Aside0.mk (blk_grown (g := gb197) (o := .cells #[.int .i64 a0_0, .int .i64 a0_1, .int .i64 a0_2, .string a0_3] 102 (0, 0)) (blkd BK197.out) hg (Kd.R_ne HO203.out BK197.out (by decide))); replace HB := Aside0.mk (hb); have HO206 := Aside0.mk (ho); clear HO203; clear ho hb hg hat; have hcv16 := own_string (P := Try.prog) Try.underlying33 Try.underlying5 Try.underlying9 (Kd.own_of_R HO206.out)) | (go_at_call 174; (with_reducible refine (impl_sumOn.calls k 0 (strOfNums y204) t207 _ A6.out).mono ?_); rintro e w' ⟨rfl, ⟨nd, rfl⟩⟩) | ((with_reducible refine gate_dst (N := 52) rfl ?_); refine Kd.R_lit (Kd.int .u8) _ 5 ?hg (N := 52) ?hd (xs := ([(t207) % 256, (t207 / 256) % 256, (t207 / 65536) % 256, (t207 / 16777216) % 256] : List Int)) (inner := [.int .u8 ((t207) % 256), .int .u8 ((t207 / 256) % 256), .int .u8 ((t207 / 65536) % 256), .int .u8 ((t207 / 16777216) % 256)]) (ok := fun _ => True) (okp := fun _ => True) ?hr ?hp (fun _ hk => hk) trivial (Below.refl _ _) (Nat.le_refl _) (by simp) ?_; (case hd => rfl); (case hg => rfl); (case hr => first | (go_simp; done) | (go_simp; rfl)); (case hp => exact (Reps.one (show Kd.M (Kd.int .u8) _ _ _ ((t207) % 256) [.int .u8 ((t207) % 256)] from rfl) (Reps.one (show Kd.M (Kd.int .u8) _ _ _ ((t207 / 256) % 256) [.int .u8 ((t207 / 256) % 256)] from rfl) (Reps.one (show Kd.M (Kd.int .u8) _ _ _ ((t207 / 65536) % 256) [.int .u8 ((t207 / 65536) % 256)] from rfl) (Reps.one (show Kd.M (Kd.int .u8) _ _ _ ((t207 / 16777216) % 256) [.int .u8 ((t207 / 16777216) % 256)] from rfl) (Reps.none _ _)))))); intro v209 w17 ho18 hb hg_ hnew_; clear hg_ hnew_; (first | rw [← Ny208.out] at ho18 | (simp only [Int.reduceToNat] at ho18; rw [← Ny208.out] at ho18)); have HO210 := Aside0.mk (Kd.R_lower (Kd.R_new' ho18 (Kd.R_lt (kdr HO206.out))) (below_size (bel HB.out))); replace HO206 := Aside0.mk (Kd.R_elder' (kdr HO206.out) (Kd.R_base ho18) hb); replace BK197 := Aside0.mk (blk_below (g := gb197) (o := .cells #[.int .i64 a0_0, .int .i64 a0_1, .int .i64 a0_2, .string a0_3] 102 (0, 0)) (blkd BK197.out) hb); replace HB := Aside0.mk (below_step (bel HB.out) hb); clear hb ho18; obtain ⟨Ao20, co20, eo20⟩ := Kd.R_slice HO210.out; subst eo20) | ((with_reducible refine gate_builtin (b := .append) (xs := #[.tmp 40, .tmp 52]) rfl ?_); at_builtin; refine Kd.R_append_rows (Kd.int .u8) (w0 := w) w.heap.size rfl (.tmp 40) (.tmp 52) 33 5 (.int .u8 0) 1 rfl Try.underlying33 info5 rfl (by decide) (by omega) v205 y204 y208 _ _ _ (fun k_ => some k_ ≠ (.slice Ao20 y208.length co20 : Value).ownBlock) (fun _ => False) rfl rfl ?aO ?aR (fun _ _ h => h) (fun _ h => h.elim) ?aF ?aB ?aS ?aL ?_; (case aR => repeat (first | exact (Kd.R_reads' HO210.out).2.2 | (with_reducible refine Kd.C_alloc ?_ _) | (with_reducible refine Kd.C_drewN ?_ _) | (with_reducible refine Kd.C_drew ?_))); (case aB => exact (bel HB.out)); (case aF => exact (fun k_ hk => Kd.fresh' (Kd.R_lt (kdr HO210.out)) k_ hk)); (case aO => exact (by (with_reducible repeat (first | apply Kd.R_alloc | apply Kd.R_drewN | apply Kd.R_drew)); exact Kd.R_mono HO206.out (fun _ hk => hk.2))); (case aS => exact (below_size (bel HB.out))); (case aL => have := LMc7.out; omega); intro v212 w19 ho hb hg hat; rw [← Ny211.out] at ho; replace BK197 := Aside0.mk (blk_grown (g := gb197) (o := .cells #[.int .i64 a0_0, .int .i64 a0_1, .int .i64 a0_2, .string a0_3] 102 (0, 0)) (blkd BK197.out) hg (Kd.R_ne HO206.out BK197.out (by decide))); replace HO210 := Aside0.mk (Kd.R_after (ok := (fun _ => True)) (kdr HO210.out) hg hat); replace HB := Aside0.mk (hb); have HO213 := Aside0.mk (ho); clear HO206; clear ho hb hg hat; have hcv21 := own_string (P := Try.prog) Try.underlying33 Try.underlying5 Try.underlying9 (Kd.own_of_R HO213.out)))
     go_ret
     exact ⟨by first | rfl | (simp [errW_none, errW_some] <;> rfl) | (simp only [← hji3]; first | rfl | (simp [errW_none, errW_some] <;> rfl)) | (simp [*, errW_none, errW_some] <;> rfl), (bel HB.out)⟩
    ·rw [if_neg c7] at H
     exact absurd H (by simp)
   ·rw [if_neg c5] at H
    exact absurd H (by simp)
  ·rw [if_neg c4] at H
   exact absurd H (by simp)
 ·rw [if_neg c2] at H
  exact absurd H (by simp)

/-! ### impl_FrameAll: function 35 -/
def impl_FrameAll.l0 : Nat → Int → Int → Int → List ByteArray → List ByteArray → Int → Int → Option (List ByteArray × Bool)
 | 0, _, _, _, _, _, _, _ => none
 | k + 1, x0, x1, x2, x12, x24, x25, x26 => if x26 < x25 then (if 0 ≤ x26 then (if x26 < (x24.length : Int) then ((impl_GoodFrame.f x0 (wrap64 (x1 + x26)) x2 (rdOf ByteArray.empty x24 x26)).bind fun t223 => (if t223 = true then ((impl_frameBytes.f k x0 (wrap64 (x1 + x26)) x2 (rdOf ByteArray.empty x24 x26)).bind fun t224 => (if x12.length < 8796093022208 then (impl_FrameAll.l0 k x0 x1 x2 (x12 ++ [t224]) x24 x25 (wrap64 (x26 + 1))) else (none))) else (some (([] : List ByteArray), false)))) else (none)) else (none)) else (some (x12, true))
def impl_FrameAll.f (k : Nat) (a0 : Int) (a1 : Int) (a2 : Int) (a3 : ByteArray) : Option (List ByteArray × Bool) := (impl_SplitBody.f k a3).bind fun bt214 => (if bt214.2 = true then (impl_FrameAll.l0 k a0 a1 a2 (([] : List ByteArray)) bt214.1 (bt214.1.length : Int) 0) else (some (([] : List ByteArray), false)))
set_option maxRecDepth 100000 in
theorem impl_FrameAll.mono_l : ∀ k, (∀ y0 y1 y2 y3 y4 y5 y6, LeO (impl_FrameAll.l0 k y0 y1 y2 y3 y4 y5 y6) (impl_FrameAll.l0 (k + 1) y0 y1 y2 y3 y4 y5 y6))
 | 0 => fun _ _ _ _ _ _ _ r h => by first | (unfold impl_FrameAll.l0 at h; cases h; done) | simp [impl_FrameAll.l0] at h
 | k + 1 => by
  have ih0 := impl_FrameAll.mono_l k
  ·intro y0 y1 y2 y3 y4 y5 y6
   unfold impl_FrameAll.l0
   with_reducible repeat' first | exact ih0 _ _ _ _ _ _ _ | exact impl_SplitBody.mono _ _ | exact impl_frameBytes.mono _ _ _ _ _ | exact LeO.refl _ | exact LeO.none _ | refine LeO.ite ?_ ?_ | refine LeO.bind ?_ (fun _ => ?_)
theorem impl_FrameAll.mono : ∀ a0 a1 a2 a3 k, LeO (impl_FrameAll.f k a0 a1 a2 a3) (impl_FrameAll.f (k + 1) a0 a1 a2 a3) := by
 intro a0 a1 a2 a3 k
 have ih0 := impl_FrameAll.mono_l k
 unfold impl_FrameAll.f
 with_reducible repeat' first | exact ih0 _ _ _ _ _ _ _ | exact impl_SplitBody.mono _ _ | exact impl_frameBytes.mono _ _ _ _ _ | exact LeO.refl _ | exact LeO.none _ | refine LeO.ite ?_ ?_ | refine LeO.bind ?_ (fun _ => ?_)
set_option maxHeartbeats 8000000 in
set_option maxRecDepth 100000 in
theorem impl_FrameAll.calls (k : Nat) (a0 : Int) (a1 : Int) (a2 : Int) (a3 : ByteArray) (r1 : List ByteArray) (r2 : Bool) (w : World) (h : impl_FrameAll.f k a0 a1 a2 a3 = some (r1, r2)) :
  Calls Try.prog 35 #[.int .i64 a0, .int .i64 a1, .int .i64 a2, .string a3] w fun e w' => ∃ v0_ : Value, e = .returned (.tuple #[v0_, .bool r2]) ∧ Kd.R Kd.string 9 w' w.heap.size (fun _ => True) v0_ r1 ∧ Below w.heap.size w w' := by
 have hu102 := Try.underlying102
 have HB := Aside0.mk (Below.refl w.heap.size w)
 have H : ((impl_SplitBody.f k a3).bind fun bt214 => (if bt214.2 = true then (impl_FrameAll.l0 k a0 a1 a2 (([] : List ByteArray)) bt214.1 (bt214.1.length : Int) 0) else (some (([] : List ByteArray), false)))) = some (r1, r2) := h
 clear h
 replace H := Option.bind_eq_some_iff.mp H
 obtain ⟨⟨t214, t215⟩, A50, H⟩ := H
 have A5 := Aside0.mk A50
 clear A50
 by_cases c6 : t215 = true
 ·subst c6
  have H1 : (impl_FrameAll.l0 k a0 a1 a2 (([] : List ByteArray)) t214 (t214.length : Int) 0) = some (r1, r2) := by rw [if_pos rfl] at H; exact H
  clear H
  have H := H1
  clear H1
  obtain ⟨y218, hy218⟩ : ∃ y_ : List ByteArray, y_ = (([] : List ByteArray)) := ⟨_, rfl⟩
  replace H : (impl_FrameAll.l0 k a0 a1 a2 y218 t214 (t214.length : Int) 0) = some (r1, r2) := by first | (rw [hy218]; with_reducible exact H) | (have H2_ := (Option.bind_some _ _).symm.trans H; rw [hy218]; with_reducible exact H2_) | (have H2_ := (Option.bind_some _ _).symm.trans H; with_reducible exact H2_) | with_reducible exact H | (rw [hy218]; exact H) | exact H
  have Ny218 := Aside0.mk hy218
  clear hy218
  have H' := Aside0.mk H
  clear H
  go_enter Try.func35, Try.ntmps35
  go_wp2_with (first | (go_at_call 41; (with_reducible refine (impl_SplitBody.calls k a3 t214 true _ A5.out).mono ?_); rintro e w7 ⟨v216, rfl, ho0, hb⟩; have HO217 := Aside0.mk (Kd.R_lower ho0 (below_size (bez HB.out))); replace HB := Aside0.mk (below_step (bez HB.out) hb); (try clear hb); (try clear hb2); (try clear hk); (try clear hi); (try clear ho0)) | ((with_reducible refine gate_dst (N := 23) rfl ?_); refine Kd.R_lit Kd.string _ 9 ?hg (N := 23) ?hd (xs := ([] : List ByteArray)) (inner := []) (ok := fun _ => True) (okp := fun _ => True) ?hr ?hp (fun _ hk => hk) trivial (Below.refl _ _) (Nat.le_refl _) (by simp) ?_; (case hd => rfl); (case hg => rfl); (case hr => first | (go_simp; done) | (go_simp; rfl)); (case hp => exact (Reps.none _ _)); intro v219 w8 ho9 hb hg_ hnew_; clear hg_ hnew_; (first | rw [← Ny218.out] at ho9 | (simp only [Int.reduceToNat] at ho9; rw [← Ny218.out] at ho9)); have HO220 := Aside0.mk (Kd.R_lower (Kd.R_new' ho9 (Kd.R_lt (kdr HO217.out))) (below_size (bez HB.out))); replace HO217 := Aside0.mk (Kd.R_elder' (kdr HO217.out) (Kd.R_base ho9) hb); replace HB := Aside0.mk (below_step (bez HB.out) hb); clear hb ho9; obtain ⟨Ao10, co10, eo10⟩ := Kd.R_slice HO217.out; subst eo10))
  go_loopg [12, 26] k (fun kq v12 v26 w' => ∃ (x12_1 : List ByteArray) (x26_1 : Int), v26 = .int .i64 x26_1 ∧ Aside0 (impl_FrameAll.l0 kq a0 a1 a2 x12_1 t214 (t214.length : Int) x26_1 = some (r1, r2)) ∧ Aside0 (kq ≤ k) ∧ Aside0 (Kd.R Kd.string 9 w' w.heap.size (fun k_ => some k_ ≠ ((.slice Ao10 t214.length co10) : Value).ownBlock) v12 x12_1) ∧ Aside0 (Kd.R Kd.string 9 w' w.heap.size (fun k_ => some k_ ≠ (v12 : Value).ownBlock) (.slice Ao10 t214.length co10) t214) ∧ Aside0 (Below w.heap.size w w'))
  case atStart => exact ⟨(y218), (0), (by first | rfl | simp [*]), H', ⟨Nat.le_refl _⟩, ⟨by (with_reducible repeat (first | apply Kd.R_alloc | apply Kd.R_drewN | apply Kd.R_drew)); exact Kd.R_mono HO220.out (fun _ hk => hk.2)⟩, ⟨by (with_reducible repeat (first | apply Kd.R_alloc | apply Kd.R_drewN | apply Kd.R_drew)); exact Kd.R_mono HO217.out (fun _ hk => hk.2)⟩, ⟨(bez HB.out)⟩⟩
  case round =>
   clear H'
   try clear p2; try clear c3; try clear c4; try clear c6
   obtain ⟨x12_1, x26_1, rfl, HA, HK1, HO_12, HO_24, HB⟩ := hrel
   cases gk with
   | zero => exact absurd HA.out (by first | (unfold impl_FrameAll.l0; exact fun h_ => nomatch h_) | simp [impl_FrameAll.l0])
   | succ k1 =>
    have H := HA.out
    clear HA
    simp only [impl_FrameAll.l0] at H
    by_cases c11 : x26_1 < (t214.length : Int)
    ·rw [if_pos c11] at H
     have c11b0 := decide_eq_true c11
     clear c11
     by_cases c12 : 0 ≤ x26_1
     ·rw [if_pos c12] at H
      have c12b0 := decide_eq_true c12
      clear c12
      by_cases c13 : x26_1 < (t214.length : Int)
      ·rw [if_pos c13] at H
       have c13b0 := decide_eq_true c13
       clear c13
       replace H := Option.bind_eq_some_iff.mp H
       obtain ⟨t223, A140, H⟩ := H
       have A14 := Aside0.mk A140
       clear A140
       by_cases c15 : t223 = true
       ·subst c15
        have H1 : ((impl_frameBytes.f k1 a0 (wrap64 (a1 + x26_1)) a2 (rdOf ByteArray.empty t214 x26_1)).bind fun t224 => (if x12_1.length < 8796093022208 then (impl_FrameAll.l0 k1 a0 a1 a2 (x12_1 ++ [t224]) t214 (t214.length : Int) (wrap64 (x26_1 + 1))) else (none))) = some (r1, r2) := by rw [if_pos rfl] at H; exact H
        clear H
        have H := H1
        clear H1
        replace H := Option.bind_eq_some_iff.mp H
        obtain ⟨t224, A160, H⟩ := H
        have A16 := Aside0.mk A160
        clear A160
        by_cases c17 : x12_1.length < 8796093022208
        ·rw [if_pos c17] at H
         have LMc17 := Aside0.mk c17
         clear c17
         obtain ⟨y225, hy225⟩ : ∃ y_ : List ByteArray, y_ = (x12_1 ++ [t224]) := ⟨_, rfl⟩
         replace H : (impl_FrameAll.l0 k1 a0 a1 a2 y225 t214 (t214.length : Int) (wrap64 (x26_1 + 1))) = some (r1, r2) := by first | (rw [hy225]; with_reducible exact H) | (have H2_ := (Option.bind_some _ _).symm.trans H; rw [hy225]; with_reducible exact H2_) | (have H2_ := (Option.bind_some _ _).symm.trans H; with_reducible exact H2_) | with_reducible exact H | (rw [hy225]; exact H) | exact H
         have Ny225 := Aside0.mk hy225
         clear hy225
         have H' := Aside0.mk H
         clear H
         have p221 : 0 ≤ (x26_1 : Int) := of_decide_eq_true (by assumption)
         have q221 : x26_1 < (t214.length : Int) := of_decide_eq_true (by assumption)
         obtain ⟨ad221, e221, hx221_0⟩ := Kd.at_string (Kd.R_reads' HO_24.out).2.2 x26_1 p221 q221
         cases e221
         replace p221 := eq_true p221
         replace q221 := eq_true q221
         go_wp2_with (first | ((with_reducible refine gate_dst (N := 15) rfl ?_); refine boxE 15 #[.int .i64 0, .int .i64 0, .int .i64 0, .string (⟨#[]⟩ : ByteArray)] 102 ?_; intro gb222 hg w18 hbox hb; replace HO_12 := Aside0.mk (Kd.R_below (kdr HO_12.out) hb); replace HO_24 := Aside0.mk (Kd.R_below (kdr HO_24.out) hb); have BK222 := Aside0.mk (hbox); have GW222 := Aside0.mk ((by rw [hg]; exact (below_size (bez HB.out)) : w.heap.size ≤ gb222)); have GE222 := Aside0.mk ((by rw [hg]; exact (below_size (bez HB.out)) : w.heap.size ≤ gb222)); replace HB := Aside0.mk (below_step (bez HB.out) hb); clear hb hbox hg; obtain ⟨⟨hcz19_0, hcz19_1, hcz19_2, hcz19_3⟩, hfz19_0, hfz19_1, hfz19_2, hfz19_3⟩ := blk4 BK222.out) | (go_at_call 109; (with_reducible refine (impl_GoodFrame.calls a0 (wrap64 (a1 + x26_1)) a2 (rdOf ByteArray.empty t214 x26_1) true _ A14.out).mono ?_); rintro e w20 ⟨rfl, hb⟩; replace HO_12 := Aside0.mk (Kd.R_below (by (with_reducible repeat (first | apply Kd.R_alloc | apply Kd.R_drewN | apply Kd.R_drew)); exact (Kd.R_mono (Kd.R_far (p := ⟨gb222, 3, none⟩) (Kd.R_far (p := ⟨gb222, 2, none⟩) (Kd.R_far (p := ⟨gb222, 1, none⟩) (Kd.R_far (p := ⟨gb222, 0, none⟩) (Kd.R_types HO_12.out BK222.out (by decide)) (fun _ hk => hk.2) (.int .i64 a0)) (fun _ hk => hk.2) (.int .i64 (wrap64 (a1 + x26_1)))) (fun _ hk => hk.2) (.int .i64 a2)) (fun _ hk => hk.2) (.string (rdOf ByteArray.empty t214 x26_1))) (fun _ h_ => h_.1))) hb); replace HO_24 := Aside0.mk (Kd.R_below (by (with_reducible repeat (first | apply Kd.R_alloc | apply Kd.R_drewN | apply Kd.R_drew)); exact (Kd.R_mono (Kd.R_far (p := ⟨gb222, 3, none⟩) (Kd.R_far (p := ⟨gb222, 2, none⟩) (Kd.R_far (p := ⟨gb222, 1, none⟩) (Kd.R_far (p := ⟨gb222, 0, none⟩) (Kd.R_types HO_24.out BK222.out (by decide)) (fun _ hk => hk.2) (.int .i64 a0)) (fun _ hk => hk.2) (.int .i64 (wrap64 (a1 + x26_1)))) (fun _ hk => hk.2) (.int .i64 a2)) (fun _ hk => hk.2) (.string (rdOf ByteArray.empty t214 x26_1))) (fun _ h_ => h_.1))) hb); replace BK222 := Aside0.mk (blk_below (g := gb222) (o := .cells #[.int .i64 a0, .int .i64 (wrap64 (a1 + x26_1)), .int .i64 a2, .string (rdOf ByteArray.empty t214 x26_1)] 102 (0, 0)) (blkp BK222.out) hb); replace HB := Aside0.mk (below_step (bel HB.out) hb); (try clear hb); (try clear hb2); (try clear hk); (try clear hi); obtain ⟨⟨hcz21_0, hcz21_1, hcz21_2, hcz21_3⟩, hfz21_0, hfz21_1, hfz21_2, hfz21_3⟩ := blk4 BK222.out) | (go_at_call 110; (with_reducible refine (impl_frameBytes.calls k1 a0 (wrap64 (a1 + x26_1)) a2 (rdOf ByteArray.empty t214 x26_1) t224 _ A16.out).mono ?_); rintro e w22 ⟨rfl, hb⟩; replace HO_12 := Aside0.mk (Kd.R_below (kdr HO_12.out) hb); replace HO_24 := Aside0.mk (Kd.R_below (kdr HO_24.out) hb); replace BK222 := Aside0.mk (blk_below (g := gb222) (o := .cells #[.int .i64 a0, .int .i64 (wrap64 (a1 + x26_1)), .int .i64 a2, .string (rdOf ByteArray.empty t214 x26_1)] 102 (0, 0)) (blkd BK222.out) hb); replace HB := Aside0.mk (below_step (bel HB.out) hb); (try clear hb); (try clear hb2); (try clear hk); (try clear hi)) | ((with_reducible refine gate_builtin (b := .append) (xs := #[.tmp 41, .tmp 44]) rfl ?_); at_builtin; refine Kd.R_append Kd.string (w0 := w) w.heap.size rfl (.tmp 41) (.tmp 44) 48 9 (.string ⟨#[]⟩) 16 rfl Try.underlying48 info9 rfl (by decide) (by omega) u12 x12_1 t224 [.string t224] (fun k_ => some k_ ≠ (.slice (some ad221) t214.length co10 : Value).ownBlock) (fun _ => False) rfl rfl ?aP (fun _ hk => hk.elim) ?aF ?aO ?aB ?aS ?aL ?_; (case aP => exact rfl); (case aB => exact (bel HB.out)); (case aF => exact (fun k_ hk => Kd.fresh' (Kd.R_lt (kdr HO_24.out)) k_ hk)); (case aO => exact (kdr HO_12.out)); (case aS => exact (below_size (bel HB.out))); (case aL => have := LMc17.out; omega); intro v226 w23 ho hb hg hat; rw [← Ny225.out] at ho; replace HO_24 := Aside0.mk (Kd.R_after (ok := (fun _ => True)) (by (with_reducible repeat (first | apply Kd.R_alloc | apply Kd.R_drewN | apply Kd.R_drew)); exact Kd.R_mono HO_24.out (fun _ hk => ⟨trivial, hk⟩)) hg hat); replace BK222 := Aside0.mk (blk_grown (g := gb222) (o := .cells #[.int .i64 a0, .int .i64 (wrap64 (a1 + x26_1)), .int .i64 a2, .string (rdOf ByteArray.empty t214 x26_1)] 102 (0, 0)) (blkd BK222.out) hg (Kd.R_ne HO_12.out BK222.out (by decide))); replace HB := Aside0.mk (hb); have HO227 := Aside0.mk (ho); clear HO_12; clear ho hb hg hat))
         go_roundg k1
         case measure => have := HK1.out; omega
         case rel => exact ⟨(y225), (wrap64 (x26_1 + 1)), (by first | rfl | simp [*]), H', ⟨by have := HK1.out; omega⟩, ⟨by (with_reducible repeat (first | apply Kd.R_alloc | apply Kd.R_drewN | apply Kd.R_drew)); exact HO227.out⟩, ⟨by (with_reducible repeat (first | apply Kd.R_alloc | apply Kd.R_drewN | apply Kd.R_drew)); exact Kd.R_mono HO_24.out (fun _ hk => hk.2)⟩, ⟨(bel HB.out)⟩⟩
        ·rw [if_neg c17] at H
         exact absurd H (by simp)
       ·replace c15 := Bool.eq_false_iff.mpr c15
        subst c15
        have H1 : (some (([] : List ByteArray), false)) = some (r1, r2) := by rw [if_neg (show ¬ (false = true) by decide)] at H; exact H
        clear H
        have H := H1
        clear H1
        simp only [Option.some.injEq, Prod.mk.injEq] at H
        obtain ⟨rfl, rfl⟩ := H
        have p221 : 0 ≤ (x26_1 : Int) := of_decide_eq_true (by assumption)
        have q221 : x26_1 < (t214.length : Int) := of_decide_eq_true (by assumption)
        obtain ⟨ad221, e221, hx221_0⟩ := Kd.at_string (Kd.R_reads' HO_24.out).2.2 x26_1 p221 q221
        cases e221
        replace p221 := eq_true p221
        replace q221 := eq_true q221
        go_wp2_with (first | ((with_reducible refine gate_dst (N := 15) rfl ?_); refine boxE 15 #[.int .i64 0, .int .i64 0, .int .i64 0, .string (⟨#[]⟩ : ByteArray)] 102 ?_; intro gb222 hg w24 hbox hb; replace HO_12 := Aside0.mk (Kd.R_below (kdr HO_12.out) hb); replace HO_24 := Aside0.mk (Kd.R_below (kdr HO_24.out) hb); have BK222 := Aside0.mk (hbox); have GW222 := Aside0.mk ((by rw [hg]; exact (below_size (bez HB.out)) : w.heap.size ≤ gb222)); have GE222 := Aside0.mk ((by rw [hg]; exact (below_size (bez HB.out)) : w.heap.size ≤ gb222)); replace HB := Aside0.mk (below_step (bez HB.out) hb); clear hb hbox hg; obtain ⟨⟨hcz25_0, hcz25_1, hcz25_2, hcz25_3⟩, hfz25_0, hfz25_1, hfz25_2, hfz25_3⟩ := blk4 BK222.out) | (go_at_call 109; (with_reducible refine (impl_GoodFrame.calls a0 (wrap64 (a1 + x26_1)) a2 (rdOf ByteArray.empty t214 x26_1) false _ A14.out).mono ?_); rintro e w26 ⟨rfl, hb⟩; replace HO_12 := Aside0.mk (Kd.R_below (by (with_reducible repeat (first | apply Kd.R_alloc | apply Kd.R_drewN | apply Kd.R_drew)); exact (Kd.R_mono (Kd.R_far (p := ⟨gb222, 3, none⟩) (Kd.R_far (p := ⟨gb222, 2, none⟩) (Kd.R_far (p := ⟨gb222, 1, none⟩) (Kd.R_far (p := ⟨gb222, 0, none⟩) (Kd.R_types HO_12.out BK222.out (by decide)) (fun _ hk => hk.2) (.int .i64 a0)) (fun _ hk => hk.2) (.int .i64 (wrap64 (a1 + x26_1)))) (fun _ hk => hk.2) (.int .i64 a2)) (fun _ hk => hk.2) (.string (rdOf ByteArray.empty t214 x26_1))) (fun _ h_ => h_.1))) hb); replace HO_24 := Aside0.mk (Kd.R_below (by (with_reducible repeat (first | apply Kd.R_alloc | apply Kd.R_drewN | apply Kd.R_drew)); exact (Kd.R_mono (Kd.R_far (p := ⟨gb222, 3, none⟩) (Kd.R_far (p := ⟨gb222, 2, none⟩) (Kd.R_far (p := ⟨gb222, 1, none⟩) (Kd.R_far (p := ⟨gb222, 0, none⟩) (Kd.R_types HO_24.out BK222.out (by decide)) (fun _ hk => hk.2) (.int .i64 a0)) (fun _ hk => hk.2) (.int .i64 (wrap64 (a1 + x26_1)))) (fun _ hk => hk.2) (.int .i64 a2)) (fun _ hk => hk.2) (.string (rdOf ByteArray.empty t214 x26_1))) (fun _ h_ => h_.1))) hb); replace BK222 := Aside0.mk (blk_below (g := gb222) (o := .cells #[.int .i64 a0, .int .i64 (wrap64 (a1 + x26_1)), .int .i64 a2, .string (rdOf ByteArray.empty t214 x26_1)] 102 (0, 0)) (blkp BK222.out) hb); replace HB := Aside0.mk (below_step (bel HB.out) hb); (try clear hb); (try clear hb2); (try clear hk); (try clear hi)))
        go_ret2
        exact ⟨_, by first | rfl | simp [*], by first | exact Kd.R_nil _ _ _ _ _ | exact Kd.N_nil _ _ _ _ _ | exact Kd.V_nil _ _ _ _ _ | exact Kd.Q_nil _ _ _ _ _ | exact Kd.S_nil _ _ _ _ _, (bel HB.out)⟩
      ·rw [if_neg c13] at H
       exact absurd H (by simp)
     ·rw [if_neg c12] at H
      exact absurd H (by simp)
    ·rw [if_neg c11] at H
     have c11b0 := decide_eq_false c11
     clear c11
     simp only [Option.some.injEq, Prod.mk.injEq] at H
     obtain ⟨rfl, rfl⟩ := H
     go_wp2
     go_ret2
     exact ⟨_, by first | rfl | simp [*], by (with_reducible repeat (first | apply Kd.R_alloc | apply Kd.R_drewN | apply Kd.R_drew)); exact Kd.R_mono HO_12.out (fun _ hk => trivial), (bez HB.out)⟩
 ·replace c6 := Bool.eq_false_iff.mpr c6
  subst c6
  have H1 : (some (([] : List ByteArray), false)) = some (r1, r2) := by rw [if_neg (show ¬ (false = true) by decide)] at H; exact H
  clear H
  have H := H1
  clear H1
  simp only [Option.some.injEq, Prod.mk.injEq] at H
  obtain ⟨rfl, rfl⟩ := H
  go_enter Try.func35, Try.ntmps35
  go_wp2_with (first | (go_at_call 41; (with_reducible refine (impl_SplitBody.calls k a3 t214 false _ A5.out).mono ?_); rintro e w27 ⟨v216, rfl, ho0, hb⟩; have HO217 := Aside0.mk (Kd.R_lower ho0 (below_size (bez HB.out))); replace HB := Aside0.mk (below_step (bez HB.out) hb); (try clear hb); (try clear hb2); (try clear hk); (try clear hi); (try clear ho0)))
  go_ret2
  exact ⟨_, by first | rfl | simp [*], by first | exact Kd.R_nil _ _ _ _ _ | exact Kd.N_nil _ _ _ _ _ | exact Kd.V_nil _ _ _ _ _ | exact Kd.Q_nil _ _ _ _ _ | exact Kd.S_nil _ _ _ _ _, (bez HB.out)⟩

/-! ### spec_l1In: function 105 -/
def spec_l1In.f (a0 : Int) (a1 : Int) (a2 : Int) : Option (Bool) := if a0 ≥ a1 then (some (decide (a0 ≤ a2))) else (some false)
set_option maxHeartbeats 8000000 in
set_option maxRecDepth 100000 in
theorem spec_l1In.calls (a0 : Int) (a1 : Int) (a2 : Int) (r : Bool) (w : World) (h : spec_l1In.f a0 a1 a2 = some r) :
  Calls Try.prog 105 #[.int .i64 a0, .int .i64 a1, .int .i64 a2] w fun e w' => e = .returned (.bool r) ∧ Drawn0 w w' := by
 have H : (if a0 ≥ a1 then (some (decide (a0 ≤ a2))) else (some false)) = some r := h
 clear h
 by_cases c4 : a0 ≥ a1
 ·rw [if_pos c4] at H
  have c4b0 := decide_eq_true c4
  clear c4
  obtain rfl := Option.some.inj H
  go_enter Try.func105, Try.ntmps105
  go_wp2
  go_ret
  exact ⟨by first | rfl | simp [*], by repeat (first | exact Drawn0.refl _ | apply Drawn0.step)⟩
 ·rw [if_neg c4] at H
  have c4b0 := decide_eq_false c4
  clear c4
  obtain rfl := Option.some.inj H
  go_enter Try.func105, Try.ntmps105
  go_wp2
  go_ret
  exact ⟨by first | rfl | simp [*], by repeat (first | exact Drawn0.refl _ | apply Drawn0.step)⟩

/-! ### spec_SplitBody: function 42 -/
def spec_SplitBody.l0 : Nat → ByteArray → List ByteArray → Option (List ByteArray × Bool)
 | 0, _, _ => none
 | k + 1, x0, x4 => if (x0.size : Int) > 16 then (if 0 ≤ 16 then (if 16 ≤ (x0.size : Int) then (if x4.length < 8796093022208 then (spec_SplitBody.l0 k (x0.extract 16 x0.size) (x4 ++ [x0.extract 0 16])) else (none)) else (none)) else (none)) else (if x4.length < 8796093022208 then (some ((x4 ++ [x0]), true)) else (none))
def spec_SplitBody.f (k : Nat) (a0 : ByteArray) : Option (List ByteArray × Bool) := (spec_l1In.f (a0.size : Int) 1 160).bind fun t228 => (if t228 = true then (spec_SplitBody.l0 k a0 ([] : List ByteArray)) else (some (([] : List ByteArray), false)))
set_option maxRecDepth 100000 in
theorem spec_SplitBody.mono_l : ∀ k, (∀ y0 y1, LeO (spec_SplitBody.l0 k y0 y1) (spec_SplitBody.l0 (k + 1) y0 y1))
 | 0 => fun _ _ r h => by first | (unfold spec_SplitBody.l0 at h; cases h; done) | simp [spec_SplitBody.l0] at h
 | k + 1 => by
  have ih0 := spec_SplitBody.mono_l k
  ·intro y0 y1
   unfold spec_SplitBody.l0
   with_reducible repeat' first | exact ih0 _ _ | exact LeO.refl _ | exact LeO.none _ | refine LeO.ite ?_ ?_ | refine LeO.bind ?_ (fun _ => ?_)
theorem spec_SplitBody.mono : ∀ a0 k, LeO (spec_SplitBody.f k a0) (spec_SplitBody.f (k + 1) a0) := by
 intro a0 k
 have ih0 := spec_SplitBody.mono_l k
 unfold spec_SplitBody.f
 with_reducible repeat' first | exact ih0 _ _ | exact LeO.refl _ | exact LeO.none _ | refine LeO.ite ?_ ?_ | refine LeO.bind ?_ (fun _ => ?_)
set_option maxHeartbeats 8000000 in
set_option maxRecDepth 100000 in
theorem spec_SplitBody.calls (k : Nat) (a0 : ByteArray) (r1 : List ByteArray) (r2 : Bool) (w : World) (h : spec_SplitBody.f k a0 = some (r1, r2)) :
  Calls Try.prog 42 #[.string a0] w fun e w' => ∃ v0_ : Value, e = .returned (.tuple #[v0_, .bool r2]) ∧ Kd.R Kd.string 9 w' w.heap.size (fun _ => True) v0_ r1 ∧ Below w.heap.size w w' := by
 have HB := Aside0.mk (Below.refl w.heap.size w)
 have H : ((spec_l1In.f (a0.size : Int) 1 160).bind fun t228 => (if t228 = true then (spec_SplitBody.l0 k a0 ([] : List ByteArray)) else (some (([] : List ByteArray), false)))) = some (r1, r2) := h
 clear h
 replace H := Option.bind_eq_some_iff.mp H
 obtain ⟨t228, A20, H⟩ := H
 have A2 := Aside0.mk A20
 clear A20
 by_cases c3 : t228 = true
 ·subst c3
  have H1 : (spec_SplitBody.l0 k a0 ([] : List ByteArray)) = some (r1, r2) := by rw [if_pos rfl] at H; exact H
  clear H
  have H := H1
  clear H1
  have H' := Aside0.mk H
  clear H
  go_enter Try.func42, Try.ntmps42
  go_wp2_with (first | (go_at_call 105; (with_reducible refine (spec_l1In.calls (a0.size : Int) 1 160 true _ A2.out).mono ?_); rintro e w' ⟨rfl, ⟨nd, rfl⟩⟩))
  go_loopg [0, 4] k (fun kq v0 v4 w' => ∃ (x0_1 : ByteArray) (x4_1 : List ByteArray), v0 = .string x0_1 ∧ Aside0 (spec_SplitBody.l0 kq x0_1 x4_1 = some (r1, r2)) ∧ Aside0 (kq ≤ k) ∧ Aside0 (Kd.R Kd.string 9 w' w.heap.size (fun _ => True) v4 x4_1) ∧ Aside0 (Below w.heap.size w w'))
  case atStart => exact ⟨(a0), (([] : List ByteArray)), (by first | rfl | simp [*]), H', ⟨Nat.le_refl _⟩, ⟨by first | exact Kd.R_nil _ _ _ _ _ | exact Kd.N_nil _ _ _ _ _ | exact Kd.V_nil _ _ _ _ _ | exact Kd.Q_nil _ _ _ _ _ | exact Kd.S_nil _ _ _ _ _⟩, ⟨(bez HB.out)⟩⟩
  case round =>
   clear H'
   try clear c1; try clear p2; try clear c3
   obtain ⟨x0_1, x4_1, rfl, HA, HK1, HO_4, HB⟩ := hrel
   cases gk with
   | zero => exact absurd HA.out (by first | (unfold spec_SplitBody.l0; exact fun h_ => nomatch h_) | simp [spec_SplitBody.l0])
   | succ k1 =>
    have H := HA.out
    clear HA
    simp only [spec_SplitBody.l0] at H
    by_cases c4 : (x0_1.size : Int) > 16
    ·rw [if_pos c4] at H
     have c4b0 := decide_eq_true c4
     have c4b1 : decide (16 < x0_1.size) = true := decide_eq_true (by omega)
     clear c4
     by_cases c5 : 0 ≤ 16
     ·rw [if_pos c5] at H
      have c5b0 := eq_true c5
      have c5b1 := decide_eq_true c5
      clear c5
      by_cases c6 : 16 ≤ (x0_1.size : Int)
      ·rw [if_pos c6] at H
       have c6b0 := eq_true c6
       have c6b1 := decide_eq_true c6
       clear c6
       by_cases c7 : x4_1.length < 8796093022208
       ·rw [if_pos c7] at H
        have LMc7 := Aside0.mk c7
        clear c7
        obtain ⟨y229, hy229⟩ : ∃ y_ : List ByteArray, y_ = (x4_1 ++ [x0_1.extract 0 16]) := ⟨_, rfl⟩
        replace H : (spec_SplitBody.l0 k1 (x0_1.extract 16 x0_1.size) y229) = some (r1, r2) := by first | (rw [hy229]; with_reducible exact H) | (have H2_ := (Option.bind_some _ _).symm.trans H; rw [hy229]; with_reducible exact H2_) | (have H2_ := (Option.bind_some _ _).symm.trans H; with_reducible exact H2_) | with_reducible exact H | (rw [hy229]; exact H) | exact H
        have Ny229 := Aside0.mk hy229
        clear hy229
        have c8b0 := eq_true (of_decide_eq_true (by assumption) : 16 ≤ (x0_1.size : Int))
        have H' := Aside0.mk H
        clear H
        go_wp2_with (first | ((with_reducible refine gate_builtin (b := .append) (xs := #[.tmp 12, .tmp 15]) rfl ?_); at_builtin; refine Kd.R_append Kd.string (w0 := w) w.heap.size rfl (.tmp 12) (.tmp 15) 48 9 (.string ⟨#[]⟩) 16 rfl Try.underlying48 info9 rfl (by decide) (by omega) u4 x4_1 (x0_1.extract 0 16) [.string (x0_1.extract 0 16)] (fun _ => True) (fun _ => False) rfl rfl ?aP (fun _ hk => hk.elim) ?aF ?aO ?aB ?aS ?aL ?_; (case aP => exact rfl); (case aB => exact (bez HB.out)); (case aF => exact (fun _ _ => trivial)); (case aO => exact (kdr HO_4.out)); (case aS => exact (below_size (bez HB.out))); (case aL => have := LMc7.out; omega); intro v230 w9 ho hb hg hat; rw [← Ny229.out] at ho; replace HB := Aside0.mk (hb); have HO231 := Aside0.mk (ho); clear HO_4; clear ho hb hg hat))
        go_roundg k1
        case measure => have := HK1.out; omega
        case rel => exact ⟨(x0_1.extract 16 x0_1.size), (y229), (by first | rfl | simp [*]), H', ⟨by have := HK1.out; omega⟩, ⟨by (with_reducible repeat (first | apply Kd.R_alloc | apply Kd.R_drewN | apply Kd.R_drew)); exact HO231.out⟩, ⟨(bez HB.out)⟩⟩
       ·rw [if_neg c7] at H
        exact absurd H (by simp)
      ·rw [if_neg c6] at H
       exact absurd H (by simp)
     ·rw [if_neg c5] at H
      exact absurd H (by simp)
    ·rw [if_neg c4] at H
     have c4b0 := decide_eq_false c4
     have c4b1 : decide (16 < x0_1.size) = false := decide_eq_false (by omega)
     clear c4
     by_cases c10 : x4_1.length < 8796093022208
     ·rw [if_pos c10] at H
      have LMc10 := Aside0.mk c10
      clear c10
      obtain ⟨y232, hy232⟩ : ∃ y_ : List ByteArray, y_ = (x4_1 ++ [x0_1]) := ⟨_, rfl⟩
      replace H : (some (y232, true)) = some (r1, r2) := by first | (rw [hy232]; with_reducible exact H) | (have H2_ := (Option.bind_some _ _).symm.trans H; rw [hy232]; with_reducible exact H2_) | (have H2_ := (Option.bind_some _ _).symm.trans H; with_reducible exact H2_) | with_reducible exact H | (rw [hy232]; exact H) | exact H
      have Ny232 := Aside0.mk hy232
      clear hy232
      simp only [Option.some.injEq, Prod.mk.injEq] at H
      obtain ⟨rfl, rfl⟩ := H
      go_wp2_with (first | ((with_reducible refine gate_builtin (b := .append) (xs := #[.tmp 19, .tmp 21]) rfl ?_); at_builtin; refine Kd.R_append Kd.string (w0 := w) w.heap.size rfl (.tmp 19) (.tmp 21) 48 9 (.string ⟨#[]⟩) 16 rfl Try.underlying48 info9 rfl (by decide) (by omega) u4 x4_1 x0_1 [.string x0_1] (fun _ => True) (fun _ => False) rfl rfl ?aP (fun _ hk => hk.elim) ?aF ?aO ?aB ?aS ?aL ?_; (case aP => exact rfl); (case aB => exact (bez HB.out)); (case aF => exact (fun _ _ => trivial)); (case aO => exact (kdr HO_4.out)); (case aS => exact (below_size (bez HB.out))); (case aL => have := LMc10.out; omega); intro v233 w11 ho hb hg hat; rw [← Ny232.out] at ho; replace HB := Aside0.mk (hb); have HO234 := Aside0.mk (ho); clear HO_4; clear ho hb hg hat))
      go_ret2
      exact ⟨_, by first | rfl | simp [*], by (with_reducible repeat (first | apply Kd.R_alloc | apply Kd.R_drewN | apply Kd.R_drew)); exact HO234.out, (bez HB.out)⟩
     ·rw [if_neg c10] at H
      exact absurd H (by simp)
 ·replace c3 := Bool.eq_false_iff.mpr c3
  subst c3
  have H1 : (some (([] : List ByteArray), false)) = some (r1, r2) := by rw [if_neg (show ¬ (false = true) by decide)] at H; exact H
  clear H
  have H := H1
  clear H1
  simp only [Option.some.injEq, Prod.mk.injEq] at H
  obtain ⟨rfl, rfl⟩ := H
  go_enter Try.func42, Try.ntmps42
  go_wp2_with (first | (go_at_call 105; (with_reducible refine (spec_l1In.calls (a0.size : Int) 1 160 false _ A2.out).mono ?_); rintro e w' ⟨rfl, ⟨nd, rfl⟩⟩))
  go_ret2
  exact ⟨_, by first | rfl | simp [*], by first | exact Kd.R_nil _ _ _ _ _ | exact Kd.N_nil _ _ _ _ _ | exact Kd.V_nil _ _ _ _ _ | exact Kd.Q_nil _ _ _ _ _ | exact Kd.S_nil _ _ _ _ _, (bez HB.out)⟩

end Go.Proofs.Ytldlldfoaicjcaa.MFnBodies
-- SHRUNK
