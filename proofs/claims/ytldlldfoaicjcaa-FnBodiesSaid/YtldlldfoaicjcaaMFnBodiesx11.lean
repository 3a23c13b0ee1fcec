/- The machine's side of FnBodies, written by this session's program out of the kit's print of the program, with contracts of this session's own. No conditions beyond those typed. -/
import Derived.Test.YtldlldfoaicjcaaMFnBodiesx0
import Derived.Test.YtldlldfoaicjcaaMFnBodiesx2
import Derived.Test.YtldlldfoaicjcaaMFnBodiesx7
import Derived.Test.YtldlldfoaicjcaaMFnBodiesx10
namespace Go.Proofs.Ytldlldfoaicjcaa.MFnBodies
open Go.RowKit Go.Proofs.YtldlldfoaicjcaaW.PrintWords Go.Proofs.YtldlldfoaicjcaaW.PrintLast Go.Proofs.YtldlldfoaicjcaaW.PrintMore
attribute [local go_sem] max2_int min2_int max_two min_two max_three min_three max_four min_four   -- for this text's walks alone
set_option linter.unusedVariables false
set_option linter.unusedSimpArgs false

/-! ### spec_CheckFrame: function 118 -/
def spec_CheckFrame.f (k : Nat) (a0 : ByteArray) (a1 : Int) (a2 : Int) (a3 : Int) : Option (Int × Int × Int × ByteArray × Int × Bool) := (spec_ReadFrame.f k a0).bind fun bt410 => (if bt410.2.2.2.2.2 = true then (if bt410.1 = a1 then (if bt410.2.1 = a2 then (if bt410.2.2.1 < a3 then (some (0, 0, 0, (⟨#[]⟩ : ByteArray), 5, false)) else (some (bt410.1, bt410.2.1, bt410.2.2.1, bt410.2.2.2.1, 0, true))) else (some (0, 0, 0, (⟨#[]⟩ : ByteArray), 4, false))) else (some (0, 0, 0, (⟨#[]⟩ : ByteArray), 3, false))) else (some (0, 0, 0, (⟨#[]⟩ : ByteArray), bt410.2.2.2.2.1, false)))
theorem spec_CheckFrame.mono : ∀ a0 a1 a2 a3 k, LeO (spec_CheckFrame.f k a0 a1 a2 a3) (spec_CheckFrame.f (k + 1) a0 a1 a2 a3) := by
 intro a0 a1 a2 a3 k
 unfold spec_CheckFrame.f
 with_reducible repeat' first | exact spec_ReadFrame.mono _ _ | exact LeO.refl _ | exact LeO.none _ | refine LeO.ite ?_ ?_ | refine LeO.bind ?_ (fun _ => ?_)
set_option maxHeartbeats 8000000 in
set_option maxRecDepth 100000 in
theorem spec_CheckFrame.calls (k : Nat) (a0 : ByteArray) (a1 : Int) (a2 : Int) (a3 : Int) (r1 : Int) (r2 : Int) (r3 : Int) (r4 : ByteArray) (r5 : Int) (r6 : Bool) (w : World) (h : spec_CheckFrame.f k a0 a1 a2 a3 = some (r1, r2, r3, r4, r5, r6)) :
  Calls Try.prog 118 #[.string a0, .int .i64 a1, .int .i64 a2, .int .i64 a3] w fun e w' => e = .returned (.tuple #[.agg #[.int .i64 r1, .int .i64 r2, .int .i64 r3, .string r4], .int .i64 r5, .bool r6]) ∧ Below w.heap.size w w' := by
 have hu102 := Try.underlying102
 have HB := Aside0.mk (Below.refl w.heap.size w)
 have H : ((spec_ReadFrame.f k a0).bind fun bt410 => (if bt410.2.2.2.2.2 = true then (if bt410.1 = a1 then (if bt410.2.1 = a2 then (if bt410.2.2.1 < a3 then (some (0, 0, 0, (⟨#[]⟩ : ByteArray), 5, false)) else (some (bt410.1, bt410.2.1, bt410.2.2.1, bt410.2.2.2.1, 0, true))) else (some (0, 0, 0, (⟨#[]⟩ : ByteArray), 4, false))) else (some (0, 0, 0, (⟨#[]⟩ : ByteArray), 3, false))) else (some (0, 0, 0, (⟨#[]⟩ : ByteArray), bt410.2.2.2.2.1, false)))) = some (r1, r2, r3, r4, r5, r6) := h
 clear h
 replace H := Option.bind_eq_some_iff.mp H
 obtain ⟨⟨t410, t411, t412, t413, t414, t415⟩, A50, H⟩ := H
 have A5 := Aside0.mk A50
 clear A50
 by_cases c6 : t415 = true
 ·subst c6
  have H1 : (if t410 = a1 then (if t411 = a2 then (if t412 < a3 then (some (0, 0, 0, (⟨#[]⟩ : ByteArray), 5, false)) else (some (t410, t411, t412, t413, 0, true))) else (some (0, 0, 0, (⟨#[]⟩ : ByteArray), 4, false))) else (some (0, 0, 0, (⟨#[]⟩ : ByteArray), 3, false))) = some (r1, r2, r3, r4, r5, r6) := by rw [if_pos rfl] at H; exact H
  clear H
  have H := H1
  clear H1
  by_cases c7 : t410 = a1
  ·rw [if_pos c7] at H
   have c7b0 : (t410 == a1) = true := beq_iff_eq.mpr c7
   have c7b1 : (t410 != a1) = false := bne_eq_false_iff_eq.mpr c7
   clear c7
   by_cases c8 : t411 = a2
   ·rw [if_pos c8] at H
    have c8b0 : (t411 == a2) = true := beq_iff_eq.mpr c8
    have c8b1 : (t411 != a2) = false := bne_eq_false_iff_eq.mpr c8
    clear c8
    by_cases c9 : t412 < a3
    ·rw [if_pos c9] at H
     have c9b0 := decide_eq_true c9
     clear c9
     simp only [Option.some.injEq, Prod.mk.injEq] at H
     obtain ⟨rfl, rfl, rfl, rfl, rfl, rfl⟩ := H
     go_enter Try.func118, Try.ntmps118
     go_wp2_with (first | ((with_reducible refine gate_dst (N := 8) rfl ?_); refine boxE 8 #[.int .i64 0, .int .i64 0, .int .i64 0, .string (⟨#[]⟩ : ByteArray)] 102 ?_; intro gb409 hg w10 hbox hb; have BK409 := Aside0.mk (hbox); have GW409 := Aside0.mk ((by rw [hg]; exact (below_size (bez HB.out)) : w.heap.size ≤ gb409)); have GE409 := Aside0.mk ((by rw [hg]; exact (below_size (bez HB.out)) : w.heap.size ≤ gb409)); replace HB := Aside0.mk (below_step (bez HB.out) hb); clear hb hbox hg) | (go_at_call 182; (with_reducible refine (spec_ReadFrame.calls k a0 t410 t411 t412 t413 t414 true _ A5.out).mono ?_); rintro e w11 ⟨rfl, hb⟩; replace BK409 := Aside0.mk (blk_below (g := gb409) (o := .cells #[.int .i64 0, .int .i64 0, .int .i64 0, .string (⟨#[]⟩ : ByteArray)] 102 (0, 0)) (blkd BK409.out) hb); replace HB := Aside0.mk (below_step (bel HB.out) hb); (try clear hb); (try clear hb2); (try clear hk); (try clear hi)) | ((with_reducible refine gate_dst (N := 11) rfl ?_); refine boxE 11 #[.int .i64 0, .int .i64 0, .int .i64 0, .string (⟨#[]⟩ : ByteArray)] 102 ?_; intro gb416 hg w12 hbox hb; have n0_ := Aside0.mk (blk_below (g := gb409) (o := .cells #[.int .i64 0, .int .i64 0, .int .i64 0, .string (⟨#[]⟩ : ByteArray)] 102 (0, 0)) (blkd BK409.out) hb); have n1_ := Aside0.mk (below_step (bel HB.out) hb); have n2_ := Aside0.mk (hbox); have n3_ := Aside0.mk ((by rw [hg]; exact (below_size (bel HB.out)) : w.heap.size ≤ gb416)); have n4_ := Aside0.mk ((by rw [hg]; exact (below_size (bel HB.out)) : w.heap.size ≤ gb416)); have n5_ := Aside0.mk ((by rw [hg]; exact Nat.ne_of_lt (blk_lt (g := gb409) (o := .cells #[.int .i64 0, .int .i64 0, .int .i64 0, .string (⟨#[]⟩ : ByteArray)] 102 (0, 0)) (blkd BK409.out)) : gb409 ≠ gb416)); have n6_ := Aside0.mk ((by rw [hg]; exact Nat.ne_of_gt (blk_lt (g := gb409) (o := .cells #[.int .i64 0, .int .i64 0, .int .i64 0, .string (⟨#[]⟩ : ByteArray)] 102 (0, 0)) (blkd BK409.out)) : gb416 ≠ gb409)); clear BK409; clear HB; have BK409 := n0_; have HB := n1_; have BK416 := n2_; have GW416 := n3_; have GE416 := n4_; have NB409_416 := n5_; have NB416_409 := n6_; clear n0_ n1_ n2_ n3_ n4_ n5_ n6_; clear hb hbox hg; have hnb13 := NB416_409.out; have hnc13 := NB409_416.out; obtain ⟨⟨hcz14_0, hcz14_1, hcz14_2, hcz14_3⟩, hfz14_0, hfz14_1, hfz14_2, hfz14_3⟩ := blk4 BK416.out; obtain ⟨⟨hcz15_0, hcz15_1, hcz15_2, hcz15_3⟩, hfz15_0, hfz15_1, hfz15_2, hfz15_3⟩ := blk4 BK409.out))
     refine bodyPost_ret (results_ctt rfl _ _ gb409 102 #[.int .i64 0, .int .i64 0, .int .i64 0, .string (⟨#[]⟩ : ByteArray)] (0, 0) _ rfl (blkp BK409.out) Try.underlying102 rfl (by kernel_rfl)) rfl ?_
     exact ⟨by first | rfl | simp [*], (bel HB.out)⟩
    ·rw [if_neg c9] at H
     have c9b0 := decide_eq_false c9
     clear c9
     simp only [Option.some.injEq, Prod.mk.injEq] at H
     obtain ⟨rfl, rfl, rfl, rfl, rfl, rfl⟩ := H
     go_enter Try.func118, Try.ntmps118
     go_wp2_with (first | ((with_reducible refine gate_dst (N := 8) rfl ?_); refine boxE 8 #[.int .i64 0, .int .i64 0, .int .i64 0, .string (⟨#[]⟩ : ByteArray)] 102 ?_; intro gb409 hg w16 hbox hb; have BK409 := Aside0.mk (hbox); have GW409 := Aside0.mk ((by rw [hg]; exact (below_size (bez HB.out)) : w.heap.size ≤ gb409)); have GE409 := Aside0.mk ((by rw [hg]; exact (below_size (bez HB.out)) : w.heap.size ≤ gb409)); replace HB := Aside0.mk (below_step (bez HB.out) hb); clear hb hbox hg) | (go_at_call 182; (with_reducible refine (spec_ReadFrame.calls k a0 t410 t411 t412 t413 t414 true _ A5.out).mono ?_); rintro e w17 ⟨rfl, hb⟩; replace BK409 := Aside0.mk (blk_below (g := gb409) (o := .cells #[.int .i64 0, .int .i64 0, .int .i64 0, .string (⟨#[]⟩ : ByteArray)] 102 (0, 0)) (blkd BK409.out) hb); replace HB := Aside0.mk (below_step (bel HB.out) hb); (try clear hb); (try clear hb2); (try clear hk); (try clear hi)) | ((with_reducible refine gate_dst (N := 11) rfl ?_); refine boxE 11 #[.int .i64 0, .int .i64 0, .int .i64 0, .string (⟨#[]⟩ : ByteArray)] 102 ?_; intro gb416 hg w18 hbox hb; have n0_ := Aside0.mk (blk_below (g := gb409) (o := .cells #[.int .i64 0, .int .i64 0, .int .i64 0, .string (⟨#[]⟩ : ByteArray)] 102 (0, 0)) (blkd BK409.out) hb); have n1_ := Aside0.mk (below_step (bel HB.out) hb); have n2_ := Aside0.mk (hbox); have n3_ := Aside0.mk ((by rw [hg]; exact (below_size (bel HB.out)) : w.heap.size ≤ gb416)); have n4_ := Aside0.mk ((by rw [hg]; exact (below_size (bel HB.out)) : w.heap.size ≤ gb416)); have n5_ := Aside0.mk ((by rw [hg]; exact Nat.ne_of_lt (blk_lt (g := gb409) (o := .cells #[.int .i64 0, .int .i64 0, .int .i64 0, .string (⟨#[]⟩ : ByteArray)] 102 (0, 0)) (blkd BK409.out)) : gb409 ≠ gb416)); have n6_ := Aside0.mk ((by rw [hg]; exact Nat.ne_of_gt (blk_lt (g := gb409) (o := .cells #[.int .i64 0, .int .i64 0, .int .i64 0, .string (⟨#[]⟩ : ByteArray)] 102 (0, 0)) (blkd BK409.out)) : gb416 ≠ gb409)); clear BK409; clear HB; have BK409 := n0_; have HB := n1_; have BK416 := n2_; have GW416 := n3_; have GE416 := n4_; have NB409_416 := n5_; have NB416_409 := n6_; clear n0_ n1_ n2_ n3_ n4_ n5_ n6_; clear hb hbox hg; have hnb19 := NB416_409.out; have hnc19 := NB409_416.out; obtain ⟨⟨hcz20_0, hcz20_1, hcz20_2, hcz20_3⟩, hfz20_0, hfz20_1, hfz20_2, hfz20_3⟩ := blk4 BK416.out; obtain ⟨⟨hcz21_0, hcz21_1, hcz21_2, hcz21_3⟩, hfz21_0, hfz21_1, hfz21_2, hfz21_3⟩ := blk4 BK409.out))
     refine bodyPost_ret (results_ctt rfl _ _ gb409 102 #[.int .i64 t410, .int .i64 t411, .int .i64 t412, .string t413] (0, 0) _ rfl (blkp BK409.out) Try.underlying102 rfl (by kernel_rfl)) rfl ?_
     exact ⟨by first | rfl | simp [*], (bel HB.out)⟩
   ·rw [if_neg c8] at H
    have c8b0 : (t411 == a2) = false := beq_eq_false_iff_ne.mpr c8
    have c8b1 : (t411 != a2) = true := bne_iff_ne.mpr c8
    simp only [Option.some.injEq, Prod.mk.injEq] at H
    obtain ⟨rfl, rfl, rfl, rfl, rfl, rfl⟩ := H
    go_enter Try.func118, Try.ntmps118
    go_wp2_with (first | ((with_reducible refine gate_dst (N := 8) rfl ?_); refine boxE 8 #[.int .i64 0, .int .i64 0, .int .i64 0, .string (⟨#[]⟩ : ByteArray)] 102 ?_; intro gb409 hg w22 hbox hb; have BK409 := Aside0.mk (hbox); have GW409 := Aside0.mk ((by rw [hg]; exact (below_size (bez HB.out)) : w.heap.size ≤ gb409)); have GE409 := Aside0.mk ((by rw [hg]; exact (below_size (bez HB.out)) : w.heap.size ≤ gb409)); replace HB := Aside0.mk (below_step (bez HB.out) hb); clear hb hbox hg) | (go_at_call 182; (with_reducible refine (spec_ReadFrame.calls k a0 t410 t411 t412 t413 t414 true _ A5.out).mono ?_); rintro e w23 ⟨rfl, hb⟩; replace BK409 := Aside0.mk (blk_below (g := gb409) (o := .cells #[.int .i64 0, .int .i64 0, .int .i64 0, .string (⟨#[]⟩ : ByteArray)] 102 (0, 0)) (blkd BK409.out) hb); replace HB := Aside0.mk (below_step (bel HB.out) hb); (try clear hb); (try clear hb2); (try clear hk); (try clear hi)) | ((with_reducible refine gate_dst (N := 11) rfl ?_); refine boxE 11 #[.int .i64 0, .int .i64 0, .int .i64 0, .string (⟨#[]⟩ : ByteArray)] 102 ?_; intro gb416 hg w24 hbox hb; have n0_ := Aside0.mk (blk_below (g := gb409) (o := .cells #[.int .i64 0, .int .i64 0, .int .i64 0, .string (⟨#[]⟩ : ByteArray)] 102 (0, 0)) (blkd BK409.out) hb); have n1_ := Aside0.mk (below_step (bel HB.out) hb); have n2_ := Aside0.mk (hbox); have n3_ := Aside0.mk ((by rw [hg]; exact (below_size (bel HB.out)) : w.heap.size ≤ gb416)); have n4_ := Aside0.mk ((by rw [hg]; exact (below_size (bel HB.out)) : w.heap.size ≤ gb416)); have n5_ := Aside0.mk ((by rw [hg]; exact Nat.ne_of_lt (blk_lt (g := gb409) (o := .cells #[.int .i64 0, .int .i64 0, .int .i64 0, .string (⟨#[]⟩ : ByteArray)] 102 (0, 0)) (blkd BK409.out)) : gb409 ≠ gb416)); have n6_ := Aside0.mk ((by rw [hg]; exact Nat.ne_of_gt (blk_lt (g := gb409) (o := .cells #[.int .i64 0, .int .i64 0, .int .i64 0, .string (⟨#[]⟩ : ByteArray)] 102 (0, 0)) (blkd BK409.out)) : gb416 ≠ gb409)); clear BK409; clear HB; have BK409 := n0_; have HB := n1_; have BK416 := n2_; have GW416 := n3_; have GE416 := n4_; have NB409_416 := n5_; have NB416_409 := n6_; clear n0_ n1_ n2_ n3_ n4_ n5_ n6_; clear hb hbox hg; have hnb25 := NB416_409.out; have hnc25 := NB409_416.out; obtain ⟨⟨hcz26_0, hcz26_1, hcz26_2, hcz26_3⟩, hfz26_0, hfz26_1, hfz26_2, hfz26_3⟩ := blk4 BK416.out; obtain ⟨⟨hcz27_0, hcz27_1, hcz27_2, hcz27_3⟩, hfz27_0, hfz27_1, hfz27_2, hfz27_3⟩ := blk4 BK409.out))
    refine bodyPost_ret (results_ctt rfl _ _ gb409 102 #[.int .i64 0, .int .i64 0, .int .i64 0, .string (⟨#[]⟩ : ByteArray)] (0, 0) _ rfl (blkp BK409.out) Try.underlying102 rfl (by kernel_rfl)) rfl ?_
    exact ⟨by first | rfl | simp [*], (bel HB.out)⟩
  ·rw [if_neg c7] at H
   have c7b0 : (t410 == a1) = false := beq_eq_false_iff_ne.mpr c7
   have c7b1 : (t410 != a1) = true := bne_iff_ne.mpr c7
   simp only [Option.some.injEq, Prod.mk.injEq] at H
   obtain ⟨rfl, rfl, rfl, rfl, rfl, rfl⟩ := H
   go_enter Try.func118, Try.ntmps118
   go_wp2_with (first | ((with_reducible refine gate_dst (N := 8) rfl ?_); refine boxE 8 #[.int .i64 0, .int .i64 0, .int .i64 0, .string (⟨#[]⟩ : ByteArray)] 102 ?_; intro gb409 hg w28 hbox hb; have BK409 := Aside0.mk (hbox); have GW409 := Aside0.mk ((by rw [hg]; exact (below_size (bez HB.out)) : w.heap.size ≤ gb409)); have GE409 := Aside0.mk ((by rw [hg]; exact (below_size (bez HB.out)) : w.heap.size ≤ gb409)); replace HB := Aside0.mk (below_step (bez HB.out) hb); clear hb hbox hg) | (go_at_call 182; (with_reducible refine (spec_ReadFrame.calls k a0 t410 t411 t412 t413 t414 true _ A5.out).mono ?_); rintro e w29 ⟨rfl, hb⟩; replace BK409 := Aside0.mk (blk_below (g := gb409) (o := .cells #[.int .i64 0, .int .i64 0, .int .i64 0, .string (⟨#[]⟩ : ByteArray)] 102 (0, 0)) (blkd BK409.out) hb); replace HB := Aside0.mk (below_step (bel HB.out) hb); (try clear hb); (try clear hb2); (try clear hk); (try clear hi)) | ((with_reducible refine gate_dst (N := 11) rfl ?_); refine boxE 11 #[.int .i64 0, .int .i64 0, .int .i64 0, .string (⟨#[]⟩ : ByteArray)] 102 ?_; intro gb416 hg w30 hbox hb; have n0_ := Aside0.mk (blk_below (g := gb409) (o := .cells #[.int .i64 0, .int .i64 0, .int .i64 0, .string (⟨#[]⟩ : ByteArray)] 102 (0, 0)) (blkd BK409.out) hb); have n1_ := Aside0.mk (below_step (bel HB.out) hb); have n2_ := Aside0.mk (hbox); have n3_ := Aside0.mk ((by rw [hg]; exact (below_size (bel HB.out)) : w.heap.size ≤ gb416)); have n4_ := Aside0.mk ((by rw [hg]; exact (below_size (bel HB.out)) : w.heap.size ≤ gb416)); have n5_ := Aside0.mk ((by rw [hg]; exact Nat.ne_of_lt (blk_lt (g := gb409) (o := .cells #[.int .i64 0, .int .i64 0, .int .i64 0, .string (⟨#[]⟩ : ByteArray)] 102 (0, 0)) (blkd BK409.out)) : gb409 ≠ gb416)); have n6_ := Aside0.mk ((by rw [hg]; exact Nat.ne_of_gt (blk_lt (g := gb409) (o := .cells #[.int .i64 0, .int .i64 0, .int .i64 0, .string (⟨#[]⟩ : ByteArray)] 102 (0, 0)) (blkd BK409.out)) : gb416 ≠ gb409)); clear BK409; clear HB; have BK409 := n0_; have HB := n1_; have BK416 := n2_; have GW416 := n3_; have GE416 := n4_; have NB409_416 := n5_; have NB416_409 := n6_; clear n0_ n1_ n2_ n3_ n4_ n5_ n6_; clear hb hbox hg; have hnb31 := NB416_409.out; have hnc31 := NB409_416.out; obtain ⟨⟨hcz32_0, hcz32_1, hcz32_2, hcz32_3⟩, hfz32_0, hfz32_1, hfz32_2, hfz32_3⟩ := blk4 BK416.out; obtain ⟨⟨hcz33_0, hcz33_1, hcz33_2, hcz33_3⟩, hfz33_0, hfz33_1, hfz33_2, hfz33_3⟩ := blk4 BK409.out))
   refine bodyPost_ret (results_ctt rfl _ _ gb409 102 #[.int .i64 0, .int .i64 0, .int .i64 0, .string (⟨#[]⟩ : ByteArray)] (0, 0) _ rfl (blkp BK409.out) Try.underlying102 rfl (by kernel_rfl)) rfl ?_
   exact ⟨by first | rfl | simp [*], (bel HB.out)⟩
 ·replace c6 := Bool.eq_false_iff.mpr c6
  subst c6
  have H1 : (some (0, 0, 0, (⟨#[]⟩ : ByteArray), t414, false)) = some (r1, r2, r3, r4, r5, r6) := by rw [if_neg (show ¬ (false = true) by decide)] at H; exact H
  clear H
  have H := H1
  clear H1
  simp only [Option.some.injEq, Prod.mk.injEq] at H
  obtain ⟨rfl, rfl, rfl, rfl, rfl, rfl⟩ := H
  go_enter Try.func118, Try.ntmps118
  go_wp2_with (first | ((with_reducible refine gate_dst (N := 8) rfl ?_); refine boxE 8 #[.int .i64 0, .int .i64 0, .int .i64 0, .string (⟨#[]⟩ : ByteArray)] 102 ?_; intro gb409 hg w34 hbox hb; have BK409 := Aside0.mk (hbox); have GW409 := Aside0.mk ((by rw [hg]; exact (below_size (bez HB.out)) : w.heap.size ≤ gb409)); have GE409 := Aside0.mk ((by rw [hg]; exact (below_size (bez HB.out)) : w.heap.size ≤ gb409)); replace HB := Aside0.mk (below_step (bez HB.out) hb); clear hb hbox hg) | (go_at_call 182; (with_reducible refine (spec_ReadFrame.calls k a0 t410 t411 t412 t413 t414 false _ A5.out).mono ?_); rintro e w35 ⟨rfl, hb⟩; replace BK409 := Aside0.mk (blk_below (g := gb409) (o := .cells #[.int .i64 0, .int .i64 0, .int .i64 0, .string (⟨#[]⟩ : ByteArray)] 102 (0, 0)) (blkd BK409.out) hb); replace HB := Aside0.mk (below_step (bel HB.out) hb); (try clear hb); (try clear hb2); (try clear hk); (try clear hi)) | ((with_reducible refine gate_dst (N := 11) rfl ?_); refine boxE 11 #[.int .i64 0, .int .i64 0, .int .i64 0, .string (⟨#[]⟩ : ByteArray)] 102 ?_; intro gb416 hg w36 hbox hb; have n0_ := Aside0.mk (blk_below (g := gb409) (o := .cells #[.int .i64 0, .int .i64 0, .int .i64 0, .string (⟨#[]⟩ : ByteArray)] 102 (0, 0)) (blkd BK409.out) hb); have n1_ := Aside0.mk (below_step (bel HB.out) hb); have n2_ := Aside0.mk (hbox); have n3_ := Aside0.mk ((by rw [hg]; exact (below_size (bel HB.out)) : w.heap.size ≤ gb416)); have n4_ := Aside0.mk ((by rw [hg]; exact (below_size (bel HB.out)) : w.heap.size ≤ gb416)); have n5_ := Aside0.mk ((by rw [hg]; exact Nat.ne_of_lt (blk_lt (g := gb409) (o := .cells #[.int .i64 0, .int .i64 0, .int .i64 0, .string (⟨#[]⟩ : ByteArray)] 102 (0, 0)) (blkd BK409.out)) : gb409 ≠ gb416)); have n6_ := Aside0.mk ((by rw [hg]; exact Nat.ne_of_gt (blk_lt (g := gb409) (o := .cells #[.int .i64 0, .int .i64 0, .int .i64 0, .string (⟨#[]⟩ : ByteArray)] 102 (0, 0)) (blkd BK409.out)) : gb416 ≠ gb409)); clear BK409; clear HB; have BK409 := n0_; have HB := n1_; have BK416 := n2_; have GW416 := n3_; have GE416 := n4_; have NB409_416 := n5_; have NB416_409 := n6_; clear n0_ n1_ n2_ n3_ n4_ n5_ n6_; clear hb hbox hg; have hnb37 := NB416_409.out; have hnc37 := NB409_416.out; obtain ⟨⟨hcz38_0, hcz38_1, hcz38_2, hcz38_3⟩, hfz38_0, hfz38_1, hfz38_2, hfz38_3⟩ := blk4 BK416.out; obtain ⟨⟨hcz39_0, hcz39_1, hcz39_2, hcz39_3⟩, hfz39_0, hfz39_1, hfz39_2, hfz39_3⟩ := blk4 BK409.out))
  refine bodyPost_ret (results_ctt rfl _ _ gb409 102 #[.int .i64 0, .int .i64 0, .int .i64 0, .string (⟨#[]⟩ : ByteArray)] (0, 0) _ rfl (blkp BK409.out) Try.underlying102 rfl (by kernel_rfl)) rfl ?_
  exact ⟨by first | rfl | simp [*], (bel HB.out)⟩

/-! ### spec_ReadAll: function 47 -/
def spec_ReadAll.l0 : Nat → Int → Int → Int → List ByteArray → List ByteArray → Int → Int → Option (ByteArray × Int × Bool)
 | 0, _, _, _, _, _, _, _ => none
 | k + 1, x1, x2, x3, x11, x23, x24, x25 => if x25 < x24 then (if 0 ≤ x25 then (if x25 < (x23.length : Int) then ((spec_CheckFrame.f k (rdOf ByteArray.empty x23 x25) x1 (wrap64 (x2 + x25)) x3).bind fun bt419 => (if bt419.2.2.2.2.2 = true then (if x11.length < 8796093022208 then (spec_ReadAll.l0 k x1 x2 x3 (x11 ++ [bt419.2.2.2.1]) x23 x24 (wrap64 (x25 + 1))) else (none)) else (some ((⟨#[]⟩ : ByteArray), bt419.2.2.2.2.1, false)))) else (none)) else (none)) else ((spec_JoinBody.f k x11).bind fun bt429 => (if bt429.2 = true then (some (bt429.1, 0, true)) else (some ((⟨#[]⟩ : ByteArray), 3, false))))
def spec_ReadAll.f (k : Nat) (l0 : List ByteArray) (a1 : Int) (a2 : Int) (a3 : Int) : Option (ByteArray × Int × Bool) := (spec_l1In.f (l0.length : Int) 1 10).bind fun t417 => (if t417 = true then (spec_ReadAll.l0 k a1 a2 a3 ([] : List ByteArray) l0 (l0.length : Int) 0) else (some ((⟨#[]⟩ : ByteArray), 0, false)))
set_option maxRecDepth 100000 in
theorem spec_ReadAll.mono_l : ∀ k, (∀ y0 y1 y2 y3 y4 y5 y6, LeO (spec_ReadAll.l0 k y0 y1 y2 y3 y4 y5 y6) (spec_ReadAll.l0 (k + 1) y0 y1 y2 y3 y4 y5 y6))
 | 0 => fun _ _ _ _ _ _ _ r h => by first | (unfold spec_ReadAll.l0 at h; cases h; done) | simp [spec_ReadAll.l0] at h
 | k + 1 => by
  have ih0 := spec_ReadAll.mono_l k
  ·intro y0 y1 y2 y3 y4 y5 y6
   unfold spec_ReadAll.l0
   with_reducible repeat' first | exact ih0 _ _ _ _ _ _ _ | exact spec_CheckFrame.mono _ _ _ _ _ | exact spec_JoinBody.mono _ _ | exact LeO.refl _ | exact LeO.none _ | refine LeO.ite ?_ ?_ | refine LeO.bind ?_ (fun _ => ?_)
theorem spec_ReadAll.mono : ∀ a0 a1 a2 a3 k, LeO (spec_ReadAll.f k a0 a1 a2 a3) (spec_ReadAll.f (k + 1) a0 a1 a2 a3) := by
 intro a0 a1 a2 a3 k
 have ih0 := spec_ReadAll.mono_l k
 unfold spec_ReadAll.f
 with_reducible repeat' first | exact ih0 _ _ _ _ _ _ _ | exact spec_CheckFrame.mono _ _ _ _ _ | exact spec_JoinBody.mono _ _ | exact LeO.refl _ | exact LeO.none _ | refine LeO.ite ?_ ?_ | refine LeO.bind ?_ (fun _ => ?_)
set_option maxHeartbeats 8000000 in
set_option maxRecDepth 100000 in
theorem spec_ReadAll.calls (k : Nat) (A0 : Option Addr) (c0 : Nat) (l0 : List ByteArray) (a1 : Int) (a2 : Int) (a3 : Int) (r1 : ByteArray) (r2 : Int) (r3 : Bool) (w : World) (hr0 : Kd.C Kd.string w A0 l0.length l0) (hc0 : l0.length ≤ c0) (h : spec_ReadAll.f k l0 a1 a2 a3 = some (r1, r2, r3)) :
  Calls Try.prog 47 #[.slice A0 l0.length c0, .int .i64 a1, .int .i64 a2, .int .i64 a3] w fun e w' => e = .returned (.tuple #[.string r1, .int .i64 r2, .bool r3]) ∧ Below w.heap.size w w' := by
 have hu102 := Try.underlying102
 have HR0 := Aside0.mk hr0
 have HC0 := Aside0.mk hc0
 clear hr0 hc0
 have HB := Aside0.mk (Below.refl w.heap.size w)
 have H : ((spec_l1In.f (l0.length : Int) 1 10).bind fun t417 => (if t417 = true then (spec_ReadAll.l0 k a1 a2 a3 ([] : List ByteArray) l0 (l0.length : Int) 0) else (some ((⟨#[]⟩ : ByteArray), 0, false)))) = some (r1, r2, r3) := h
 clear h
 replace H := Option.bind_eq_some_iff.mp H
 obtain ⟨t417, A50, H⟩ := H
 have A5 := Aside0.mk A50
 clear A50
 by_cases c6 : t417 = true
 ·subst c6
  have H1 : (spec_ReadAll.l0 k a1 a2 a3 ([] : List ByteArray) l0 (l0.length : Int) 0) = some (r1, r2, r3) := by rw [if_pos rfl] at H; exact H
  clear H
  have H := H1
  clear H1
  have H' := Aside0.mk H
  clear H
  go_enter Try.func47, Try.ntmps47
  go_wp2_with (first | (go_at_call 105; (with_reducible refine (spec_l1In.calls (l0.length : Int) 1 10 true _ A5.out).mono ?_); rintro e w' ⟨rfl, ⟨nd, rfl⟩⟩))
  go_loopg [11, 25] k (fun kq v11 v25 w' => ∃ (x11_1 : List ByteArray) (x25_1 : Int), v25 = .int .i64 x25_1 ∧ Aside0 (spec_ReadAll.l0 kq a1 a2 a3 x11_1 l0 (l0.length : Int) x25_1 = some (r1, r2, r3)) ∧ Aside0 (kq ≤ k) ∧ Aside0 (Kd.R Kd.string 9 w' w.heap.size (fun _ => True) v11 x11_1) ∧ Aside0 (Below w.heap.size w w'))
  case atStart => exact ⟨(([] : List ByteArray)), (0), (by first | rfl | simp [*]), H', ⟨Nat.le_refl _⟩, ⟨by first | exact Kd.R_nil _ _ _ _ _ | exact Kd.N_nil _ _ _ _ _ | exact Kd.V_nil _ _ _ _ _ | exact Kd.Q_nil _ _ _ _ _ | exact Kd.S_nil _ _ _ _ _⟩, ⟨(bez HB.out)⟩⟩
  case round =>
   clear H'
   try clear c1; try clear p2; try clear c4; try clear c6
   obtain ⟨x11_1, x25_1, rfl, HA, HK1, HO_11, HB⟩ := hrel
   cases gk with
   | zero => exact absurd HA.out (by first | (unfold spec_ReadAll.l0; exact fun h_ => nomatch h_) | simp [spec_ReadAll.l0])
   | succ k1 =>
    have H := HA.out
    clear HA
    simp only [spec_ReadAll.l0] at H
    by_cases c7 : x25_1 < (l0.length : Int)
    ·rw [if_pos c7] at H
     have c7b0 := decide_eq_true c7
     clear c7
     by_cases c8 : 0 ≤ x25_1
     ·rw [if_pos c8] at H
      have c8b0 := decide_eq_true c8
      clear c8
      by_cases c9 : x25_1 < (l0.length : Int)
      ·rw [if_pos c9] at H
       have c9b0 := decide_eq_true c9
       clear c9
       replace H := Option.bind_eq_some_iff.mp H
       obtain ⟨⟨t419, t420, t421, t422, t423, t424⟩, A100, H⟩ := H
       have A10 := Aside0.mk A100
       clear A100
       by_cases c11 : t424 = true
       ·subst c11
        have H1 : (if x11_1.length < 8796093022208 then (spec_ReadAll.l0 k1 a1 a2 a3 (x11_1 ++ [t422]) l0 (l0.length : Int) (wrap64 (x25_1 + 1))) else (none)) = some (r1, r2, r3) := by rw [if_pos rfl] at H; exact H
        clear H
        have H := H1
        clear H1
        by_cases c12 : x11_1.length < 8796093022208
        ·rw [if_pos c12] at H
         have LMc12 := Aside0.mk c12
         clear c12
         obtain ⟨y426, hy426⟩ : ∃ y_ : List ByteArray, y_ = (x11_1 ++ [t422]) := ⟨_, rfl⟩
         replace H : (spec_ReadAll.l0 k1 a1 a2 a3 y426 l0 (l0.length : Int) (wrap64 (x25_1 + 1))) = some (r1, r2, r3) := by first | (rw [hy426]; with_reducible exact H) | (have H2_ := (Option.bind_some _ _).symm.trans H; rw [hy426]; with_reducible exact H2_) | (have H2_ := (Option.bind_some _ _).symm.trans H; with_reducible exact H2_) | with_reducible exact H | (rw [hy426]; exact H) | exact H
         have Ny426 := Aside0.mk hy426
         clear hy426
         have H' := Aside0.mk H
         clear H
         have p418 : 0 ≤ (x25_1 : Int) := of_decide_eq_true (by assumption)
         have q418 : x25_1 < (l0.length : Int) := of_decide_eq_true (by assumption)
         obtain ⟨ad418, e418, hx418_0⟩ := Kd.at_string HR0.out x25_1 p418 q418
         cases e418
         replace hx418_0 := (HB.out.cell (World.block_lt_of_cell? w _ hx418_0)).trans hx418_0
         replace p418 := eq_true p418
         replace q418 := eq_true q418
         go_wp2_with (first | (go_at_call 118; (with_reducible refine (spec_CheckFrame.calls k1 (rdOf ByteArray.empty l0 x25_1) a1 (wrap64 (a2 + x25_1)) a3 t419 t420 t421 t422 t423 true _ A10.out).mono ?_); rintro e w13 ⟨rfl, hb⟩; replace HO_11 := Aside0.mk (Kd.R_below (kdr HO_11.out) hb); replace HB := Aside0.mk (below_step (bez HB.out) hb); (try clear hb); (try clear hb2); (try clear hk); (try clear hi)) | ((with_reducible refine gate_dst (N := 14) rfl ?_); refine boxE 14 #[.int .i64 0, .int .i64 0, .int .i64 0, .string (⟨#[]⟩ : ByteArray)] 102 ?_; intro gb425 hg w14 hbox hb; replace HO_11 := Aside0.mk (Kd.R_below (kdr HO_11.out) hb); have BK425 := Aside0.mk (hbox); have GW425 := Aside0.mk ((by rw [hg]; exact (below_size (bez HB.out)) : w.heap.size ≤ gb425)); have GE425 := Aside0.mk ((by rw [hg]; exact (below_size (bez HB.out)) : w.heap.size ≤ gb425)); replace HB := Aside0.mk (below_step (bez HB.out) hb); clear hb hbox hg; obtain ⟨⟨hcz15_0, hcz15_1, hcz15_2, hcz15_3⟩, hfz15_0, hfz15_1, hfz15_2, hfz15_3⟩ := blk4 BK425.out) | ((with_reducible refine gate_builtin (b := .append) (xs := #[.tmp 44, .tmp 47]) rfl ?_); at_builtin; refine Kd.R_append Kd.string (w0 := w) w.heap.size rfl (.tmp 44) (.tmp 47) 48 9 (.string ⟨#[]⟩) 16 rfl Try.underlying48 info9 rfl (by decide) (by omega) u11 x11_1 t422 [.string t422] (fun _ => True) (fun _ => False) rfl (by first | (go_simp; done) | (go_simp; rfl)) ?aP (fun _ hk => hk.elim) ?aF ?aO ?aB ?aS ?aL ?_; (case aP => exact rfl); (case aB => exact (bel HB.out)); (case aF => exact (fun _ _ => trivial)); (case aO => exact (by (with_reducible repeat (first | apply Kd.R_alloc | apply Kd.R_drewN | apply Kd.R_drew)); exact Kd.R_mono (Kd.R_far (p := ⟨gb425, 3, none⟩) (Kd.R_far (p := ⟨gb425, 2, none⟩) (Kd.R_far (p := ⟨gb425, 1, none⟩) (Kd.R_far (p := ⟨gb425, 0, none⟩) (Kd.R_types HO_11.out BK425.out (by decide)) (fun _ hk => hk.2) (.int .i64 t419)) (fun _ hk => hk.2) (.int .i64 t420)) (fun _ hk => hk.2) (.int .i64 t421)) (fun _ hk => hk.2) (.string t422)) (fun _ hk => trivial))); (case aS => exact (below_size (bel HB.out))); (case aL => have := LMc12.out; omega); intro v427 w16 ho hb hg hat; rw [← Ny426.out] at ho; replace BK425 := Aside0.mk (blk_grown (g := gb425) (o := .cells #[.int .i64 t419, .int .i64 t420, .int .i64 t421, .string t422] 102 (0, 0)) (blkp BK425.out) hg (Kd.R_ne HO_11.out BK425.out (by decide))); replace HB := Aside0.mk (hb); have HO428 := Aside0.mk (ho); clear HO_11; clear ho hb hg hat))
         go_roundg k1
         case measure => have := HK1.out; omega
         case rel => exact ⟨(y426), (wrap64 (x25_1 + 1)), (by first | rfl | simp [*]), H', ⟨by have := HK1.out; omega⟩, ⟨by (with_reducible repeat (first | apply Kd.R_alloc | apply Kd.R_drewN | apply Kd.R_drew)); exact HO428.out⟩, ⟨(bel HB.out)⟩⟩
        ·rw [if_neg c12] at H
         exact absurd H (by simp)
       ·replace c11 := Bool.eq_false_iff.mpr c11
        subst c11
        have H1 : (some ((⟨#[]⟩ : ByteArray), t423, false)) = some (r1, r2, r3) := by rw [if_neg (show ¬ (false = true) by decide)] at H; exact H
        clear H
        have H := H1
        clear H1
        simp only [Option.some.injEq, Prod.mk.injEq] at H
        obtain ⟨rfl, rfl, rfl⟩ := H
        have p418 : 0 ≤ (x25_1 : Int) := of_decide_eq_true (by assumption)
        have q418 : x25_1 < (l0.length : Int) := of_decide_eq_true (by assumption)
        obtain ⟨ad418, e418, hx418_0⟩ := Kd.at_string HR0.out x25_1 p418 q418
        cases e418
        replace hx418_0 := (HB.out.cell (World.block_lt_of_cell? w _ hx418_0)).trans hx418_0
        replace p418 := eq_true p418
        replace q418 := eq_true q418
        go_wp2_with (first | (go_at_call 118; (with_reducible refine (spec_CheckFrame.calls k1 (rdOf ByteArray.empty l0 x25_1) a1 (wrap64 (a2 + x25_1)) a3 t419 t420 t421 t422 t423 false _ A10.out).mono ?_); rintro e w17 ⟨rfl, hb⟩; replace HO_11 := Aside0.mk (Kd.R_below (kdr HO_11.out) hb); replace HB := Aside0.mk (below_step (bez HB.out) hb); (try clear hb); (try clear hb2); (try clear hk); (try clear hi)) | ((with_reducible refine gate_dst (N := 14) rfl ?_); refine boxE 14 #[.int .i64 0, .int .i64 0, .int .i64 0, .string (⟨#[]⟩ : ByteArray)] 102 ?_; intro gb425 hg w18 hbox hb; replace HO_11 := Aside0.mk (Kd.R_below (kdr HO_11.out) hb); have BK425 := Aside0.mk (hbox); have GW425 := Aside0.mk ((by rw [hg]; exact (below_size (bez HB.out)) : w.heap.size ≤ gb425)); have GE425 := Aside0.mk ((by rw [hg]; exact (below_size (bez HB.out)) : w.heap.size ≤ gb425)); replace HB := Aside0.mk (below_step (bez HB.out) hb); clear hb hbox hg; obtain ⟨⟨hcz19_0, hcz19_1, hcz19_2, hcz19_3⟩, hfz19_0, hfz19_1, hfz19_2, hfz19_3⟩ := blk4 BK425.out))
        go_ret3
        exact ⟨by first | rfl | simp [*], (bel HB.out)⟩
      ·rw [if_neg c9] at H
       exact absurd H (by simp)
     ·rw [if_neg c8] at H
      exact absurd H (by simp)
    ·rw [if_neg c7] at H
     have c7b0 := decide_eq_false c7
     clear c7
     replace H := Option.bind_eq_some_iff.mp H
     obtain ⟨⟨t429, t430⟩, A200, H⟩ := H
     have A20 := Aside0.mk A200
     clear A200
     by_cases c21 : t430 = true
     ·subst c21
      have H1 : (some (t429, 0, true)) = some (r1, r2, r3) := by rw [if_pos rfl] at H; exact H
      clear H
      have H := H1
      clear H1
      simp only [Option.some.injEq, Prod.mk.injEq] at H
      obtain ⟨rfl, rfl, rfl⟩ := H
      obtain ⟨Ao22, co22, eo22⟩ := Kd.R_slice HO_11.out
      subst eo22
      go_wp2_with (first | (go_at_call 45; (with_reducible refine (spec_JoinBody.calls k1 _ _ x11_1 t429 true _ ?side1 ?side2 A20.out).mono ?_); (case side1 => repeat (first | exact (Kd.R_reads' HO_11.out).2.2 | (with_reducible refine Kd.C_alloc ?_ _) | (with_reducible refine Kd.C_drewN ?_ _) | (with_reducible refine Kd.C_drew ?_))); (case side2 => exact (Kd.R_reads' HO_11.out).2.1); rintro e w' ⟨rfl, ⟨nd, rfl⟩⟩))
      go_ret3
      exact ⟨by first | rfl | simp [*], (bez HB.out)⟩
     ·replace c21 := Bool.eq_false_iff.mpr c21
      subst c21
      have H1 : (some ((⟨#[]⟩ : ByteArray), 3, false)) = some (r1, r2, r3) := by rw [if_neg (show ¬ (false = true) by decide)] at H; exact H
      clear H
      have H := H1
      clear H1
      simp only [Option.some.injEq, Prod.mk.injEq] at H
      obtain ⟨rfl, rfl, rfl⟩ := H
      obtain ⟨Ao23, co23, eo23⟩ := Kd.R_slice HO_11.out
      subst eo23
      go_wp2_with (first | (go_at_call 45; (with_reducible refine (spec_JoinBody.calls k1 _ _ x11_1 t429 false _ ?side1 ?side2 A20.out).mono ?_); (case side1 => repeat (first | exact (Kd.R_reads' HO_11.out).2.2 | (with_reducible refine Kd.C_alloc ?_ _) | (with_reducible refine Kd.C_drewN ?_ _) | (with_reducible refine Kd.C_drew ?_))); (case side2 => exact (Kd.R_reads' HO_11.out).2.1); rintro e w' ⟨rfl, ⟨nd, rfl⟩⟩))
      go_ret3
      exact ⟨by first | rfl | simp [*], (bez HB.out)⟩
 ·replace c6 := Bool.eq_false_iff.mpr c6
  subst c6
  have H1 : (some ((⟨#[]⟩ : ByteArray), 0, false)) = some (r1, r2, r3) := by rw [if_neg (show ¬ (false = true) by decide)] at H; exact H
  clear H
  have H := H1
  clear H1
  simp only [Option.some.injEq, Prod.mk.injEq] at H
  obtain ⟨rfl, rfl, rfl⟩ := H
  go_enter Try.func47, Try.ntmps47
  go_wp2_with (first | (go_at_call 105; (with_reducible refine (spec_l1In.calls (l0.length : Int) 1 10 false _ A5.out).mono ?_); rintro e w' ⟨rfl, ⟨nd, rfl⟩⟩))
  go_ret3
  exact ⟨by first | rfl | simp [*], (bez HB.out)⟩

end Go.Proofs.Ytldlldfoaicjcaa.MFnBodies
-- SHRUNK
