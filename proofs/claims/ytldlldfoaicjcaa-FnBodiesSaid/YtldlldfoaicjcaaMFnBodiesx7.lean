/- The machine's side of FnBodies, written by this session's program out of the kit's print of the program, with contracts of this session's own. No conditions beyond those typed. -/
import Derived.Test.YtldlldfoaicjcaaMFnBodiesx0
import Derived.Test.YtldlldfoaicjcaaMFnBodiesx1
import Derived.Test.YtldlldfoaicjcaaMFnBodiesx2
import Derived.Test.YtldlldfoaicjcaaMFnBodiesx5
import Derived.Test.YtldlldfoaicjcaaMFnBodiesx6
namespace Go.Proofs.Ytldlldfoaicjcaa.MFnBodies
open Go.RowKit Go.Proofs.YtldlldfoaicjcaaW.PrintWords Go.Proofs.YtldlldfoaicjcaaW.PrintLast Go.Proofs.YtldlldfoaicjcaaW.PrintMore
attribute [local go_sem] max2_int min2_int max_two min_two max_three min_three max_four min_four   -- for this text's walks alone
set_option linter.unusedVariables false
set_option linter.unusedSimpArgs false

/-! ### impl_CheckFrame: function 112 -/
def impl_CheckFrame.f (k : Nat) (a0 : ByteArray) (a1 : Int) (a2 : Int) (a3 : Int) : Option (Int × Int × Int × ByteArray × Int × Bool) := (impl_ReadFrame.f k a0).bind fun bt288 => (if bt288.2.2.2.2.2 = true then (if bt288.1 = a1 then (if bt288.2.1 = a2 then (if bt288.2.2.1 < a3 then (if 5 = 0 then (some (bt288.1, bt288.2.1, bt288.2.2.1, bt288.2.2.2.1, 0, true)) else (some (0, 0, 0, (⟨#[]⟩ : ByteArray), 5, false))) else (if bt288.2.2.2.2.1 = 0 then (some (bt288.1, bt288.2.1, bt288.2.2.1, bt288.2.2.2.1, 0, true)) else (some (0, 0, 0, (⟨#[]⟩ : ByteArray), bt288.2.2.2.2.1, false)))) else (if 4 = 0 then (some (bt288.1, bt288.2.1, bt288.2.2.1, bt288.2.2.2.1, 0, true)) else (some (0, 0, 0, (⟨#[]⟩ : ByteArray), 4, false)))) else (if 3 = 0 then (some (bt288.1, bt288.2.1, bt288.2.2.1, bt288.2.2.2.1, 0, true)) else (some (0, 0, 0, (⟨#[]⟩ : ByteArray), 3, false)))) else (if bt288.2.2.2.2.1 = 0 then (some (bt288.1, bt288.2.1, bt288.2.2.1, bt288.2.2.2.1, 0, true)) else (some (0, 0, 0, (⟨#[]⟩ : ByteArray), bt288.2.2.2.2.1, false))))
theorem impl_CheckFrame.mono : ∀ a0 a1 a2 a3 k, LeO (impl_CheckFrame.f k a0 a1 a2 a3) (impl_CheckFrame.f (k + 1) a0 a1 a2 a3) := by
 intro a0 a1 a2 a3 k
 unfold impl_CheckFrame.f
 with_reducible repeat' first | exact impl_ReadFrame.mono _ _ | exact LeO.refl _ | exact LeO.none _ | refine LeO.ite ?_ ?_ | refine LeO.bind ?_ (fun _ => ?_)
set_option maxHeartbeats 8000000 in
set_option maxRecDepth 100000 in
theorem impl_CheckFrame.calls (k : Nat) (a0 : ByteArray) (a1 : Int) (a2 : Int) (a3 : Int) (r1 : Int) (r2 : Int) (r3 : Int) (r4 : ByteArray) (r5 : Int) (r6 : Bool) (w : World) (h : impl_CheckFrame.f k a0 a1 a2 a3 = some (r1, r2, r3, r4, r5, r6)) :
  Calls Try.prog 112 #[.string a0, .int .i64 a1, .int .i64 a2, .int .i64 a3] w fun e w' => e = .returned (.tuple #[.agg #[.int .i64 r1, .int .i64 r2, .int .i64 r3, .string r4], .int .i64 r5, .bool r6]) ∧ Below w.heap.size w w' := by
 have hu102 := Try.underlying102
 have HB := Aside0.mk (Below.refl w.heap.size w)
 have H : ((impl_ReadFrame.f k a0).bind fun bt288 => (if bt288.2.2.2.2.2 = true then (if bt288.1 = a1 then (if bt288.2.1 = a2 then (if bt288.2.2.1 < a3 then (if 5 = 0 then (some (bt288.1, bt288.2.1, bt288.2.2.1, bt288.2.2.2.1, 0, true)) else (some (0, 0, 0, (⟨#[]⟩ : ByteArray), 5, false))) else (if bt288.2.2.2.2.1 = 0 then (some (bt288.1, bt288.2.1, bt288.2.2.1, bt288.2.2.2.1, 0, true)) else (some (0, 0, 0, (⟨#[]⟩ : ByteArray), bt288.2.2.2.2.1, false)))) else (if 4 = 0 then (some (bt288.1, bt288.2.1, bt288.2.2.1, bt288.2.2.2.1, 0, true)) else (some (0, 0, 0, (⟨#[]⟩ : ByteArray), 4, false)))) else (if 3 = 0 then (some (bt288.1, bt288.2.1, bt288.2.2.1, bt288.2.2.2.1, 0, true)) else (some (0, 0, 0, (⟨#[]⟩ : ByteArray), 3, false)))) else (if bt288.2.2.2.2.1 = 0 then (some (bt288.1, bt288.2.1, bt288.2.2.1, bt288.2.2.2.1, 0, true)) else (some (0, 0, 0, (⟨#[]⟩ : ByteArray), bt288.2.2.2.2.1, false))))) = some (r1, r2, r3, r4, r5, r6) := h
 clear h
 replace H := Option.bind_eq_some_iff.mp H
 obtain ⟨⟨t288, t289, t290, t291, t292, t293⟩, A50, H⟩ := H
 have A5 := Aside0.mk A50
 clear A50
 by_cases c6 : t293 = true
 ·subst c6
  have H1 : (if t288 = a1 then (if t289 = a2 then (if t290 < a3 then (if 5 = 0 then (some (t288, t289, t290, t291, 0, true)) else (some (0, 0, 0, (⟨#[]⟩ : ByteArray), 5, false))) else (if t292 = 0 then (some (t288, t289, t290, t291, 0, true)) else (some (0, 0, 0, (⟨#[]⟩ : ByteArray), t292, false)))) else (if 4 = 0 then (some (t288, t289, t290, t291, 0, true)) else (some (0, 0, 0, (⟨#[]⟩ : ByteArray), 4, false)))) else (if 3 = 0 then (some (t288, t289, t290, t291, 0, true)) else (some (0, 0, 0, (⟨#[]⟩ : ByteArray), 3, false)))) = some (r1, r2, r3, r4, r5, r6) := by rw [if_pos rfl] at H; exact H
  clear H
  have H := H1
  clear H1
  by_cases c7 : t288 = a1
  ·rw [if_pos c7] at H
   have c7b0 : (t288 == a1) = true := beq_iff_eq.mpr c7
   have c7b1 : (t288 != a1) = false := bne_eq_false_iff_eq.mpr c7
   clear c7
   by_cases c8 : t289 = a2
   ·rw [if_pos c8] at H
    have c8b0 : (t289 == a2) = true := beq_iff_eq.mpr c8
    have c8b1 : (t289 != a2) = false := bne_eq_false_iff_eq.mpr c8
    clear c8
    by_cases c9 : t290 < a3
    ·rw [if_pos c9] at H
     have c9b0 := decide_eq_true c9
     clear c9
     by_cases c10 : 5 = 0
     ·exact absurd c10 (by decide)
     ·rw [if_neg c10] at H
      have c10b0 : (5 == 0) = false := beq_eq_false_iff_ne.mpr c10
      have c10b1 : (5 != 0) = true := bne_iff_ne.mpr c10
      simp only [Option.some.injEq, Prod.mk.injEq] at H
      obtain ⟨rfl, rfl, rfl, rfl, rfl, rfl⟩ := H
      go_enter Try.func112, Try.ntmps112
      go_wp2_with (first | ((with_reducible refine gate_dst (N := 8) rfl ?_); refine boxE 8 #[.int .i64 0, .int .i64 0, .int .i64 0, .string (⟨#[]⟩ : ByteArray)] 102 ?_; intro gb287 hg w17 hbox hb; have BK287 := Aside0.mk (hbox); have GW287 := Aside0.mk ((by rw [hg]; exact (below_size (bez HB.out)) : w.heap.size ≤ gb287)); have GE287 := Aside0.mk ((by rw [hg]; exact (below_size (bez HB.out)) : w.heap.size ≤ gb287)); replace HB := Aside0.mk (below_step (bez HB.out) hb); clear hb hbox hg) | (go_at_call 177; (with_reducible refine (impl_ReadFrame.calls k a0 t288 t289 t290 t291 t292 true _ A5.out).mono ?_); rintro e w18 ⟨rfl, hb⟩; replace BK287 := Aside0.mk (blk_below (g := gb287) (o := .cells #[.int .i64 0, .int .i64 0, .int .i64 0, .string (⟨#[]⟩ : ByteArray)] 102 (0, 0)) (blkd BK287.out) hb); replace HB := Aside0.mk (below_step (bel HB.out) hb); (try clear hb); (try clear hb2); (try clear hk); (try clear hi)) | ((with_reducible refine gate_dst (N := 11) rfl ?_); refine boxE 11 #[.int .i64 0, .int .i64 0, .int .i64 0, .string (⟨#[]⟩ : ByteArray)] 102 ?_; intro gb294 hg w19 hbox hb; have n0_ := Aside0.mk (blk_below (g := gb287) (o := .cells #[.int .i64 0, .int .i64 0, .int .i64 0, .string (⟨#[]⟩ : ByteArray)] 102 (0, 0)) (blkd BK287.out) hb); have n1_ := Aside0.mk (below_step (bel HB.out) hb); have n2_ := Aside0.mk (hbox); have n3_ := Aside0.mk ((by rw [hg]; exact (below_size (bel HB.out)) : w.heap.size ≤ gb294)); have n4_ := Aside0.mk ((by rw [hg]; exact (below_size (bel HB.out)) : w.heap.size ≤ gb294)); have n5_ := Aside0.mk ((by rw [hg]; exact Nat.ne_of_lt (blk_lt (g := gb287) (o := .cells #[.int .i64 0, .int .i64 0, .int .i64 0, .string (⟨#[]⟩ : ByteArray)] 102 (0, 0)) (blkd BK287.out)) : gb287 ≠ gb294)); have n6_ := Aside0.mk ((by rw [hg]; exact Nat.ne_of_gt (blk_lt (g := gb287) (o := .cells #[.int .i64 0, .int .i64 0, .int .i64 0, .string (⟨#[]⟩ : ByteArray)] 102 (0, 0)) (blkd BK287.out)) : gb294 ≠ gb287)); clear BK287; clear HB; have BK287 := n0_; have HB := n1_; have BK294 := n2_; have GW294 := n3_; have GE294 := n4_; have NB287_294 := n5_; have NB294_287 := n6_; clear n0_ n1_ n2_ n3_ n4_ n5_ n6_; clear hb hbox hg; have hnb20 := NB294_287.out; have hnc20 := NB287_294.out; obtain ⟨⟨hcz21_0, hcz21_1, hcz21_2, hcz21_3⟩, hfz21_0, hfz21_1, hfz21_2, hfz21_3⟩ := blk4 BK294.out; obtain ⟨⟨hcz22_0, hcz22_1, hcz22_2, hcz22_3⟩, hfz22_0, hfz22_1, hfz22_2, hfz22_3⟩ := blk4 BK287.out))
      refine bodyPost_ret (results_ctt rfl _ _ gb287 102 #[.int .i64 0, .int .i64 0, .int .i64 0, .string (⟨#[]⟩ : ByteArray)] (0, 0) _ rfl (blkp BK287.out) Try.underlying102 rfl (by kernel_rfl)) rfl ?_
      exact ⟨by first | rfl | simp [*], (bel HB.out)⟩
    ·rw [if_neg c9] at H
     have c9b0 := decide_eq_false c9
     clear c9
     by_cases c23 : t292 = 0
     ·rw [if_pos c23] at H
      have c23b0 : (t292 == 0) = true := beq_iff_eq.mpr c23
      have c23b1 : (t292 != 0) = false := bne_eq_false_iff_eq.mpr c23
      clear c23
      simp only [Option.some.injEq, Prod.mk.injEq] at H
      obtain ⟨rfl, rfl, rfl, rfl, rfl, rfl⟩ := H
      go_enter Try.func112, Try.ntmps112
      go_wp2_with (first | ((with_reducible refine gate_dst (N := 8) rfl ?_); refine boxE 8 #[.int .i64 0, .int .i64 0, .int .i64 0, .string (⟨#[]⟩ : ByteArray)] 102 ?_; intro gb287 hg w24 hbox hb; have BK287 := Aside0.mk (hbox); have GW287 := Aside0.mk ((by rw [hg]; exact (below_size (bez HB.out)) : w.heap.size ≤ gb287)); have GE287 := Aside0.mk ((by rw [hg]; exact (below_size (bez HB.out)) : w.heap.size ≤ gb287)); replace HB := Aside0.mk (below_step (bez HB.out) hb); clear hb hbox hg) | (go_at_call 177; (with_reducible refine (impl_ReadFrame.calls k a0 t288 t289 t290 t291 t292 true _ A5.out).mono ?_); rintro e w25 ⟨rfl, hb⟩; replace BK287 := Aside0.mk (blk_below (g := gb287) (o := .cells #[.int .i64 0, .int .i64 0, .int .i64 0, .string (⟨#[]⟩ : ByteArray)] 102 (0, 0)) (blkd BK287.out) hb); replace HB := Aside0.mk (below_step (bel HB.out) hb); (try clear hb); (try clear hb2); (try clear hk); (try clear hi)) | ((with_reducible refine gate_dst (N := 11) rfl ?_); refine boxE 11 #[.int .i64 0, .int .i64 0, .int .i64 0, .string (⟨#[]⟩ : ByteArray)] 102 ?_; intro gb294 hg w26 hbox hb; have n0_ := Aside0.mk (blk_below (g := gb287) (o := .cells #[.int .i64 0, .int .i64 0, .int .i64 0, .string (⟨#[]⟩ : ByteArray)] 102 (0, 0)) (blkd BK287.out) hb); have n1_ := Aside0.mk (below_step (bel HB.out) hb); have n2_ := Aside0.mk (hbox); have n3_ := Aside0.mk ((by rw [hg]; exact (below_size (bel HB.out)) : w.heap.size ≤ gb294)); have n4_ := Aside0.mk ((by rw [hg]; exact (below_size (bel HB.out)) : w.heap.size ≤ gb294)); have n5_ := Aside0.mk ((by rw [hg]; exact Nat.ne_of_lt (blk_lt (g := gb287) (o := .cells #[.int .i64 0, .int .i64 0, .int .i64 0, .string (⟨#[]⟩ : ByteArray)] 102 (0, 0)) (blkd BK287.out)) : gb287 ≠ gb294)); have n6_ := Aside0.mk ((by rw [hg]; exact Nat.ne_of_gt (blk_lt (g := gb287) (o := .cells #[.int .i64 0, .int .i64 0, .int .i64 0, .string (⟨#[]⟩ : ByteArray)] 102 (0, 0)) (blkd BK287.out)) : gb294 ≠ gb287)); clear BK287; clear HB; have BK287 := n0_; have HB := n1_; have BK294 := n2_; have GW294 := n3_; have GE294 := n4_; have NB287_294 := n5_; have NB294_287 := n6_; clear n0_ n1_ n2_ n3_ n4_ n5_ n6_; clear hb hbox hg; have hnb27 := NB294_287.out; have hnc27 := NB287_294.out; obtain ⟨⟨hcz28_0, hcz28_1, hcz28_2, hcz28_3⟩, hfz28_0, hfz28_1, hfz28_2, hfz28_3⟩ := blk4 BK294.out; obtain ⟨⟨hcz29_0, hcz29_1, hcz29_2, hcz29_3⟩, hfz29_0, hfz29_1, hfz29_2, hfz29_3⟩ := blk4 BK287.out))
      refine bodyPost_ret (results_ctt rfl _ _ gb287 102 #[.int .i64 t288, .int .i64 t289, .int .i64 t290, .string t291] (0, 0) _ rfl (blkp BK287.out) Try.underlying102 rfl (by kernel_rfl)) rfl ?_
      exact ⟨by first | rfl | simp [*], (bel HB.out)⟩
     ·rw [if_neg c23] at H
      have c23b0 : (t292 == 0) = false := beq_eq_false_iff_ne.mpr c23
      have c23b1 : (t292 != 0) = true := bne_iff_ne.mpr c23
      simp only [Option.some.injEq, Prod.mk.injEq] at H
      obtain ⟨rfl, rfl, rfl, rfl, rfl, rfl⟩ := H
      go_enter Try.func112, Try.ntmps112
      go_wp2_with (first | ((with_reducible refine gate_dst (N := 8) rfl ?_); refine boxE 8 #[.int .i64 0, .int .i64 0, .int .i64 0, .string (⟨#[]⟩ : ByteArray)] 102 ?_; intro gb287 hg w30 hbox hb; have BK287 := Aside0.mk (hbox); have GW287 := Aside0.mk ((by rw [hg]; exact (below_size (bez HB.out)) : w.heap.size ≤ gb287)); have GE287 := Aside0.mk ((by rw [hg]; exact (below_size (bez HB.out)) : w.heap.size ≤ gb287)); replace HB := Aside0.mk (below_step (bez HB.out) hb); clear hb hbox hg) | (go_at_call 177; (with_reducible refine (impl_ReadFrame.calls k a0 t288 t289 t290 t291 t292 true _ A5.out).mono ?_); rintro e w31 ⟨rfl, hb⟩; replace BK287 := Aside0.mk (blk_below (g := gb287) (o := .cells #[.int .i64 0, .int .i64 0, .int .i64 0, .string (⟨#[]⟩ : ByteArray)] 102 (0, 0)) (blkd BK287.out) hb); replace HB := Aside0.mk (below_step (bel HB.out) hb); (try clear hb); (try clear hb2); (try clear hk); (try clear hi)) | ((with_reducible refine gate_dst (N := 11) rfl ?_); refine boxE 11 #[.int .i64 0, .int .i64 0, .int .i64 0, .string (⟨#[]⟩ : ByteArray)] 102 ?_; intro gb294 hg w32 hbox hb; have n0_ := Aside0.mk (blk_below (g := gb287) (o := .cells #[.int .i64 0, .int .i64 0, .int .i64 0, .string (⟨#[]⟩ : ByteArray)] 102 (0, 0)) (blkd BK287.out) hb); have n1_ := Aside0.mk (below_step (bel HB.out) hb); have n2_ := Aside0.mk (hbox); have n3_ := Aside0.mk ((by rw [hg]; exact (below_size (bel HB.out)) : w.heap.size ≤ gb294)); have n4_ := Aside0.mk ((by rw [hg]; exact (below_size (bel HB.out)) : w.heap.size ≤ gb294)); have n5_ := Aside0.mk ((by rw [hg]; exact Nat.ne_of_lt (blk_lt (g := gb287) (o := .cells #[.int .i64 0, .int .i64 0, .int .i64 0, .string (⟨#[]⟩ : ByteArray)] 102 (0, 0)) (blkd BK287.out)) : gb287 ≠ gb294)); have n6_ := Aside0.mk ((by rw [hg]; exact Nat.ne_of_gt (blk_lt (g := gb287) (o := .cells #[.int .i64 0, .int .i64 0, .int .i64 0, .string (⟨#[]⟩ : ByteArray)] 102 (0, 0)) (blkd BK287.out)) : gb294 ≠ gb287)); clear BK287; clear HB; have BK287 := n0_; have HB := n1_; have BK294 := n2_; have GW294 := n3_; have GE294 := n4_; have NB287_294 := n5_; have NB294_287 := n6_; clear n0_ n1_ n2_ n3_ n4_ n5_ n6_; clear hb hbox hg; have hnb33 := NB294_287.out; have hnc33 := NB287_294.out; obtain ⟨⟨hcz34_0, hcz34_1, hcz34_2, hcz34_3⟩, hfz34_0, hfz34_1, hfz34_2, hfz34_3⟩ := blk4 BK294.out; obtain ⟨⟨hcz35_0, hcz35_1, hcz35_2, hcz35_3⟩, hfz35_0, hfz35_1, hfz35_2, hfz35_3⟩ := blk4 BK287.out))
      refine bodyPost_ret (results_ctt rfl _ _ gb287 102 #[.int .i64 0, .int .i64 0, .int .i64 0, .string (⟨#[]⟩ : ByteArray)] (0, 0) _ rfl (blkp BK287.out) Try.underlying102 rfl (by kernel_rfl)) rfl ?_
      exact ⟨by first | rfl | simp [*], (bel HB.out)⟩
   ·rw [if_neg c8] at H
    have c8b0 : (t289 == a2) = false := beq_eq_false_iff_ne.mpr c8
    have c8b1 : (t289 != a2) = true := bne_iff_ne.mpr c8
    by_cases c36 : 4 = 0
    ·exact absurd c36 (by decide)
    ·rw [if_neg c36] at H
     have c36b0 : (4 == 0) = false := beq_eq_false_iff_ne.mpr c36
     have c36b1 : (4 != 0) = true := bne_iff_ne.mpr c36
     simp only [Option.some.injEq, Prod.mk.injEq] at H
     obtain ⟨rfl, rfl, rfl, rfl, rfl, rfl⟩ := H
     go_enter Try.func112, Try.ntmps112
     go_wp2_with (first | ((with_reducible refine gate_dst (N := 8) rfl ?_); refine boxE 8 #[.int .i64 0, .int .i64 0, .int .i64 0, .string (⟨#[]⟩ : ByteArray)] 102 ?_; intro gb287 hg w43 hbox hb; have BK287 := Aside0.mk (hbox); have GW287 := Aside0.mk ((by rw [hg]; exact (below_size (bez HB.out)) : w.heap.size ≤ gb287)); have GE287 := Aside0.mk ((by rw [hg]; exact (below_size (bez HB.out)) : w.heap.size ≤ gb287)); replace HB := Aside0.mk (below_step (bez HB.out) hb); clear hb hbox hg) | (go_at_call 177; (with_reducible refine (impl_ReadFrame.calls k a0 t288 t289 t290 t291 t292 true _ A5.out).mono ?_); rintro e w44 ⟨rfl, hb⟩; replace BK287 := Aside0.mk (blk_below (g := gb287) (o := .cells #[.int .i64 0, .int .i64 0, .int .i64 0, .string (⟨#[]⟩ : ByteArray)] 102 (0, 0)) (blkd BK287.out) hb); replace HB := Aside0.mk (below_step (bel HB.out) hb); (try clear hb); (try clear hb2); (try clear hk); (try clear hi)) | ((with_reducible refine gate_dst (N := 11) rfl ?_); refine boxE 11 #[.int .i64 0, .int .i64 0, .int .i64 0, .string (⟨#[]⟩ : ByteArray)] 102 ?_; intro gb294 hg w45 hbox hb; have n0_ := Aside0.mk (blk_below (g := gb287) (o := .cells #[.int .i64 0, .int .i64 0, .int .i64 0, .string (⟨#[]⟩ : ByteArray)] 102 (0, 0)) (blkd BK287.out) hb); have n1_ := Aside0.mk (below_step (bel HB.out) hb); have n2_ := Aside0.mk (hbox); have n3_ := Aside0.mk ((by rw [hg]; exact (below_size (bel HB.out)) : w.heap.size ≤ gb294)); have n4_ := Aside0.mk ((by rw [hg]; exact (below_size (bel HB.out)) : w.heap.size ≤ gb294)); have n5_ := Aside0.mk ((by rw [hg]; exact Nat.ne_of_lt (blk_lt (g := gb287) (o := .cells #[.int .i64 0, .int .i64 0, .int .i64 0, .string (⟨#[]⟩ : ByteArray)] 102 (0, 0)) (blkd BK287.out)) : gb287 ≠ gb294)); have n6_ := Aside0.mk ((by rw [hg]; exact Nat.ne_of_gt (blk_lt (g := gb287) (o := .cells #[.int .i64 0, .int .i64 0, .int .i64 0, .string (⟨#[]⟩ : ByteArray)] 102 (0, 0)) (blkd BK287.out)) : gb294 ≠ gb287)); clear BK287; clear HB; have BK287 := n0_; have HB := n1_; have BK294 := n2_; have GW294 := n3_; have GE294 := n4_; have NB287_294 := n5_; have NB294_287 := n6_; clear n0_ n1_ n2_ n3_ n4_ n5_ n6_; clear hb hbox hg; have hnb46 := NB294_287.out; have hnc46 := NB287_294.out; obtain ⟨⟨hcz47_0, hcz47_1, hcz47_2, hcz47_3⟩, hfz47_0, hfz47_1, hfz47_2, hfz47_3⟩ := blk4 BK294.out; obtain ⟨⟨hcz48_0, hcz48_1, hcz48_2, hcz48_3⟩, hfz48_0, hfz48_1, hfz48_2, hfz48_3⟩ := blk4 BK287.out))
     refine bodyPost_ret (results_ctt rfl _ _ gb287 102 #[.int .i64 0, .int .i64 0, .int .i64 0, .string (⟨#[]⟩ : ByteArray)] (0, 0) _ rfl (blkp BK287.out) Try.underlying102 rfl (by kernel_rfl)) rfl ?_
     exact ⟨by first | rfl | simp [*], (bel HB.out)⟩
  ·rw [if_neg c7] at H
   have c7b0 : (t288 == a1) = false := beq_eq_false_iff_ne.mpr c7
   have c7b1 : (t288 != a1) = true := bne_iff_ne.mpr c7
   by_cases c49 : 3 = 0
   ·exact absurd c49 (by decide)
   ·rw [if_neg c49] at H
    have c49b0 : (3 == 0) = false := beq_eq_false_iff_ne.mpr c49
    have c49b1 : (3 != 0) = true := bne_iff_ne.mpr c49
    simp only [Option.some.injEq, Prod.mk.injEq] at H
    obtain ⟨rfl, rfl, rfl, rfl, rfl, rfl⟩ := H
    go_enter Try.func112, Try.ntmps112
    go_wp2_with (first | ((with_reducible refine gate_dst (N := 8) rfl ?_); refine boxE 8 #[.int .i64 0, .int .i64 0, .int .i64 0, .string (⟨#[]⟩ : ByteArray)] 102 ?_; intro gb287 hg w56 hbox hb; have BK287 := Aside0.mk (hbox); have GW287 := Aside0.mk ((by rw [hg]; exact (below_size (bez HB.out)) : w.heap.size ≤ gb287)); have GE287 := Aside0.mk ((by rw [hg]; exact (below_size (bez HB.out)) : w.heap.size ≤ gb287)); replace HB := Aside0.mk (below_step (bez HB.out) hb); clear hb hbox hg) | (go_at_call 177; (with_reducible refine (impl_ReadFrame.calls k a0 t288 t289 t290 t291 t292 true _ A5.out).mono ?_); rintro e w57 ⟨rfl, hb⟩; replace BK287 := Aside0.mk (blk_below (g := gb287) (o := .cells #[.int .i64 0, .int .i64 0, .int .i64 0, .string (⟨#[]⟩ : ByteArray)] 102 (0, 0)) (blkd BK287.out) hb); replace HB := Aside0.mk (below_step (bel HB.out) hb); (try clear hb); (try clear hb2); (try clear hk); (try clear hi)) | ((with_reducible refine gate_dst (N := 11) rfl ?_); refine boxE 11 #[.int .i64 0, .int .i64 0, .int .i64 0, .string (⟨#[]⟩ : ByteArray)] 102 ?_; intro gb294 hg w58 hbox hb; have n0_ := Aside0.mk (blk_below (g := gb287) (o := .cells #[.int .i64 0, .int .i64 0, .int .i64 0, .string (⟨#[]⟩ : ByteArray)] 102 (0, 0)) (blkd BK287.out) hb); have n1_ := Aside0.mk (below_step (bel HB.out) hb); have n2_ := Aside0.mk (hbox); have n3_ := Aside0.mk ((by rw [hg]; exact (below_size (bel HB.out)) : w.heap.size ≤ gb294)); have n4_ := Aside0.mk ((by rw [hg]; exact (below_size (bel HB.out)) : w.heap.size ≤ gb294)); have n5_ := Aside0.mk ((by rw [hg]; exact Nat.ne_of_lt (blk_lt (g := gb287) (o := .cells #[.int .i64 0, .int .i64 0, .int .i64 0, .string (⟨#[]⟩ : ByteArray)] 102 (0, 0)) (blkd BK287.out)) : gb287 ≠ gb294)); have n6_ := Aside0.mk ((by rw [hg]; exact Nat.ne_of_gt (blk_lt (g := gb287) (o := .cells #[.int .i64 0, .int .i64 0, .int .i64 0, .string (⟨#[]⟩ : ByteArray)] 102 (0, 0)) (blkd BK287.out)) : gb294 ≠ gb287)); clear BK287; clear HB; have BK287 := n0_; have HB := n1_; have BK294 := n2_; have GW294 := n3_; have GE294 := n4_; have NB287_294 := n5_; have NB294_287 := n6_; clear n0_ n1_ n2_ n3_ n4_ n5_ n6_; clear hb hbox hg; have hnb59 := NB294_287.out; have hnc59 := NB287_294.out; obtain ⟨⟨hcz60_0, hcz60_1, hcz60_2, hcz60_3⟩, hfz60_0, hfz60_1, hfz60_2, hfz60_3⟩ := blk4 BK294.out; obtain ⟨⟨hcz61_0, hcz61_1, hcz61_2, hcz61_3⟩, hfz61_0, hfz61_1, hfz61_2, hfz61_3⟩ := blk4 BK287.out))
    refine bodyPost_ret (results_ctt rfl _ _ gb287 102 #[.int .i64 0, .int .i64 0, .int .i64 0, .string (⟨#[]⟩ : ByteArray)] (0, 0) _ rfl (blkp BK287.out) Try.underlying102 rfl (by kernel_rfl)) rfl ?_
    exact ⟨by first | rfl | simp [*], (bel HB.out)⟩
 ·replace c6 := Bool.eq_false_iff.mpr c6
  subst c6
  have H1 : (if t292 = 0 then (some (t288, t289, t290, t291, 0, true)) else (some (0, 0, 0, (⟨#[]⟩ : ByteArray), t292, false))) = some (r1, r2, r3, r4, r5, r6) := by rw [if_neg (show ¬ (false = true) by decide)] at H; exact H
  clear H
  have H := H1
  clear H1
  by_cases c62 : t292 = 0
  ·rw [if_pos c62] at H
   have c62b0 : (t292 == 0) = true := beq_iff_eq.mpr c62
   have c62b1 : (t292 != 0) = false := bne_eq_false_iff_eq.mpr c62
   clear c62
   simp only [Option.some.injEq, Prod.mk.injEq] at H
   obtain ⟨rfl, rfl, rfl, rfl, rfl, rfl⟩ := H
   go_enter Try.func112, Try.ntmps112
   go_wp2_with (first | ((with_reducible refine gate_dst (N := 8) rfl ?_); refine boxE 8 #[.int .i64 0, .int .i64 0, .int .i64 0, .string (⟨#[]⟩ : ByteArray)] 102 ?_; intro gb287 hg w63 hbox hb; have BK287 := Aside0.mk (hbox); have GW287 := Aside0.mk ((by rw [hg]; exact (below_size (bez HB.out)) : w.heap.size ≤ gb287)); have GE287 := Aside0.mk ((by rw [hg]; exact (below_size (bez HB.out)) : w.heap.size ≤ gb287)); replace HB := Aside0.mk (below_step (bez HB.out) hb); clear hb hbox hg) | (go_at_call 177; (with_reducible refine (impl_ReadFrame.calls k a0 t288 t289 t290 t291 t292 false _ A5.out).mono ?_); rintro e w64 ⟨rfl, hb⟩; replace BK287 := Aside0.mk (blk_below (g := gb287) (o := .cells #[.int .i64 0, .int .i64 0, .int .i64 0, .string (⟨#[]⟩ : ByteArray)] 102 (0, 0)) (blkd BK287.out) hb); replace HB := Aside0.mk (below_step (bel HB.out) hb); (try clear hb); (try clear hb2); (try clear hk); (try clear hi)) | ((with_reducible refine gate_dst (N := 11) rfl ?_); refine boxE 11 #[.int .i64 0, .int .i64 0, .int .i64 0, .string (⟨#[]⟩ : ByteArray)] 102 ?_; intro gb294 hg w65 hbox hb; have n0_ := Aside0.mk (blk_below (g := gb287) (o := .cells #[.int .i64 0, .int .i64 0, .int .i64 0, .string (⟨#[]⟩ : ByteArray)] 102 (0, 0)) (blkd BK287.out) hb); have n1_ := Aside0.mk (below_step (bel HB.out) hb); have n2_ := Aside0.mk (hbox); have n3_ := Aside0.mk ((by rw [hg]; exact (below_size (bel HB.out)) : w.heap.size ≤ gb294)); have n4_ := Aside0.mk ((by rw [hg]; exact (below_size (bel HB.out)) : w.heap.size ≤ gb294)); have n5_ := Aside0.mk ((by rw [hg]; exact Nat.ne_of_lt (blk_lt (g := gb287) (o := .cells #[.int .i64 0, .int .i64 0, .int .i64 0, .string (⟨#[]⟩ : ByteArray)] 102 (0, 0)) (blkd BK287.out)) : gb287 ≠ gb294)); have n6_ := Aside0.mk ((by rw [hg]; exact Nat.ne_of_gt (blk_lt (g := gb287) (o := .cells #[.int .i64 0, .int .i64 0, .int .i64 0, .string (⟨#[]⟩ : ByteArray)] 102 (0, 0)) (blkd BK287.out)) : gb294 ≠ gb287)); clear BK287; clear HB; have BK287 := n0_; have HB := n1_; have BK294 := n2_; have GW294 := n3_; have GE294 := n4_; have NB287_294 := n5_; have NB294_287 := n6_; clear n0_ n1_ n2_ n3_ n4_ n5_ n6_; clear hb hbox hg; have hnb66 := NB294_287.out; have hnc66 := NB287_294.out; obtain ⟨⟨hcz67_0, hcz67_1, hcz67_2, hcz67_3⟩, hfz67_0, hfz67_1, hfz67_2, hfz67_3⟩ := blk4 BK294.out; obtain ⟨⟨hcz68_0, hcz68_1, hcz68_2, hcz68_3⟩, hfz68_0, hfz68_1, hfz68_2, hfz68_3⟩ := blk4 BK287.out))
   refine bodyPost_ret (results_ctt rfl _ _ gb287 102 #[.int .i64 t288, .int .i64 t289, .int .i64 t290, .string t291] (0, 0) _ rfl (blkp BK287.out) Try.underlying102 rfl (by kernel_rfl)) rfl ?_
   exact ⟨by first | rfl | simp [*], (bel HB.out)⟩
  ·rw [if_neg c62] at H
   have c62b0 : (t292 == 0) = false := beq_eq_false_iff_ne.mpr c62
   have c62b1 : (t292 != 0) = true := bne_iff_ne.mpr c62
   simp only [Option.some.injEq, Prod.mk.injEq] at H
   obtain ⟨rfl, rfl, rfl, rfl, rfl, rfl⟩ := H
   go_enter Try.func112, Try.ntmps112
   go_wp2_with (first | ((with_reducible refine gate_dst (N := 8) rfl ?_); refine boxE 8 #[.int .i64 0, .int .i64 0, .int .i64 0, .string (⟨#[]⟩ : ByteArray)] 102 ?_; intro gb287 hg w69 hbox hb; have BK287 := Aside0.mk (hbox); have GW287 := Aside0.mk ((by rw [hg]; exact (below_size (bez HB.out)) : w.heap.size ≤ gb287)); have GE287 := Aside0.mk ((by rw [hg]; exact (below_size (bez HB.out)) : w.heap.size ≤ gb287)); replace HB := Aside0.mk (below_step (bez HB.out) hb); clear hb hbox hg) | (go_at_call 177; (with_reducible refine (impl_ReadFrame.calls k a0 t288 t289 t290 t291 t292 false _ A5.out).mono ?_); rintro e w70 ⟨rfl, hb⟩; replace BK287 := Aside0.mk (blk_below (g := gb287) (o := .cells #[.int .i64 0, .int .i64 0, .int .i64 0, .string (⟨#[]⟩ : ByteArray)] 102 (0, 0)) (blkd BK287.out) hb); replace HB := Aside0.mk (below_step (bel HB.out) hb); (try clear hb); (try clear hb2); (try clear hk); (try clear hi)) | ((with_reducible refine gate_dst (N := 11) rfl ?_); refine boxE 11 #[.int .i64 0, .int .i64 0, .int .i64 0, .string (⟨#[]⟩ : ByteArray)] 102 ?_; intro gb294 hg w71 hbox hb; have n0_ := Aside0.mk (blk_below (g := gb287) (o := .cells #[.int .i64 0, .int .i64 0, .int .i64 0, .string (⟨#[]⟩ : ByteArray)] 102 (0, 0)) (blkd BK287.out) hb); have n1_ := Aside0.mk (below_step (bel HB.out) hb); have n2_ := Aside0.mk (hbox); have n3_ := Aside0.mk ((by rw [hg]; exact (below_size (bel HB.out)) : w.heap.size ≤ gb294)); have n4_ := Aside0.mk ((by rw [hg]; exact (below_size (bel HB.out)) : w.heap.size ≤ gb294)); have n5_ := Aside0.mk ((by rw [hg]; exact Nat.ne_of_lt (blk_lt (g := gb287) (o := .cells #[.int .i64 0, .int .i64 0, .int .i64 0, .string (⟨#[]⟩ : ByteArray)] 102 (0, 0)) (blkd BK287.out)) : gb287 ≠ gb294)); have n6_ := Aside0.mk ((by rw [hg]; exact Nat.ne_of_gt (blk_lt (g := gb287) (o := .cells #[.int .i64 0, .int .i64 0, .int .i64 0, .string (⟨#[]⟩ : ByteArray)] 102 (0, 0)) (blkd BK287.out)) : gb294 ≠ gb287)); clear BK287; clear HB; have BK287 := n0_; have HB := n1_; have BK294 := n2_; have GW294 := n3_; have GE294 := n4_; have NB287_294 := n5_; have NB294_287 := n6_; clear n0_ n1_ n2_ n3_ n4_ n5_ n6_; clear hb hbox hg; have hnb72 := NB294_287.out; have hnc72 := NB287_294.out; obtain ⟨⟨hcz73_0, hcz73_1, hcz73_2, hcz73_3⟩, hfz73_0, hfz73_1, hfz73_2, hfz73_3⟩ := blk4 BK294.out; obtain ⟨⟨hcz74_0, hcz74_1, hcz74_2, hcz74_3⟩, hfz74_0, hfz74_1, hfz74_2, hfz74_3⟩ := blk4 BK287.out))
   refine bodyPost_ret (results_ctt rfl _ _ gb287 102 #[.int .i64 0, .int .i64 0, .int .i64 0, .string (⟨#[]⟩ : ByteArray)] (0, 0) _ rfl (blkp BK287.out) Try.underlying102 rfl (by kernel_rfl)) rfl ?_
   exact ⟨by first | rfl | simp [*], (bel HB.out)⟩

/-! ### impl_ReadAll: function 38 -/
def impl_ReadAll.l0 : Nat → Int → Int → Int → List ByteArray → List ByteArray → Int → Int → Option (ByteArray × Int × Bool)
 | 0, _, _, _, _, _, _, _ => none
 | k + 1, x1, x2, x3, x11, x24, x25, x26 => if x26 < x25 then (if 0 ≤ x26 then (if x26 < (x24.length : Int) then ((impl_CheckFrame.f k (rdOf ByteArray.empty x24 x26) x1 (wrap64 (x2 + x26)) x3).bind fun bt300 => (if bt300.2.2.2.2.2 = true then (if x11.length < 8796093022208 then (impl_ReadAll.l0 k x1 x2 x3 (x11 ++ [bt300.2.2.2.1]) x24 x25 (wrap64 (x26 + 1))) else (none)) else (some ((⟨#[]⟩ : ByteArray), bt300.2.2.2.2.1, false)))) else (none)) else (none)) else ((impl_JoinBody.f k x11).bind fun bt310 => (if bt310.2 = true then (some (bt310.1, 0, true)) else (some ((⟨#[]⟩ : ByteArray), 3, false))))
def impl_ReadAll.f (k : Nat) (l0 : List ByteArray) (a1 : Int) (a2 : Int) (a3 : Int) : Option (ByteArray × Int × Bool) := (impl_within.f (l0.length : Int) 1 10).bind fun t295 => (if t295 = true then (impl_ReadAll.l0 k a1 a2 a3 (([] : List ByteArray)) l0 (l0.length : Int) 0) else (some ((⟨#[]⟩ : ByteArray), 0, false)))
set_option maxRecDepth 100000 in
theorem impl_ReadAll.mono_l : ∀ k, (∀ y0 y1 y2 y3 y4 y5 y6, LeO (impl_ReadAll.l0 k y0 y1 y2 y3 y4 y5 y6) (impl_ReadAll.l0 (k + 1) y0 y1 y2 y3 y4 y5 y6))
 | 0 => fun _ _ _ _ _ _ _ r h => by first | (unfold impl_ReadAll.l0 at h; cases h; done) | simp [impl_ReadAll.l0] at h
 | k + 1 => by
  have ih0 := impl_ReadAll.mono_l k
  ·intro y0 y1 y2 y3 y4 y5 y6
   unfold impl_ReadAll.l0
   with_reducible repeat' first | exact ih0 _ _ _ _ _ _ _ | exact impl_CheckFrame.mono _ _ _ _ _ | exact impl_JoinBody.mono _ _ | exact LeO.refl _ | exact LeO.none _ | refine LeO.ite ?_ ?_ | refine LeO.bind ?_ (fun _ => ?_)
theorem impl_ReadAll.mono : ∀ a0 a1 a2 a3 k, LeO (impl_ReadAll.f k a0 a1 a2 a3) (impl_ReadAll.f (k + 1) a0 a1 a2 a3) := by
 intro a0 a1 a2 a3 k
 have ih0 := impl_ReadAll.mono_l k
 unfold impl_ReadAll.f
 with_reducible repeat' first | exact ih0 _ _ _ _ _ _ _ | exact impl_CheckFrame.mono _ _ _ _ _ | exact impl_JoinBody.mono _ _ | exact LeO.refl _ | exact LeO.none _ | refine LeO.ite ?_ ?_ | refine LeO.bind ?_ (fun _ => ?_)
set_option maxHeartbeats 8000000 in
set_option maxRecDepth 100000 in
theorem impl_ReadAll.calls (k : Nat) (A0 : Option Addr) (c0 : Nat) (l0 : List ByteArray) (a1 : Int) (a2 : Int) (a3 : Int) (r1 : ByteArray) (r2 : Int) (r3 : Bool) (w : World) (hr0 : Kd.C Kd.string w A0 l0.length l0) (hc0 : l0.length ≤ c0) (h : impl_ReadAll.f k l0 a1 a2 a3 = some (r1, r2, r3)) :
  Calls Try.prog 38 #[.slice A0 l0.length c0, .int .i64 a1, .int .i64 a2, .int .i64 a3] w fun e w' => e = .returned (.tuple #[.string r1, .int .i64 r2, .bool r3]) ∧ Below w.heap.size w w' := by
 have hu102 := Try.underlying102
 have HR0 := Aside0.mk hr0
 have HC0 := Aside0.mk hc0
 clear hr0 hc0
 have HB := Aside0.mk (Below.refl w.heap.size w)
 have H : ((impl_within.f (l0.length : Int) 1 10).bind fun t295 => (if t295 = true then (impl_ReadAll.l0 k a1 a2 a3 (([] : List ByteArray)) l0 (l0.length : Int) 0) else (some ((⟨#[]⟩ : ByteArray), 0, false)))) = some (r1, r2, r3) := h
 clear h
 replace H := Option.bind_eq_some_iff.mp H
 obtain ⟨t295, A50, H⟩ := H
 have A5 := Aside0.mk A50
 clear A50
 by_cases c6 : t295 = true
 ·subst c6
  have H1 : (impl_ReadAll.l0 k a1 a2 a3 (([] : List ByteArray)) l0 (l0.length : Int) 0) = some (r1, r2, r3) := by rw [if_pos rfl] at H; exact H
  clear H
  have H := H1
  clear H1
  obtain ⟨y296, hy296⟩ : ∃ y_ : List ByteArray, y_ = (([] : List ByteArray)) := ⟨_, rfl⟩
  replace H : (impl_ReadAll.l0 k a1 a2 a3 y296 l0 (l0.length : Int) 0) = some (r1, r2, r3) := by first | (rw [hy296]; with_reducible exact H) | (have H2_ := (Option.bind_some _ _).symm.trans H; rw [hy296]; with_reducible exact H2_) | (have H2_ := (Option.bind_some _ _).symm.trans H; with_reducible exact H2_) | with_reducible exact H | (rw [hy296]; exact H) | exact H
  have Ny296 := Aside0.mk hy296
  clear hy296
  have H' := Aside0.mk H
  clear H
  go_enter Try.func38, Try.ntmps38
  go_wp2_with (first | (go_at_call 99; (with_reducible refine (impl_within.calls (l0.length : Int) 1 10 true _ A5.out).mono ?_); rintro e w' ⟨rfl, ⟨nd, rfl⟩⟩) | ((with_reducible refine gate_dst (N := 23) rfl ?_); refine Kd.R_lit Kd.string _ 9 ?hg (N := 23) ?hd (xs := ([] : List ByteArray)) (inner := []) (ok := fun _ => True) (okp := fun _ => True) ?hr ?hp (fun _ hk => hk) trivial (Below.refl _ _) (Nat.le_refl _) (by simp) ?_; (case hd => rfl); (case hg => rfl); (case hr => first | (go_simp; done) | (go_simp; rfl)); (case hp => exact (Reps.none _ _)); intro v297 w7 ho8 hb hg_ hnew_; clear hg_ hnew_; (first | rw [← Ny296.out] at ho8 | (simp only [Int.reduceToNat] at ho8; rw [← Ny296.out] at ho8)); have HO298 := Aside0.mk (Kd.R_lower ho8 (below_size (bez HB.out))); replace HB := Aside0.mk (below_step (bez HB.out) hb); clear hb ho8))
  go_loopg [11, 26] k (fun kq v11 v26 w' => ∃ (x11_1 : List ByteArray) (x26_1 : Int), v26 = .int .i64 x26_1 ∧ Aside0 (impl_ReadAll.l0 kq a1 a2 a3 x11_1 l0 (l0.length : Int) x26_1 = some (r1, r2, r3)) ∧ Aside0 (kq ≤ k) ∧ Aside0 (Kd.R Kd.string 9 w' w.heap.size (fun _ => True) v11 x11_1) ∧ Aside0 (Below w.heap.size w w'))
  case atStart => exact ⟨(y296), (0), (by first | rfl | simp [*]), H', ⟨Nat.le_refl _⟩, ⟨by (with_reducible repeat (first | apply Kd.R_alloc | apply Kd.R_drewN | apply Kd.R_drew)); exact HO298.out⟩, ⟨(bez HB.out)⟩⟩
  case round =>
   clear H'
   try clear p2; try clear c3; try clear c6
   obtain ⟨x11_1, x26_1, rfl, HA, HK1, HO_11, HB⟩ := hrel
   cases gk with
   | zero => exact absurd HA.out (by first | (unfold impl_ReadAll.l0; exact fun h_ => nomatch h_) | simp [impl_ReadAll.l0])
   | succ k1 =>
    have H := HA.out
    clear HA
    simp only [impl_ReadAll.l0] at H
    by_cases c9 : x26_1 < (l0.length : Int)
    ·rw [if_pos c9] at H
     have c9b0 := decide_eq_true c9
     clear c9
     by_cases c10 : 0 ≤ x26_1
     ·rw [if_pos c10] at H
      have c10b0 := decide_eq_true c10
      clear c10
      by_cases c11 : x26_1 < (l0.length : Int)
      ·rw [if_pos c11] at H
       have c11b0 := decide_eq_true c11
       clear c11
       replace H := Option.bind_eq_some_iff.mp H
       obtain ⟨⟨t300, t301, t302, t303, t304, t305⟩, A120, H⟩ := H
       have A12 := Aside0.mk A120
       clear A120
       by_cases c13 : t305 = true
       ·subst c13
        have H1 : (if x11_1.length < 8796093022208 then (impl_ReadAll.l0 k1 a1 a2 a3 (x11_1 ++ [t303]) l0 (l0.length : Int) (wrap64 (x26_1 + 1))) else (none)) = some (r1, r2, r3) := by rw [if_pos rfl] at H; exact H
        clear H
        have H := H1
        clear H1
        by_cases c14 : x11_1.length < 8796093022208
        ·rw [if_pos c14] at H
         have LMc14 := Aside0.mk c14
         clear c14
         obtain ⟨y307, hy307⟩ : ∃ y_ : List ByteArray, y_ = (x11_1 ++ [t303]) := ⟨_, rfl⟩
         replace H : (impl_ReadAll.l0 k1 a1 a2 a3 y307 l0 (l0.length : Int) (wrap64 (x26_1 + 1))) = some (r1, r2, r3) := by first | (rw [hy307]; with_reducible exact H) | (have H2_ := (Option.bind_some _ _).symm.trans H; rw [hy307]; with_reducible exact H2_) | (have H2_ := (Option.bind_some _ _).symm.trans H; with_reducible exact H2_) | with_reducible exact H | (rw [hy307]; exact H) | exact H
         have Ny307 := Aside0.mk hy307
         clear hy307
         have H' := Aside0.mk H
         clear H
         have p299 : 0 ≤ (x26_1 : Int) := of_decide_eq_true (by assumption)
         have q299 : x26_1 < (l0.length : Int) := of_decide_eq_true (by assumption)
         obtain ⟨ad299, e299, hx299_0⟩ := Kd.at_string HR0.out x26_1 p299 q299
         cases e299
         replace hx299_0 := (HB.out.cell (World.block_lt_of_cell? w _ hx299_0)).trans hx299_0
         replace p299 := eq_true p299
         replace q299 := eq_true q299
         go_wp2_with (first | (go_at_call 112; (with_reducible refine (impl_CheckFrame.calls k1 (rdOf ByteArray.empty l0 x26_1) a1 (wrap64 (a2 + x26_1)) a3 t300 t301 t302 t303 t304 true _ A12.out).mono ?_); rintro e w15 ⟨rfl, hb⟩; replace HO_11 := Aside0.mk (Kd.R_below (kdr HO_11.out) hb); replace HB := Aside0.mk (below_step (bez HB.out) hb); (try clear hb); (try clear hb2); (try clear hk); (try clear hi)) | ((with_reducible refine gate_dst (N := 14) rfl ?_); refine boxE 14 #[.int .i64 0, .int .i64 0, .int .i64 0, .string (⟨#[]⟩ : ByteArray)] 102 ?_; intro gb306 hg w16 hbox hb; replace HO_11 := Aside0.mk (Kd.R_below (kdr HO_11.out) hb); have BK306 := Aside0.mk (hbox); have GW306 := Aside0.mk ((by rw [hg]; exact (below_size (bez HB.out)) : w.heap.size ≤ gb306)); have GE306 := Aside0.mk ((by rw [hg]; exact (below_size (bez HB.out)) : w.heap.size ≤ gb306)); replace HB := Aside0.mk (below_step (bez HB.out) hb); clear hb hbox hg; obtain ⟨⟨hcz17_0, hcz17_1, hcz17_2, hcz17_3⟩, hfz17_0, hfz17_1, hfz17_2, hfz17_3⟩ := blk4 BK306.out) | ((with_reducible refine gate_builtin (b := .append) (xs := #[.tmp 45, .tmp 48]) rfl ?_); at_builtin; refine Kd.R_append Kd.string (w0 := w) w.heap.size rfl (.tmp 45) (.tmp 48) 48 9 (.string ⟨#[]⟩) 16 rfl Try.underlying48 info9 rfl (by decide) (by omega) u11 x11_1 t303 [.string t303] (fun _ => True) (fun _ => False) rfl (by first | (go_simp; done) | (go_simp; rfl)) ?aP (fun _ hk => hk.elim) ?aF ?aO ?aB ?aS ?aL ?_; (case aP => exact rfl); (case aB => exact (bel HB.out)); (case aF => exact (fun _ _ => trivial)); (case aO => exact (by (with_reducible repeat (first | apply Kd.R_alloc | apply Kd.R_drewN | apply Kd.R_drew)); exact Kd.R_mono (Kd.R_far (p := ⟨gb306, 3, none⟩) (Kd.R_far (p := ⟨gb306, 2, none⟩) (Kd.R_far (p := ⟨gb306, 1, none⟩) (Kd.R_far (p := ⟨gb306, 0, none⟩) (Kd.R_types HO_11.out BK306.out (by decide)) (fun _ hk => hk.2) (.int .i64 t300)) (fun _ hk => hk.2) (.int .i64 t301)) (fun _ hk => hk.2) (.int .i64 t302)) (fun _ hk => hk.2) (.string t303)) (fun _ hk => trivial))); (case aS => exact (below_size (bel HB.out))); (case aL => have := LMc14.out; omega); intro v308 w18 ho hb hg hat; rw [← Ny307.out] at ho; replace BK306 := Aside0.mk (blk_grown (g := gb306) (o := .cells #[.int .i64 t300, .int .i64 t301, .int .i64 t302, .string t303] 102 (0, 0)) (blkp BK306.out) hg (Kd.R_ne HO_11.out BK306.out (by decide))); replace HB := Aside0.mk (hb); have HO309 := Aside0.mk (ho); clear HO_11; clear ho hb hg hat))
         go_roundg k1
         case measure => have := HK1.out; omega
         case rel => exact ⟨(y307), (wrap64 (x26_1 + 1)), (by first | rfl | simp [*]), H', ⟨by have := HK1.out; omega⟩, ⟨by (with_reducible repeat (first | apply Kd.R_alloc | apply Kd.R_drewN | apply Kd.R_drew)); exact HO309.out⟩, ⟨(bel HB.out)⟩⟩
        ·rw [if_neg c14] at H
         exact absurd H (by simp)
       ·replace c13 := Bool.eq_false_iff.mpr c13
        subst c13
        have H1 : (some ((⟨#[]⟩ : ByteArray), t304, false)) = some (r1, r2, r3) := by rw [if_neg (show ¬ (false = true) by decide)] at H; exact H
        clear H
        have H := H1
        clear H1
        simp only [Option.some.injEq, Prod.mk.injEq] at H
        obtain ⟨rfl, rfl, rfl⟩ := H
        have p299 : 0 ≤ (x26_1 : Int) := of_decide_eq_true (by assumption)
        have q299 : x26_1 < (l0.length : Int) := of_decide_eq_true (by assumption)
        obtain ⟨ad299, e299, hx299_0⟩ := Kd.at_string HR0.out x26_1 p299 q299
        cases e299
        replace hx299_0 := (HB.out.cell (World.block_lt_of_cell? w _ hx299_0)).trans hx299_0
        replace p299 := eq_true p299
        replace q299 := eq_true q299
        go_wp2_with (first | (go_at_call 112; (with_reducible refine (impl_CheckFrame.calls k1 (rdOf ByteArray.empty l0 x26_1) a1 (wrap64 (a2 + x26_1)) a3 t300 t301 t302 t303 t304 false _ A12.out).mono ?_); rintro e w19 ⟨rfl, hb⟩; replace HO_11 := Aside0.mk (Kd.R_below (kdr HO_11.out) hb); replace HB := Aside0.mk (below_step (bez HB.out) hb); (try clear hb); (try clear hb2); (try clear hk); (try clear hi)) | ((with_reducible refine gate_dst (N := 14) rfl ?_); refine boxE 14 #[.int .i64 0, .int .i64 0, .int .i64 0, .string (⟨#[]⟩ : ByteArray)] 102 ?_; intro gb306 hg w20 hbox hb; replace HO_11 := Aside0.mk (Kd.R_below (kdr HO_11.out) hb); have BK306 := Aside0.mk (hbox); have GW306 := Aside0.mk ((by rw [hg]; exact (below_size (bez HB.out)) : w.heap.size ≤ gb306)); have GE306 := Aside0.mk ((by rw [hg]; exact (below_size (bez HB.out)) : w.heap.size ≤ gb306)); replace HB := Aside0.mk (below_step (bez HB.out) hb); clear hb hbox hg; obtain ⟨⟨hcz21_0, hcz21_1, hcz21_2, hcz21_3⟩, hfz21_0, hfz21_1, hfz21_2, hfz21_3⟩ := blk4 BK306.out))
        go_ret3
        exact ⟨by first | rfl | simp [*], (bel HB.out)⟩
      ·rw [if_neg c11] at H
       exact absurd H (by simp)
     ·rw [if_neg c10] at H
      exact absurd H (by simp)
    ·rw [if_neg c9] at H
     have c9b0 := decide_eq_false c9
     clear c9
     replace H := Option.bind_eq_some_iff.mp H
     obtain ⟨⟨t310, t311⟩, A220, H⟩ := H
     have A22 := Aside0.mk A220
     clear A220
     by_cases c23 : t311 = true
     ·subst c23
      have H1 : (some (t310, 0, true)) = some (r1, r2, r3) := by rw [if_pos rfl] at H; exact H
      clear H
      have H := H1
      clear H1
      simp only [Option.some.injEq, Prod.mk.injEq] at H
      obtain ⟨rfl, rfl, rfl⟩ := H
      obtain ⟨Ao24, co24, eo24⟩ := Kd.R_slice HO_11.out
      subst eo24
      go_wp2_with (first | (go_at_call 43; (with_reducible refine (impl_JoinBody.calls k1 _ _ x11_1 t310 true _ ?side1 ?side2 A22.out).mono ?_); (case side1 => repeat (first | exact (Kd.R_reads' HO_11.out).2.2 | (with_reducible refine Kd.C_alloc ?_ _) | (with_reducible refine Kd.C_drewN ?_ _) | (with_reducible refine Kd.C_drew ?_))); (case side2 => exact (Kd.R_reads' HO_11.out).2.1); rintro e w25 ⟨rfl, hb⟩; replace HO_11 := Aside0.mk (Kd.R_below (kdr HO_11.out) hb); replace HB := Aside0.mk (below_step (bez HB.out) hb); (try clear hb); (try clear hb2); (try clear hk); (try clear hi)))
      go_ret3
      exact ⟨by first | rfl | simp [*], (bez HB.out)⟩
     ·replace c23 := Bool.eq_false_iff.mpr c23
      subst c23
      have H1 : (some ((⟨#[]⟩ : ByteArray), 3, false)) = some (r1, r2, r3) := by rw [if_neg (show ¬ (false = true) by decide)] at H; exact H
      clear H
      have H := H1
      clear H1
      simp only [Option.some.injEq, Prod.mk.injEq] at H
      obtain ⟨rfl, rfl, rfl⟩ := H
      obtain ⟨Ao26, co26, eo26⟩ := Kd.R_slice HO_11.out
      subst eo26
      go_wp2_with (first | (go_at_call 43; (with_reducible refine (impl_JoinBody.calls k1 _ _ x11_1 t310 false _ ?side1 ?side2 A22.out).mono ?_); (case side1 => repeat (first | exact (Kd.R_reads' HO_11.out).2.2 | (with_reducible refine Kd.C_alloc ?_ _) | (with_reducible refine Kd.C_drewN ?_ _) | (with_reducible refine Kd.C_drew ?_))); (case side2 => exact (Kd.R_reads' HO_11.out).2.1); rintro e w27 ⟨rfl, hb⟩; replace HO_11 := Aside0.mk (Kd.R_below (kdr HO_11.out) hb); replace HB := Aside0.mk (below_step (bez HB.out) hb); (try clear hb); (try clear hb2); (try clear hk); (try clear hi)))
      go_ret3
      exact ⟨by first | rfl | simp [*], (bez HB.out)⟩
 ·replace c6 := Bool.eq_false_iff.mpr c6
  subst c6
  have H1 : (some ((⟨#[]⟩ : ByteArray), 0, false)) = some (r1, r2, r3) := by rw [if_neg (show ¬ (false = true) by decide)] at H; exact H
  clear H
  have H := H1
  clear H1
  simp only [Option.some.injEq, Prod.mk.injEq] at H
  obtain ⟨rfl, rfl, rfl⟩ := H
  go_enter Try.func38, Try.ntmps38
  go_wp2_with (first | (go_at_call 99; (with_reducible refine (impl_within.calls (l0.length : Int) 1 10 false _ A5.out).mono ?_); rintro e w' ⟨rfl, ⟨nd, rfl⟩⟩))
  go_ret3
  exact ⟨by first | rfl | simp [*], (bez HB.out)⟩

/-! ### laws_numberOf: function 39 -/
def laws_numberOf.l0 : Nat → Int → List Int → Int → Int → Option (Int)
 | 0, _, _, _, _ => none
 | k + 1, x3, x6, x7, x8 => if x8 < x7 then (if 0 ≤ x8 then (if x8 < (x6.length : Int) then (laws_numberOf.l0 k (Int.tmod (wrap64 ((wrap64 (31 * x3)) + (wrap64 (rd x6 x8)))) 1000003) x6 x7 (wrap64 (x8 + 1))) else (none)) else (none)) else (some x3)
def laws_numberOf.f (k : Nat) (l0 : List Int) : Option (Int) := laws_numberOf.l0 k 0 l0 (l0.length : Int) 0
set_option maxRecDepth 100000 in
theorem laws_numberOf.mono_l : ∀ k, (∀ y0 y1 y2 y3, LeO (laws_numberOf.l0 k y0 y1 y2 y3) (laws_numberOf.l0 (k + 1) y0 y1 y2 y3))
 | 0 => fun _ _ _ _ r h => by first | (unfold laws_numberOf.l0 at h; cases h; done) | simp [laws_numberOf.l0] at h
 | k + 1 => by
  have ih0 := laws_numberOf.mono_l k
  ·intro y0 y1 y2 y3
   unfold laws_numberOf.l0
   with_reducible repeat' first | exact ih0 _ _ _ _ | exact LeO.refl _ | exact LeO.none _ | refine LeO.ite ?_ ?_ | refine LeO.bind ?_ (fun _ => ?_)
theorem laws_numberOf.mono : ∀ a0 k, LeO (laws_numberOf.f k a0) (laws_numberOf.f (k + 1) a0) := by
 intro a0 k
 have ih0 := laws_numberOf.mono_l k
 unfold laws_numberOf.f
 with_reducible repeat' first | exact ih0 _ _ _ _ | exact LeO.refl _ | exact LeO.none _ | refine LeO.ite ?_ ?_ | refine LeO.bind ?_ (fun _ => ?_)
set_option maxHeartbeats 8000000 in
set_option maxRecDepth 100000 in
theorem laws_numberOf.calls (k : Nat) (A0 : Option Addr) (c0 : Nat) (l0 : List Int) (r : Int) (w : World) (hr0 : Kd.C (Kd.int .u8) w A0 l0.length l0) (hc0 : l0.length ≤ c0) (h : laws_numberOf.f k l0 = some r) :
  Calls Try.prog 39 #[.slice A0 l0.length c0] w fun e w' => e = .returned (.int .i64 r) ∧ Drawn0 w w' := by
 have HR0 := Aside0.mk hr0
 have HC0 := Aside0.mk hc0
 clear hr0 hc0
 have H : (laws_numberOf.l0 k 0 l0 (l0.length : Int) 0) = some r := h
 clear h
 have H' := Aside0.mk H
 clear H
 go_enter Try.func39, Try.ntmps39
 go_wp2
 go_loopg [3, 8] k (fun kq v3 v8 w' => ∃ (x3_1 : Int) (x8_1 : Int), v3 = .int .i64 x3_1 ∧ v8 = .int .i64 x8_1 ∧ Aside0 (laws_numberOf.l0 kq x3_1 l0 (l0.length : Int) x8_1 = some r) ∧ Aside0 (kq ≤ k) ∧ Drawn0 w w')
 case atStart => exact ⟨(0), (0), (by first | rfl | simp [*]), (by first | rfl | simp [*]), H', ⟨Nat.le_refl _⟩, by repeat (first | exact Drawn0.refl _ | apply Drawn0.step)⟩
 case round =>
  clear H'
  obtain ⟨x3_1, x8_1, rfl, rfl, HA, HK1, ⟨m1, rfl⟩⟩ := hrel
  cases gk with
  | zero => exact absurd HA.out (by first | (unfold laws_numberOf.l0; exact fun h_ => nomatch h_) | simp [laws_numberOf.l0])
  | succ k1 =>
   have H := HA.out
   clear HA
   simp only [laws_numberOf.l0] at H
   by_cases c2 : x8_1 < (l0.length : Int)
   ·rw [if_pos c2] at H
    have c2b0 := decide_eq_true c2
    clear c2
    by_cases c3 : 0 ≤ x8_1
    ·rw [if_pos c3] at H
     have c3b0 := decide_eq_true c3
     clear c3
     by_cases c4 : x8_1 < (l0.length : Int)
     ·rw [if_pos c4] at H
      have c4b0 := decide_eq_true c4
      clear c4
      have H' := Aside0.mk H
      clear H
      have p312 : 0 ≤ (x8_1 : Int) := of_decide_eq_true (by assumption)
      have q312 : x8_1 < (l0.length : Int) := of_decide_eq_true (by assumption)
      obtain ⟨ad312, e312, hx312_0⟩ := Kd.at_int HR0.out x8_1 p312 q312
      cases e312
      replace p312 := eq_true p312
      replace q312 := eq_true q312
      go_wp2
      go_roundg k1
      case measure => have := HK1.out; omega
      case rel => exact ⟨(Int.tmod (wrap64 ((wrap64 (31 * x3_1)) + (wrap64 (rd l0 x8_1)))) 1000003), (wrap64 (x8_1 + 1)), (by first | rfl | simp [*]), (by first | rfl | simp [*]), H', ⟨by have := HK1.out; omega⟩, by repeat (first | exact Drawn0.refl _ | apply Drawn0.step)⟩
     ·rw [if_neg c4] at H
      exact absurd H (by simp)
    ·rw [if_neg c3] at H
     exact absurd H (by simp)
   ·rw [if_neg c2] at H
    have c2b0 := decide_eq_false c2
    clear c2
    obtain rfl := Option.some.inj H
    go_wp2
    go_ret
    exact ⟨by first | rfl | simp [*], by repeat (first | exact Drawn0.refl _ | apply Drawn0.step)⟩

/-! ### spec_DrawSplitBody: function 40 -/
def spec_DrawSplitBody.f (k : Nat) (l0 : List Int) : Option (ByteArray) := (spec_l1Cur_body.f k l0 0 0).bind fun bt314 => (some bt314.1)
theorem spec_DrawSplitBody.mono : ∀ a0 k, LeO (spec_DrawSplitBody.f k a0) (spec_DrawSplitBody.f (k + 1) a0) := by
 intro a0 k
 unfold spec_DrawSplitBody.f
 with_reducible repeat' first | exact spec_l1Cur_body.mono _ _ _ _ | exact LeO.refl _ | exact LeO.none _ | refine LeO.ite ?_ ?_ | refine LeO.bind ?_ (fun _ => ?_)
set_option maxHeartbeats 8000000 in
set_option maxRecDepth 100000 in
theorem spec_DrawSplitBody.calls (k : Nat) (A0 : Option Addr) (c0 : Nat) (l0 : List Int) (r : ByteArray) (w : World) (hr0 : Kd.C (Kd.int .u8) w A0 l0.length l0) (hc0 : l0.length ≤ c0) (h : spec_DrawSplitBody.f k l0 = some r) :
  Calls Try.prog 40 #[.slice A0 l0.length c0] w fun e w' => e = .returned (.string r) ∧ Below w.heap.size w w' := by
 have hu93 := Try.underlying93
 have HR0 := Aside0.mk hr0
 have HC0 := Aside0.mk hc0
 clear hr0 hc0
 have HB := Aside0.mk (Below.refl w.heap.size w)
 have H : ((spec_l1Cur_body.f k l0 0 0).bind fun bt314 => (some bt314.1)) = some r := h
 clear h
 replace H := Option.bind_eq_some_iff.mp H
 obtain ⟨⟨t314, t315, t316⟩, A20, H⟩ := H
 have A2 := Aside0.mk A20
 clear A20
 obtain rfl := Option.some.inj H
 go_enter Try.func40, Try.ntmps40
 go_wp2_with (first | ((with_reducible refine gate_dst (N := 6) rfl ?_); refine boxE 6 #[.slice A0 l0.length c0, .int .i64 0, .int .u64 0] 93 ?_; intro gb313 hg w3 hbox hb; have HI313 := Aside0.mk ((⟨_, _, hbox, by rw [hg]; exact (below_size (bez HB.out)), HR0.out⟩ : IsS93 w w3 gb313 l0 0 0)); replace HB := Aside0.mk (below_step (bez HB.out) hb); clear hb hbox hg) | (go_at_call 108; (with_reducible refine (spec_l1Cur_body.calls k gb313 l0 0 0 t314 t315 t316 w _ ?side1 ?side2 A2.out).mono ?_); (case side1 => exact (isS93 HI313.out)); (case side2 => exact (belS93 HB.out HI313.out)); rintro e w4 ⟨rfl, hi, hb, hk⟩; replace HB := Aside0.mk (hb); replace HI313 := Aside0.mk (hi); (try clear hb); (try clear hb2); (try clear hk); (try clear hi)))
 go_ret
 exact ⟨by first | rfl | simp [*], (belS93 HB.out HI313.out)⟩

/-! ### spec_DrawJoinBody: function 44 -/
def spec_DrawJoinBody.j0 : Nat → List ByteArray → Bool → List Int → Int → Int → Option (List ByteArray)
 | 0, _, _, _, _, _ => none
 | k + 1, x4, x21, x318000, x318001, x318002 => if x21 = true then ((spec_l1Cur_pick.f x318000 x318001 x318002 (x4.length : Int)).bind fun bt328 => ((spec_l1Cur_of.f x318000 bt328.2.1 bt328.2.2 (([(⟨#[]⟩ : ByteArray), (⟨#[120]⟩ : ByteArray)] : List ByteArray))).bind fun bt334 => (if 0 ≤ bt328.1 then (if bt328.1 < (x4.length : Int) then (some (x4.set (bt328.1 : Int).toNat bt334.1)) else (none)) else (none)))) else (some x4)
def spec_DrawJoinBody.f (k : Nat) (l0 : List Int) : Option (List ByteArray) := (spec_l1Cur_body.f k l0 0 0).bind fun bt318 => ((spec_SplitBody.f k bt318.1).bind fun bt321 => (if (bt321.1.length : Int) > 0 then ((spec_l1Cur_one.f l0 bt318.2.1 bt318.2.2 4).bind fun bt325 => (spec_DrawJoinBody.j0 k bt321.1 bt325.1 l0 bt325.2.1 bt325.2.2)) else (spec_DrawJoinBody.j0 k bt321.1 false l0 bt318.2.1 bt318.2.2)))
set_option maxRecDepth 100000 in
theorem spec_DrawJoinBody.mono_l : ∀ k, (∀ y0 y1 y2 y3 y4, LeO (spec_DrawJoinBody.j0 k y0 y1 y2 y3 y4) (spec_DrawJoinBody.j0 (k + 1) y0 y1 y2 y3 y4))
 | 0 => fun _ _ _ _ _ r h => by first | (unfold spec_DrawJoinBody.j0 at h; cases h; done) | simp [spec_DrawJoinBody.j0] at h
 | k + 1 => by
  have ih0 := spec_DrawJoinBody.mono_l k
  ·intro y0 y1 y2 y3 y4
   unfold spec_DrawJoinBody.j0
   with_reducible repeat' first | exact ih0 _ _ _ _ _ | exact spec_SplitBody.mono _ _ | exact spec_l1Cur_body.mono _ _ _ _ | exact LeO.refl _ | exact LeO.none _ | refine LeO.ite ?_ ?_ | refine LeO.bind ?_ (fun _ => ?_)
theorem spec_DrawJoinBody.mono : ∀ a0 k, LeO (spec_DrawJoinBody.f k a0) (spec_DrawJoinBody.f (k + 1) a0) := by
 intro a0 k
 have ih0 := spec_DrawJoinBody.mono_l k
 unfold spec_DrawJoinBody.f
 with_reducible repeat' first | exact ih0 _ _ _ _ _ | exact spec_SplitBody.mono _ _ | exact spec_l1Cur_body.mono _ _ _ _ | exact LeO.refl _ | exact LeO.none _ | refine LeO.ite ?_ ?_ | refine LeO.bind ?_ (fun _ => ?_)
set_option maxHeartbeats 8000000 in
set_option maxRecDepth 100000 in
theorem spec_DrawJoinBody.calls (k : Nat) (A0 : Option Addr) (c0 : Nat) (l0 : List Int) (r : List ByteArray) (w : World) (hr0 : Kd.C (Kd.int .u8) w A0 l0.length l0) (hc0 : l0.length ≤ c0) (h : spec_DrawJoinBody.f k l0 = some r) :
  Calls Try.prog 44 #[.slice A0 l0.length c0] w fun e w' => ∃ v0_ : Value, e = .returned (v0_) ∧ Kd.R Kd.string 9 w' w.heap.size (fun _ => True) v0_ r ∧ Below w.heap.size w w' := by
 have hu93 := Try.underlying93
 have HR0 := Aside0.mk hr0
 have HC0 := Aside0.mk hc0
 clear hr0 hc0
 have HB := Aside0.mk (Below.refl w.heap.size w)
 have H : ((spec_l1Cur_body.f k l0 0 0).bind fun bt318 => ((spec_SplitBody.f k bt318.1).bind fun bt321 => (if (bt321.1.length : Int) > 0 then ((spec_l1Cur_one.f l0 bt318.2.1 bt318.2.2 4).bind fun bt325 => (spec_DrawJoinBody.j0 k bt321.1 bt325.1 l0 bt325.2.1 bt325.2.2)) else (spec_DrawJoinBody.j0 k bt321.1 false l0 bt318.2.1 bt318.2.2)))) = some r := h
 clear h
 replace H := Option.bind_eq_some_iff.mp H
 obtain ⟨⟨t318, t319, t320⟩, A20, H⟩ := H
 have A2 := Aside0.mk A20
 clear A20
 replace H := Option.bind_eq_some_iff.mp H
 obtain ⟨⟨t321, t322⟩, A30, H⟩ := H
 have A3 := Aside0.mk A30
 clear A30
 have HC4 := Aside0.mk H
 clear H
 go_enter Try.func44, Try.ntmps44
 go_upto_region 3 with (first | ((with_reducible refine gate_dst (N := 8) rfl ?_); refine boxE 8 #[.slice A0 l0.length c0, .int .i64 0, .int .u64 0] 93 ?_; intro gb317 hg w5 hbox hb; have HI317 := Aside0.mk ((⟨_, _, hbox, by rw [hg]; exact (below_size (bel HB.out)), HR0.out⟩ : IsS93 w w5 gb317 l0 0 0)); replace HB := Aside0.mk (below_step (bel HB.out) hb); clear hb hbox hg) | (go_at_call 108; (with_reducible refine (spec_l1Cur_body.calls k gb317 l0 0 0 t318 t319 t320 w _ ?side1 ?side2 A2.out).mono ?_); (case side1 => exact (isT93 HI317.out)); (case side2 => exact (belT93 HB.out HI317.out)); rintro e w6 ⟨rfl, hi, hb, hk⟩; replace HB := Aside0.mk (hb); replace HI317 := Aside0.mk (hi); (try clear hb); (try clear hb2); (try clear hk); (try clear hi)) | (go_at_call 42; (with_reducible refine (spec_SplitBody.calls k t318 t321 t322 _ A3.out).mono ?_); rintro e w7 ⟨v323, rfl, ho0, hb⟩; have HO324 := Aside0.mk (Kd.R_lower ho0 (below_size (belT93 HB.out HI317.out))); replace HB := Aside0.mk (below_step (belT93 HB.out HI317.out) hb); replace HI317 := Aside0.mk (IsS93.below (isT93 HI317.out) hb); (try clear hb); (try clear hb2); (try clear hk); (try clear hi); (try clear ho0)))
 (try simp only [Act.put, List.setIfInBounds_toArray, List.set_cons_zero, List.set_cons_succ])
 go_cut [21] (fun v21 wc => ∃ (kq : Nat) (x21_3 : Bool) (x318001_3 : Int) (x318002_3 : Int), v21 = .bool x21_3 ∧ Aside0 (spec_DrawJoinBody.j0 kq t321 x21_3 l0 x318001_3 x318002_3 = some r) ∧ Aside0 (kq ≤ k) ∧ Aside0 (Kd.R Kd.string 9 wc w.heap.size (fun _ => True) v323 t321) ∧ Aside0 (IsS93 w wc gb317 l0 x318001_3 x318002_3) ∧ Aside0 (Below w.heap.size w wc))
 case first =>
  have H := HC4.out
  clear HC4
  by_cases c8 : (t321.length : Int) > 0
  ·rw [if_pos c8] at H
   have c8b0 := decide_eq_true c8
   have c8b1 : decide (0 < t321.length) = true := decide_eq_true (by omega)
   clear c8
   (first | rw [c8b0] | (simp only [i64_w, i32_w]; rw [c8b0]) | skip)
   replace H := Option.bind_eq_some_iff.mp H
   obtain ⟨⟨t325, t326, t327⟩, A90, H⟩ := H
   have A9 := Aside0.mk A90
   clear A90
   have H' := Aside0.mk H
   clear H
   obtain ⟨Ao10, co10, eo10⟩ := Kd.R_slice HO324.out
   subst eo10
   go_wp2_with (first | (go_at_call 115; (with_reducible refine (spec_l1Cur_one.calls gb317 l0 t319 t320 4 t325 t326 t327 w _ ?side1 ?side2 A9.out).mono ?_); (case side1 => exact (isS93 HI317.out)); (case side2 => exact (belS93 HB.out HI317.out)); rintro e w11 ⟨rfl, hi, hb, hk⟩; replace HO324 := Aside0.mk (Kd.R_mono (Kd.R_keep (IsS93.apart (show IsS93 w _ gb317 l0 t319 t320 from (isS93 HI317.out)) (kdr HO324.out) (by decide)) hk (fun _ h => h.2)) (fun _ h => h.1)); replace HB := Aside0.mk (hb); replace HI317 := Aside0.mk (hi); (try clear hb); (try clear hb2); (try clear hk); (try clear hi)))
   go_meet
   case rel => exact ⟨_, (t325), (t326), (t327), (by first | rfl | simp [*]), H', ⟨by first | omega | exact Nat.le_refl _⟩, ⟨by (with_reducible repeat (first | apply Kd.R_alloc | apply Kd.R_drewN | apply Kd.R_drew)); exact HO324.out⟩, ⟨(isS93 HI317.out)⟩, ⟨(belS93 HB.out HI317.out)⟩⟩
  ·rw [if_neg c8] at H
   have c8b0 := decide_eq_false c8
   have c8b1 : decide (0 < t321.length) = false := decide_eq_false (by omega)
   clear c8
   (first | rw [c8b0] | (simp only [i64_w, i32_w]; rw [c8b0]) | skip)
   have H' := Aside0.mk H
   clear H
   obtain ⟨Ao12, co12, eo12⟩ := Kd.R_slice HO324.out
   subst eo12
   go_wp2
   go_meet
   case rel => exact ⟨_, (false), (t319), (t320), (by first | rfl | simp [*]), H', ⟨by first | omega | exact Nat.le_refl _⟩, ⟨by (with_reducible repeat (first | apply Kd.R_alloc | apply Kd.R_drewN | apply Kd.R_drew)); exact HO324.out⟩, ⟨(isS93 HI317.out)⟩, ⟨(belS93 HB.out HI317.out)⟩⟩
 case rest =>
  clear HC4
  try clear c1; try clear p2; try clear c4; try clear c8; try clear c8b0; try clear c8b1; try clear c10
  obtain ⟨kq, x21_3, x318001_3, x318002_3, rfl, HA, HJ3, HO_4, HI317, HB⟩ := hcut
  cases kq with
  | zero => exact absurd HA.out (by first | (unfold spec_DrawJoinBody.j0; exact fun h_ => nomatch h_) | simp [spec_DrawJoinBody.j0])
  | succ kj3 =>
   have H := HA.out
   clear HA
   simp only [spec_DrawJoinBody.j0] at H
   by_cases c13 : x21_3 = true
   ·subst c13
    have H1 : ((spec_l1Cur_pick.f l0 x318001_3 x318002_3 (t321.length : Int)).bind fun bt328 => ((spec_l1Cur_of.f l0 bt328.2.1 bt328.2.2 (([(⟨#[]⟩ : ByteArray), (⟨#[120]⟩ : ByteArray)] : List ByteArray))).bind fun bt334 => (if 0 ≤ bt328.1 then (if bt328.1 < (t321.length : Int) then (some (t321.set (bt328.1 : Int).toNat bt334.1)) else (none)) else (none)))) = some r := by rw [if_pos rfl] at H; exact H
    clear H
    have H := H1
    clear H1
    replace H := Option.bind_eq_some_iff.mp H
    obtain ⟨⟨t328, t329, t330⟩, A140, H⟩ := H
    have A14 := Aside0.mk A140
    clear A140
    obtain ⟨y331, hy331⟩ : ∃ y_ : List ByteArray, y_ = (([(⟨#[]⟩ : ByteArray), (⟨#[120]⟩ : ByteArray)] : List ByteArray)) := ⟨_, rfl⟩
    replace H : ((spec_l1Cur_of.f l0 t329 t330 y331).bind fun bt334 => (if 0 ≤ t328 then (if t328 < (t321.length : Int) then (some (t321.set (t328 : Int).toNat bt334.1)) else (none)) else (none))) = some r := by first | (rw [hy331]; with_reducible exact H) | (have H2_ := (Option.bind_some _ _).symm.trans H; rw [hy331]; with_reducible exact H2_) | (have H2_ := (Option.bind_some _ _).symm.trans H; with_reducible exact H2_) | with_reducible exact H | (rw [hy331]; exact H) | exact H
    have Ny331 := Aside0.mk hy331
    clear hy331
    replace H := Option.bind_eq_some_iff.mp H
    obtain ⟨⟨t334, t335, t336⟩, A150, H⟩ := H
    have A15 := Aside0.mk A150
    clear A150
    by_cases c16 : 0 ≤ t328
    ·rw [if_pos c16] at H
     have c16b0 := decide_eq_true c16
     clear c16
     by_cases c17 : t328 < (t321.length : Int)
     ·rw [if_pos c17] at H
      have c17b0 := decide_eq_true c17
      clear c17
      obtain ⟨y337, hy337⟩ : ∃ y_ : List ByteArray, y_ = (t321.set (t328 : Int).toNat t334) := ⟨_, rfl⟩
      replace H : (some y337) = some r := by first | (rw [hy337]; with_reducible exact H) | (have H2_ := (Option.bind_some _ _).symm.trans H; rw [hy337]; with_reducible exact H2_) | (have H2_ := (Option.bind_some _ _).symm.trans H; with_reducible exact H2_) | with_reducible exact H | (rw [hy337]; exact H) | exact H
      have Ny337 := Aside0.mk hy337
      clear hy337
      obtain rfl := Option.some.inj H
      obtain ⟨Ao19, co19, eo19⟩ := Kd.R_slice HO_4.out
      subst eo19
      go_wp2_with (first | (go_at_call 90; (with_reducible refine (spec_l1Cur_pick.calls gb317 l0 x318001_3 x318002_3 (t321.length : Int) t328 t329 t330 w _ ?side1 ?side2 A14.out).mono ?_); (case side1 => exact (isS93 HI317.out)); (case side2 => exact (belS93 HB.out HI317.out)); rintro e w20 ⟨rfl, hi, hb, hk⟩; replace HO_4 := Aside0.mk (Kd.R_mono (Kd.R_keep (IsS93.apart (show IsS93 w _ gb317 l0 x318001_3 x318002_3 from (isS93 HI317.out)) (kdr HO_4.out) (by decide)) hk (fun _ h => h.2)) (fun _ h => h.1)); replace HB := Aside0.mk (hb); replace HI317 := Aside0.mk (hi); (try clear hb); (try clear hb2); (try clear hk); (try clear hi)) | ((with_reducible refine gate_dst (N := 28) rfl ?_); refine Kd.R_lit Kd.string _ 9 ?hg (N := 28) ?hd (xs := ([(⟨#[]⟩ : ByteArray), (⟨#[120]⟩ : ByteArray)] : List ByteArray)) (inner := [.string (⟨#[]⟩ : ByteArray), .string (⟨#[120]⟩ : ByteArray)]) (ok := fun _ => True) (okp := fun _ => True) ?hr ?hp (fun _ hk => hk) trivial (Below.refl _ _) (Nat.le_refl _) (by simp) ?_; (case hd => rfl); (case hg => rfl); (case hr => first | (go_simp; done) | (go_simp; rfl)); (case hp => exact (Reps.one (show Kd.M Kd.string _ _ _ (⟨#[]⟩ : ByteArray) [.string (⟨#[]⟩ : ByteArray)] from rfl) (Reps.one (show Kd.M Kd.string _ _ _ (⟨#[120]⟩ : ByteArray) [.string (⟨#[120]⟩ : ByteArray)] from rfl) (Reps.none _ _)))); intro v332 w21 ho22 hb hg_ hnew_; clear hg_ hnew_; (first | rw [← Ny331.out] at ho22 | (simp only [Int.reduceToNat] at ho22; rw [← Ny331.out] at ho22)); have HO333 := Aside0.mk (Kd.R_lower (Kd.R_new' ho22 (Kd.R_lt (kdr HO_4.out))) (below_size (belS93 HB.out HI317.out))); replace HO_4 := Aside0.mk (Kd.R_elder' (kdr HO_4.out) (Kd.R_base ho22) hb); replace HB := Aside0.mk (below_step (belS93 HB.out HI317.out) hb); replace HI317 := Aside0.mk (IsS93.below (isS93 HI317.out) hb); clear hb ho22; obtain ⟨Ao23, co23, eo23⟩ := Kd.R_slice HO333.out; subst eo23) | (go_at_call 116; (with_reducible refine (spec_l1Cur_of.calls gb317 l0 t329 t330 _ _ y331 t334 t335 t336 w _ ?side1 ?side2 ?side3 ?side4 ?side5 A15.out).mono ?_); (case side1 => exact (isS93 HI317.out)); (case side2 => exact (belS93 HB.out HI317.out)); (case side3 => repeat (first | exact (Kd.R_reads' HO333.out).2.2 | (with_reducible refine Kd.C_alloc ?_ _) | (with_reducible refine Kd.C_drewN ?_ _) | (with_reducible refine Kd.C_drew ?_))); (case side4 => exact (Kd.R_reads' HO333.out).2.1); (case side5 => exact far_slice (IsS93.own_ne HI317.out HO333.out (by decide))); rintro e w24 ⟨rfl, hi, hb, hk⟩; replace HO_4 := Aside0.mk (Kd.R_mono (Kd.R_keep (IsS93.apart (show IsS93 w _ gb317 l0 t329 t330 from (isS93 HI317.out)) (kdr HO_4.out) (by decide)) hk (fun _ h => h.2)) (fun _ h => h.1)); replace HO333 := Aside0.mk (Kd.R_mono (Kd.R_keep (IsS93.apart (show IsS93 w _ gb317 l0 t329 t330 from (isS93 HI317.out)) (kdr HO333.out) (by decide)) hk (fun _ h => h.2)) (fun _ h => h.1)); replace HB := Aside0.mk (hb); replace HI317 := Aside0.mk (hi); (try clear hb); (try clear hb2); (try clear hk); (try clear hi); have p18 : 0 ≤ (t328 : Int) := of_decide_eq_true (by assumption); have q18 : (t328 : Int) < ((t321.length : Int) : Int) := of_decide_eq_true (by assumption); obtain ⟨go18, co18, eo18, gb18, gl18, cl18, HG18⟩ := Kd.R_form HO_4.out (by omega); (first | cases eo18 | (injection eo18 with ea_ en_ ec_; (first | subst ea_ | (injection ea_ with ea_; subst ea_)); subst ec_; clear en_)); have GB18 := Aside0.mk gb18; have GG18 := Aside0.mk HG18; clear gb18 gl18 HG18; obtain ⟨hx18_0, hf18_0⟩ := Kd.R_celln (⟨#[]⟩ : ByteArray) HO_4.out (t328 : Int) p18 q18; replace p18 := eq_true p18; replace q18 := eq_true q18; have n_ := Aside0.mk (Kd.R_mono (ok' := (fun k_ => some k_ ≠ (.slice Ao23 y331.length co23 : Value).ownBlock)) HO_4.out (fun k_ hk => hk.2)); clear HO_4; have HO_4 := n_; clear n_; obtain ⟨hy25_, hz25_⟩ := Kd.R_celln (⟨#[]⟩ : ByteArray) HO_4.out (t328 : Int) (of_decide_eq_true (by assumption)) (of_decide_eq_true (by assumption)); have HP25 := Kd.R_putg HO_4.out (t328 : Int) t334) | ((with_reducible refine gate_store (t := 9) (p := 30) rfl ?_); refine store_event (t := 9) (p := 30) (v := ?vo_w26) (w1 := (w24.setCell ⟨go18, (t328 : Int).toNat, none⟩ (.string t334))) ?hg ?ho ?hn ?hr ?_; (case ho => rfl); (case hg => rfl); (case hn => rfl); (case hr => first | (go_simp; done) | (go_simp; rfl)); intro w26 hw; have hg : w24.grownBy w26 (some go18) := (by rw [hw]; exact HP25.2); have hp_ : Kd.R Kd.string 9 w26 w.heap.size (fun k_ => some k_ ≠ (.slice Ao23 y331.length co23 : Value).ownBlock) (.slice (some ⟨go18, 0, none⟩) t321.length co19) y337 := (by rw [hw, Ny337.out]; exact HP25.1); clear HP25; replace HI317 := Aside0.mk (IsS93.grown (isS93 HI317.out) hg (IsS93.own_ne HI317.out HO_4.out (by decide))); replace HO_4 := Aside0.mk (hp_); replace HO333 := Aside0.mk (Kd.R_after (v := (.slice (some ⟨go18, 0, none⟩) t321.length co19)) (v1 := (.slice (some ⟨go18, 0, none⟩) t321.length co19)) (ok := (fun _ => True)) (kdr HO333.out) hg (.inl rfl)); replace HB := Aside0.mk ((by rw [hw]; exact below_set (HB.out) GB18.out : Below w.heap.size w w26)); clear hg hw hp_))
      go_ret
      exact ⟨_, by first | rfl | simp [*], by (with_reducible repeat (first | apply Kd.R_alloc | apply Kd.R_drewN | apply Kd.R_drew)); exact Kd.R_mono HO_4.out (fun _ hk => trivial), (belS93 HB.out HI317.out)⟩
     ·rw [if_neg c17] at H
      exact absurd H (by simp)
    ·rw [if_neg c16] at H
     exact absurd H (by simp)
   ·replace c13 := Bool.eq_false_iff.mpr c13
    subst c13
    have H1 : (some t321) = some r := by rw [if_neg (show ¬ (false = true) by decide)] at H; exact H
    clear H
    have H := H1
    clear H1
    obtain rfl := Option.some.inj H
    go_wp2
    go_ret
    exact ⟨_, by first | rfl | simp [*], by (with_reducible repeat (first | apply Kd.R_alloc | apply Kd.R_drewN | apply Kd.R_drew)); exact HO_4.out, (belS93 HB.out HI317.out)⟩

/-! ### spec_JoinBody: function 45 -/
def spec_JoinBody.l0 : Nat → List ByteArray → ByteArray → List ByteArray → Int → Int → Option (ByteArray × Bool)
 | 0, _, _, _, _, _ => none
 | k + 1, x0, x4, x11, x12, x13 => if x13 < x12 then (if 0 ≤ x13 then (if x13 < (x11.length : Int) then (if (rdOf ByteArray.empty x11 x13).toList = ([] : List UInt8) then (some ((⟨#[]⟩ : ByteArray), false)) else (if ((rdOf ByteArray.empty x11 x13).size : Int) > 16 then (some ((⟨#[]⟩ : ByteArray), false)) else (if x13 < (wrap64 ((x0.length : Int) - 1)) then (if ((rdOf ByteArray.empty x11 x13).size : Int) < 16 then (some ((⟨#[]⟩ : ByteArray), false)) else (if x4.size + (rdOf ByteArray.empty x11 x13).size ≤ 9223372036854775807 then (spec_JoinBody.l0 k x0 (x4 ++ (rdOf ByteArray.empty x11 x13)) x11 x12 (wrap64 (x13 + 1))) else (none))) else (if x4.size + (rdOf ByteArray.empty x11 x13).size ≤ 9223372036854775807 then (spec_JoinBody.l0 k x0 (x4 ++ (rdOf ByteArray.empty x11 x13)) x11 x12 (wrap64 (x13 + 1))) else (none))))) else (none)) else (none)) else (some (x4, true))
def spec_JoinBody.f (k : Nat) (l0 : List ByteArray) : Option (ByteArray × Bool) := (spec_l1In.f (l0.length : Int) 1 10).bind fun t338 => (if t338 = true then (spec_JoinBody.l0 k l0 (⟨#[]⟩ : ByteArray) l0 (l0.length : Int) 0) else (some ((⟨#[]⟩ : ByteArray), false)))
set_option maxRecDepth 100000 in
theorem spec_JoinBody.mono_l : ∀ k, (∀ y0 y1 y2 y3 y4, LeO (spec_JoinBody.l0 k y0 y1 y2 y3 y4) (spec_JoinBody.l0 (k + 1) y0 y1 y2 y3 y4))
 | 0 => fun _ _ _ _ _ r h => by first | (unfold spec_JoinBody.l0 at h; cases h; done) | simp [spec_JoinBody.l0] at h
 | k + 1 => by
  have ih0 := spec_JoinBody.mono_l k
  ·intro y0 y1 y2 y3 y4
   unfold spec_JoinBody.l0
   with_reducible repeat' first | exact ih0 _ _ _ _ _ | exact LeO.refl _ | exact LeO.none _ | refine LeO.ite ?_ ?_ | refine LeO.bind ?_ (fun _ => ?_)
theorem spec_JoinBody.mono : ∀ a0 k, LeO (spec_JoinBody.f k a0) (spec_JoinBody.f (k + 1) a0) := by
 intro a0 k
 have ih0 := spec_JoinBody.mono_l k
 unfold spec_JoinBody.f
 with_reducible repeat' first | exact ih0 _ _ _ _ _ | exact LeO.refl _ | exact LeO.none _ | refine LeO.ite ?_ ?_ | refine LeO.bind ?_ (fun _ => ?_)
set_option maxHeartbeats 8000000 in
set_option maxRecDepth 100000 in
theorem spec_JoinBody.calls (k : Nat) (A0 : Option Addr) (c0 : Nat) (l0 : List ByteArray) (r1 : ByteArray) (r2 : Bool) (w : World) (hr0 : Kd.C Kd.string w A0 l0.length l0) (hc0 : l0.length ≤ c0) (h : spec_JoinBody.f k l0 = some (r1, r2)) :
  Calls Try.prog 45 #[.slice A0 l0.length c0] w fun e w' => e = .returned (.tuple #[.string r1, .bool r2]) ∧ Drawn0 w w' := by
 have HR0 := Aside0.mk hr0
 have HC0 := Aside0.mk hc0
 clear hr0 hc0
 have H : ((spec_l1In.f (l0.length : Int) 1 10).bind fun t338 => (if t338 = true then (spec_JoinBody.l0 k l0 (⟨#[]⟩ : ByteArray) l0 (l0.length : Int) 0) else (some ((⟨#[]⟩ : ByteArray), false)))) = some (r1, r2) := h
 clear h
 replace H := Option.bind_eq_some_iff.mp H
 obtain ⟨t338, A20, H⟩ := H
 have A2 := Aside0.mk A20
 clear A20
 by_cases c3 : t338 = true
 ·subst c3
  have H1 : (spec_JoinBody.l0 k l0 (⟨#[]⟩ : ByteArray) l0 (l0.length : Int) 0) = some (r1, r2) := by rw [if_pos rfl] at H; exact H
  clear H
  have H := H1
  clear H1
  have H' := Aside0.mk H
  clear H
  go_enter Try.func45, Try.ntmps45
  go_wp2_with (first | (go_at_call 105; (with_reducible refine (spec_l1In.calls (l0.length : Int) 1 10 true _ A2.out).mono ?_); rintro e w' ⟨rfl, ⟨nd, rfl⟩⟩))
  go_loopg [4, 13] k (fun kq v4 v13 w' => ∃ (x4_1 : ByteArray) (x13_1 : Int), v4 = .string x4_1 ∧ v13 = .int .i64 x13_1 ∧ Aside0 (spec_JoinBody.l0 kq l0 x4_1 l0 (l0.length : Int) x13_1 = some (r1, r2)) ∧ Aside0 (kq ≤ k) ∧ Drawn0 w w')
  case atStart => exact ⟨((⟨#[]⟩ : ByteArray)), (0), (by first | rfl | simp [*]), (by first | rfl | simp [*]), H', ⟨Nat.le_refl _⟩, by repeat (first | exact Drawn0.refl _ | apply Drawn0.step)⟩
  case round =>
   clear H'
   try clear c1; try clear p2; try clear c3
   obtain ⟨x4_1, x13_1, rfl, rfl, HA, HK1, ⟨m1, rfl⟩⟩ := hrel
   cases gk with
   | zero => exact absurd HA.out (by first | (unfold spec_JoinBody.l0; exact fun h_ => nomatch h_) | simp [spec_JoinBody.l0])
   | succ k1 =>
    have H := HA.out
    clear HA
    simp only [spec_JoinBody.l0] at H
    by_cases c4 : x13_1 < (l0.length : Int)
    ·rw [if_pos c4] at H
     have c4b0 := decide_eq_true c4
     clear c4
     by_cases c5 : 0 ≤ x13_1
     ·rw [if_pos c5] at H
      have c5b0 := decide_eq_true c5
      clear c5
      by_cases c6 : x13_1 < (l0.length : Int)
      ·rw [if_pos c6] at H
       have c6b0 := decide_eq_true c6
       clear c6
       by_cases c7 : (rdOf ByteArray.empty l0 x13_1).toList = ([] : List UInt8)
       ·rw [if_pos c7] at H
        have c7b0 : ((rdOf ByteArray.empty l0 x13_1).toList == ([] : List UInt8)) = true := beq_iff_eq.mpr c7
        have c7b1 : ((rdOf ByteArray.empty l0 x13_1).toList != ([] : List UInt8)) = false := bne_eq_false_iff_eq.mpr c7
        clear c7
        simp only [Option.some.injEq, Prod.mk.injEq] at H
        obtain ⟨rfl, rfl⟩ := H
        have p339 : 0 ≤ (x13_1 : Int) := of_decide_eq_true (by assumption)
        have q339 : x13_1 < (l0.length : Int) := of_decide_eq_true (by assumption)
        obtain ⟨ad339, e339, hx339_0⟩ := Kd.at_string HR0.out x13_1 p339 q339
        cases e339
        replace p339 := eq_true p339
        replace q339 := eq_true q339
        go_wp2
        go_ret2
        exact ⟨by first | rfl | simp [*], by repeat (first | exact Drawn0.refl _ | apply Drawn0.step)⟩
       ·rw [if_neg c7] at H
        have c7b0 : ((rdOf ByteArray.empty l0 x13_1).toList == ([] : List UInt8)) = false := beq_eq_false_iff_ne.mpr c7
        have c7b1 : ((rdOf ByteArray.empty l0 x13_1).toList != ([] : List UInt8)) = true := bne_iff_ne.mpr c7
        by_cases c8 : ((rdOf ByteArray.empty l0 x13_1).size : Int) > 16
        ·rw [if_pos c8] at H
         have c8b0 := decide_eq_true c8
         have c8b1 : decide (16 < (rdOf ByteArray.empty l0 x13_1).size) = true := decide_eq_true (by omega)
         clear c8
         simp only [Option.some.injEq, Prod.mk.injEq] at H
         obtain ⟨rfl, rfl⟩ := H
         have p339 : 0 ≤ (x13_1 : Int) := of_decide_eq_true (by assumption)
         have q339 : x13_1 < (l0.length : Int) := of_decide_eq_true (by assumption)
         obtain ⟨ad339, e339, hx339_0⟩ := Kd.at_string HR0.out x13_1 p339 q339
         cases e339
         replace p339 := eq_true p339
         replace q339 := eq_true q339
         go_wp2
         go_ret2
         exact ⟨by first | rfl | simp [*], by repeat (first | exact Drawn0.refl _ | apply Drawn0.step)⟩
        ·rw [if_neg c8] at H
         have c8b0 := decide_eq_false c8
         have c8b1 : decide (16 < (rdOf ByteArray.empty l0 x13_1).size) = false := decide_eq_false (by omega)
         clear c8
         by_cases c9 : x13_1 < (wrap64 ((l0.length : Int) - 1))
         ·rw [if_pos c9] at H
          have c9b0 := decide_eq_true c9
          clear c9
          by_cases c10 : ((rdOf ByteArray.empty l0 x13_1).size : Int) < 16
          ·rw [if_pos c10] at H
           have c10b0 := decide_eq_true c10
           have c10b1 : decide ((rdOf ByteArray.empty l0 x13_1).size < 16) = true := decide_eq_true (by omega)
           clear c10
           simp only [Option.some.injEq, Prod.mk.injEq] at H
           obtain ⟨rfl, rfl⟩ := H
           have p339 : 0 ≤ (x13_1 : Int) := of_decide_eq_true (by assumption)
           have q339 : x13_1 < (l0.length : Int) := of_decide_eq_true (by assumption)
           obtain ⟨ad339, e339, hx339_0⟩ := Kd.at_string HR0.out x13_1 p339 q339
           cases e339
           replace p339 := eq_true p339
           replace q339 := eq_true q339
           go_wp2
           go_ret2
           exact ⟨by first | rfl | simp [*], by repeat (first | exact Drawn0.refl _ | apply Drawn0.step)⟩
          ·rw [if_neg c10] at H
           have c10b0 := decide_eq_false c10
           have c10b1 : decide ((rdOf ByteArray.empty l0 x13_1).size < 16) = false := decide_eq_false (by omega)
           clear c10
           by_cases c11 : x4_1.size + (rdOf ByteArray.empty l0 x13_1).size ≤ 9223372036854775807
           ·rw [if_pos c11] at H
            have c11b0 := eq_true c11
            have c11b1 := decide_eq_true c11
            try have c11b2 : (9223372036854775807 < x4_1.size + (rdOf ByteArray.empty l0 x13_1).size) = False := eq_false (Nat.not_lt.2 c11)
            have H' := Aside0.mk H
            clear H
            have p339 : 0 ≤ (x13_1 : Int) := of_decide_eq_true (by assumption)
            have q339 : x13_1 < (l0.length : Int) := of_decide_eq_true (by assumption)
            obtain ⟨ad339, e339, hx339_0⟩ := Kd.at_string HR0.out x13_1 p339 q339
            cases e339
            replace p339 := eq_true p339
            replace q339 := eq_true q339
            go_wp2
            go_roundg k1
            case measure => have := HK1.out; omega
            case rel => exact ⟨(x4_1 ++ (rdOf ByteArray.empty l0 x13_1)), (wrap64 (x13_1 + 1)), (by first | rfl | simp [*]), (by first | rfl | simp [*]), H', ⟨by have := HK1.out; omega⟩, by repeat (first | exact Drawn0.refl _ | apply Drawn0.step)⟩
           ·rw [if_neg c11] at H
            exact absurd H (by simp)
         ·rw [if_neg c9] at H
          have c9b0 := decide_eq_false c9
          clear c9
          by_cases c12 : x4_1.size + (rdOf ByteArray.empty l0 x13_1).size ≤ 9223372036854775807
          ·rw [if_pos c12] at H
           have c12b0 := eq_true c12
           have c12b1 := decide_eq_true c12
           try have c12b2 : (9223372036854775807 < x4_1.size + (rdOf ByteArray.empty l0 x13_1).size) = False := eq_false (Nat.not_lt.2 c12)
           have H' := Aside0.mk H
           clear H
           have p339 : 0 ≤ (x13_1 : Int) := of_decide_eq_true (by assumption)
           have q339 : x13_1 < (l0.length : Int) := of_decide_eq_true (by assumption)
           obtain ⟨ad339, e339, hx339_0⟩ := Kd.at_string HR0.out x13_1 p339 q339
           cases e339
           replace p339 := eq_true p339
           replace q339 := eq_true q339
           go_wp2
           go_roundg k1
           case measure => have := HK1.out; omega
           case rel => exact ⟨(x4_1 ++ (rdOf ByteArray.empty l0 x13_1)), (wrap64 (x13_1 + 1)), (by first | rfl | simp [*]), (by first | rfl | simp [*]), H', ⟨by have := HK1.out; omega⟩, by repeat (first | exact Drawn0.refl _ | apply Drawn0.step)⟩
          ·rw [if_neg c12] at H
           exact absurd H (by simp)
      ·rw [if_neg c6] at H
       exact absurd H (by simp)
     ·rw [if_neg c5] at H
      exact absurd H (by simp)
    ·rw [if_neg c4] at H
     have c4b0 := decide_eq_false c4
     clear c4
     simp only [Option.some.injEq, Prod.mk.injEq] at H
     obtain ⟨rfl, rfl⟩ := H
     go_wp2
     go_ret2
     exact ⟨by first | rfl | simp [*], by repeat (first | exact Drawn0.refl _ | apply Drawn0.step)⟩
 ·replace c3 := Bool.eq_false_iff.mpr c3
  subst c3
  have H1 : (some ((⟨#[]⟩ : ByteArray), false)) = some (r1, r2) := by rw [if_neg (show ¬ (false = true) by decide)] at H; exact H
  clear H
  have H := H1
  clear H1
  simp only [Option.some.injEq, Prod.mk.injEq] at H
  obtain ⟨rfl, rfl⟩ := H
  go_enter Try.func45, Try.ntmps45
  go_wp2_with (first | (go_at_call 105; (with_reducible refine (spec_l1In.calls (l0.length : Int) 1 10 false _ A2.out).mono ?_); rintro e w' ⟨rfl, ⟨nd, rfl⟩⟩))
  go_ret2
  exact ⟨by first | rfl | simp [*], by repeat (first | exact Drawn0.refl _ | apply Drawn0.step)⟩

end Go.Proofs.Ytldlldfoaicjcaa.MFnBodies
-- SHRUNK
