/- The machine's side of FnBodies, written by this session's program out of the kit's print of the program, with contracts of this session's own. No conditions beyond those typed. -/
import Derived.Test.YtldlldfoaicjcaaMFnBodiesx0
import Derived.Test.YtldlldfoaicjcaaMFnBodiesx2
import Derived.Laws.DeepStrings4
namespace Go.Proofs.Ytldlldfoaicjcaa.MFnBodies
open Go.RowKit Go.Proofs.YtldlldfoaicjcaaW.PrintWords Go.Proofs.YtldlldfoaicjcaaW.PrintLast Go.Proofs.YtldlldfoaicjcaaW.PrintMore
attribute [local go_sem] max2_int min2_int max_two min_two max_three min_three max_four min_four   -- for this text's walks alone
set_option linter.unusedVariables false
set_option linter.unusedSimpArgs false

/-! ### impl_ReadFrame: function 177 -/
def impl_ReadFrame.f (k : Nat) (a0 : ByteArray) : Option (Int × Int × Int × ByteArray × Int × Bool) := if (a0.size : Int) = 28 then (if 0 ≤ 24 then (if 24 ≤ (a0.size : Int) then ((impl_sumOn.f k 0 (a0.extract 0 24)).bind fun t280 => (if (a0.extract 24 a0.size).toList = (strOfNums (([(t280) % 256, (t280 / 256) % 256, (t280 / 65536) % 256, (t280 / 16777216) % 256] : List Int))).toList then (if 0 < (a0.size : Int) then (if 1 < (a0.size : Int) then (if 2 < (a0.size : Int) then (if 3 < (a0.size : Int) then (if 4 < (a0.size : Int) then (if 5 < (a0.size : Int) then (if 6 ≤ (wrap64 (6 + (mn 16 (wrap64 (bt a0 5))))) then (if (wrap64 (6 + (mn 16 (wrap64 (bt a0 5))))) ≤ (a0.size : Int) then ((impl_GoodFrame.f (wrap64 (bt a0 0)) (Go.bits .or .i64 (wrap64 ((wrap64 (bt a0 1)) * 256)) (wrap64 (bt a0 2))) (Go.bits .or .i64 (wrap64 ((wrap64 (bt a0 3)) * 256)) (wrap64 (bt a0 4))) (a0.extract 6 ((wrap64 (6 + (mn 16 (wrap64 (bt a0 5))))) : Int).toNat)).bind fun t285 => (if t285 = true then ((impl_frameBytes.f k (wrap64 (bt a0 0)) (Go.bits .or .i64 (wrap64 ((wrap64 (bt a0 1)) * 256)) (wrap64 (bt a0 2))) (Go.bits .or .i64 (wrap64 ((wrap64 (bt a0 3)) * 256)) (wrap64 (bt a0 4))) (a0.extract 6 ((wrap64 (6 + (mn 16 (wrap64 (bt a0 5))))) : Int).toNat)).bind fun t286 => (if t286.toList = a0.toList then (some (wrap64 (bt a0 0), Go.bits .or .i64 (wrap64 ((wrap64 (bt a0 1)) * 256)) (wrap64 (bt a0 2)), Go.bits .or .i64 (wrap64 ((wrap64 (bt a0 3)) * 256)) (wrap64 (bt a0 4)), a0.extract 6 ((wrap64 (6 + (mn 16 (wrap64 (bt a0 5))))) : Int).toNat, 0, true)) else (some (0, 0, 0, (⟨#[]⟩ : ByteArray), 3, false)))) else (some (0, 0, 0, (⟨#[]⟩ : ByteArray), 3, false)))) else (none)) else (none)) else (none)) else (none)) else (none)) else (none)) else (none)) else (none)) else (some (0, 0, 0, (⟨#[]⟩ : ByteArray), 2, false)))) else (none)) else (none)) else (some (0, 0, 0, (⟨#[]⟩ : ByteArray), 1, false))
theorem impl_ReadFrame.mono : ∀ a0 k, LeO (impl_ReadFrame.f k a0) (impl_ReadFrame.f (k + 1) a0) := by
 intro a0 k
 unfold impl_ReadFrame.f
 with_reducible repeat' first | exact impl_frameBytes.mono _ _ _ _ _ | exact impl_sumOn.mono _ _ _ | exact LeO.refl _ | exact LeO.none _ | refine LeO.ite ?_ ?_ | refine LeO.bind ?_ (fun _ => ?_)
def impl_ReadFrame.T4 : Bool × List (List Nat × List Nat) := (true, [([], []), ([0], [0]), ([], []), ([2], [2]), ([], []), ([4], [4]), ([5], [5]), ([], []), ([7], [7]), ([8], [8]), ([], []), ([10], [10]), ([11], [11]), ([3, 6, 9, 12], [3, 6, 9, 12]), ([13], [13]), ([1, 14], [1, 14])])
def impl_ReadFrame.B4 : List Nat := [0, 1, 0, 4, 0, 16, 48, 0, 128, 384, 0, 1024, 3072, 8188, 16380, 32767]
theorem impl_ReadFrame.tab4 : rtab .any (opsOf Try.f177 4) = impl_ReadFrame.T4 := by kernel_rfl
theorem impl_ReadFrame.bits4 : waitsOk impl_ReadFrame.T4.2 impl_ReadFrame.B4 = true := by kernel_rfl
def impl_ReadFrame.T6 : Bool × List (List Nat × List Nat) := (true, [([], []), ([0], [0]), ([1], [1]), ([], []), ([3], [3]), ([4], [4]), ([5], [5]), ([], []), ([7], [7]), ([8], [8]), ([6, 9], [6, 9]), ([], []), ([11], [11]), ([12], [12]), ([13], [13]), ([], []), ([15], [15]), ([16], [16]), ([14, 17], [14, 17]), ([2, 10, 18], [2, 10, 18]), ([], []), ([20, 19, 0, 1, 2, 3, 4, 5, 6, 7, 8, 9, 10, 11, 12, 13, 14, 15, 16, 17, 18, 19, 20], [19, 20])])
def impl_ReadFrame.B6 : List Nat := [0, 1, 3, 0, 8, 24, 56, 0, 128, 384, 1016, 0, 2048, 6144, 14336, 0, 32768, 98304, 260096, 524287, 0, 2097151]
theorem impl_ReadFrame.tab6 : rtab .any (opsOf Try.f177 6) = impl_ReadFrame.T6 := by kernel_rfl
theorem impl_ReadFrame.bits6 : waitsOk impl_ReadFrame.T6.2 impl_ReadFrame.B6 = true := by kernel_rfl
set_option maxHeartbeats 8000000 in
set_option maxRecDepth 100000 in
theorem impl_ReadFrame.calls (k : Nat) (a0 : ByteArray) (r1 : Int) (r2 : Int) (r3 : Int) (r4 : ByteArray) (r5 : Int) (r6 : Bool) (w : World) (h : impl_ReadFrame.f k a0 = some (r1, r2, r3, r4, r5, r6)) :
  Calls Try.prog 177 #[.string a0] w fun e w' => e = .returned (.tuple #[.agg #[.int .i64 r1, .int .i64 r2, .int .i64 r3, .string r4], .int .i64 r5, .bool r6]) ∧ Below w.heap.size w w' := by
 have hu102 := Try.underlying102
 have HB := Aside0.mk (Below.refl w.heap.size w)
 have H : (if (a0.size : Int) = 28 then (if 0 ≤ 24 then (if 24 ≤ (a0.size : Int) then ((impl_sumOn.f k 0 (a0.extract 0 24)).bind fun t280 => (if (a0.extract 24 a0.size).toList = (strOfNums (([(t280) % 256, (t280 / 256) % 256, (t280 / 65536) % 256, (t280 / 16777216) % 256] : List Int))).toList then (if 0 < (a0.size : Int) then (if 1 < (a0.size : Int) then (if 2 < (a0.size : Int) then (if 3 < (a0.size : Int) then (if 4 < (a0.size : Int) then (if 5 < (a0.size : Int) then (if 6 ≤ (wrap64 (6 + (mn 16 (wrap64 (bt a0 5))))) then (if (wrap64 (6 + (mn 16 (wrap64 (bt a0 5))))) ≤ (a0.size : Int) then ((impl_GoodFrame.f (wrap64 (bt a0 0)) (Go.bits .or .i64 (wrap64 ((wrap64 (bt a0 1)) * 256)) (wrap64 (bt a0 2))) (Go.bits .or .i64 (wrap64 ((wrap64 (bt a0 3)) * 256)) (wrap64 (bt a0 4))) (a0.extract 6 ((wrap64 (6 + (mn 16 (wrap64 (bt a0 5))))) : Int).toNat)).bind fun t285 => (if t285 = true then ((impl_frameBytes.f k (wrap64 (bt a0 0)) (Go.bits .or .i64 (wrap64 ((wrap64 (bt a0 1)) * 256)) (wrap64 (bt a0 2))) (Go.bits .or .i64 (wrap64 ((wrap64 (bt a0 3)) * 256)) (wrap64 (bt a0 4))) (a0.extract 6 ((wrap64 (6 + (mn 16 (wrap64 (bt a0 5))))) : Int).toNat)).bind fun t286 => (if t286.toList = a0.toList then (some (wrap64 (bt a0 0), Go.bits .or .i64 (wrap64 ((wrap64 (bt a0 1)) * 256)) (wrap64 (bt a0 2)), Go.bits .or .i64 (wrap64 ((wrap64 (bt a0 3)) * 256)) (wrap64 (bt a0 4)), a0.extract 6 ((wrap64 (6 + (mn 16 (wrap64 (bt a0 5))))) : Int).toNat, 0, true)) else (some (0, 0, 0, (⟨#[]⟩ : ByteArray), 3, false)))) else (some (0, 0, 0, (⟨#[]⟩ : ByteArray), 3, false)))) else (none)) else (none)) else (none)) else (none)) else (none)) else (none)) else (none)) else (none)) else (some (0, 0, 0, (⟨#[]⟩ : ByteArray), 2, false)))) else (none)) else (none)) else (some (0, 0, 0, (⟨#[]⟩ : ByteArray), 1, false))) = some (r1, r2, r3, r4, r5, r6) := h
 clear h
 by_cases c2 : (a0.size : Int) = 28
 ·rw [if_pos c2] at H
  have c2b0 : ((a0.size : Int) == 28) = true := beq_iff_eq.mpr c2
  have c2b1 : ((a0.size : Int) != 28) = false := bne_eq_false_iff_eq.mpr c2
  clear c2
  by_cases c3 : 0 ≤ 24
  ·rw [if_pos c3] at H
   have c3b0 := eq_true c3
   have c3b1 := decide_eq_true c3
   clear c3
   by_cases c4 : 24 ≤ (a0.size : Int)
   ·rw [if_pos c4] at H
    have c4b0 := eq_true c4
    have c4b1 := decide_eq_true c4
    clear c4
    replace H := Option.bind_eq_some_iff.mp H
    obtain ⟨t280, A50, H⟩ := H
    have A5 := Aside0.mk A50
    clear A50
    have c6b0 := eq_true (of_decide_eq_true (by assumption) : 24 ≤ (a0.size : Int))
    obtain ⟨y281, hy281⟩ : ∃ y_ : List Int, y_ = (([(t280) % 256, (t280 / 256) % 256, (t280 / 65536) % 256, (t280 / 16777216) % 256] : List Int)) := ⟨_, rfl⟩
    replace H : (if (a0.extract 24 a0.size).toList = (strOfNums y281).toList then (if 0 < (a0.size : Int) then (if 1 < (a0.size : Int) then (if 2 < (a0.size : Int) then (if 3 < (a0.size : Int) then (if 4 < (a0.size : Int) then (if 5 < (a0.size : Int) then (if 6 ≤ (wrap64 (6 + (mn 16 (wrap64 (bt a0 5))))) then (if (wrap64 (6 + (mn 16 (wrap64 (bt a0 5))))) ≤ (a0.size : Int) then ((impl_GoodFrame.f (wrap64 (bt a0 0)) (Go.bits .or .i64 (wrap64 ((wrap64 (bt a0 1)) * 256)) (wrap64 (bt a0 2))) (Go.bits .or .i64 (wrap64 ((wrap64 (bt a0 3)) * 256)) (wrap64 (bt a0 4))) (a0.extract 6 ((wrap64 (6 + (mn 16 (wrap64 (bt a0 5))))) : Int).toNat)).bind fun t285 => (if t285 = true then ((impl_frameBytes.f k (wrap64 (bt a0 0)) (Go.bits .or .i64 (wrap64 ((wrap64 (bt a0 1)) * 256)) (wrap64 (bt a0 2))) (Go.bits .or .i64 (wrap64 ((wrap64 (bt a0 3)) * 256)) (wrap64 (bt a0 4))) (a0.extract 6 ((wrap64 (6 + (mn 16 (wrap64 (bt a0 5))))) : Int).toNat)).bind fun t286 => (if t286.toList = a0.toList then (some (wrap64 (bt a0 0), Go.bits .or .i64 (wrap64 ((wrap64 (bt a0 1)) * 256)) (wrap64 (bt a0 2)), Go.bits .or .i64 (wrap64 ((wrap64 (bt a0 3)) * 256)) (wrap64 (bt a0 4)), a0.extract 6 ((wrap64 (6 + (mn 16 (wrap64 (bt a0 5))))) : Int).toNat, 0, true)) else (some (0, 0, 0, (⟨#[]⟩ : ByteArray), 3, false)))) else (some (0, 0, 0, (⟨#[]⟩ : ByteArray), 3, false)))) else (none)) else (none)) else (none)) else (none)) else (none)) else (none)) else (none)) else (none)) else (some (0, 0, 0, (⟨#[]⟩ : ByteArray), 2, false))) = some (r1, r2, r3, r4, r5, r6) := by first | (rw [hy281]; with_reducible exact H) | (have H2_ := (Option.bind_some _ _).symm.trans H; rw [hy281]; with_reducible exact H2_) | (have H2_ := (Option.bind_some _ _).symm.trans H; with_reducible exact H2_) | with_reducible exact H | (rw [hy281]; exact H) | exact H
    have Ny281 := Aside0.mk hy281
    clear hy281
    by_cases c7 : (a0.extract 24 a0.size).toList = (strOfNums y281).toList
    ·rw [if_pos c7] at H
     have c7b0 : ((a0.extract 24 a0.size).toList == (strOfNums y281).toList) = true := beq_iff_eq.mpr c7
     have c7b1 : ((a0.extract 24 a0.size).toList != (strOfNums y281).toList) = false := bne_eq_false_iff_eq.mpr c7
     clear c7
     by_cases c8 : 0 < (a0.size : Int)
     ·rw [if_pos c8] at H
      have c8b0 := decide_eq_true c8
      have c8b1 : decide (0 < a0.size) = true := decide_eq_true (by omega)
      clear c8
      by_cases c10 : 1 < (a0.size : Int)
      ·rw [if_pos c10] at H
       have c10b0 := decide_eq_true c10
       have c10b1 : decide (1 < a0.size) = true := decide_eq_true (by omega)
       clear c10
       by_cases c12 : 2 < (a0.size : Int)
       ·rw [if_pos c12] at H
        have c12b0 := decide_eq_true c12
        have c12b1 : decide (2 < a0.size) = true := decide_eq_true (by omega)
        clear c12
        by_cases c14 : 3 < (a0.size : Int)
        ·rw [if_pos c14] at H
         have c14b0 := decide_eq_true c14
         have c14b1 : decide (3 < a0.size) = true := decide_eq_true (by omega)
         clear c14
         by_cases c16 : 4 < (a0.size : Int)
         ·rw [if_pos c16] at H
          have c16b0 := decide_eq_true c16
          have c16b1 : decide (4 < a0.size) = true := decide_eq_true (by omega)
          clear c16
          by_cases c18 : 5 < (a0.size : Int)
          ·rw [if_pos c18] at H
           have c18b0 := decide_eq_true c18
           have c18b1 : decide (5 < a0.size) = true := decide_eq_true (by omega)
           clear c18
           have HH := Aside0.mk H
           clear H
           go_enter Try.func177, Try.ntmps177
           try go_wp2_with (first | ((with_reducible refine gate_dst (N := 2) rfl ?_); refine boxE 2 #[.int .i64 0, .int .i64 0, .int .i64 0, .string (⟨#[]⟩ : ByteArray)] 102 ?_; intro gb279 hg w27 hbox hb; have BK279 := Aside0.mk (hbox); have GW279 := Aside0.mk ((by rw [hg]; exact (below_size (bez HB.out)) : w.heap.size ≤ gb279)); have GE279 := Aside0.mk ((by rw [hg]; exact (below_size (bez HB.out)) : w.heap.size ≤ gb279)); replace HB := Aside0.mk (below_step (bez HB.out) hb); clear hb hbox hg) | (go_at_call 174; (with_reducible refine (impl_sumOn.calls k 0 (a0.extract 0 24) t280 _ A5.out).mono ?_); rintro e w' ⟨rfl, ⟨nd, rfl⟩⟩; (try (rw [drewN_self w27]; generalize hq_ : World.drewN w27 _ = w27; have n0_ : Aside0 (w27.heap[gb279]? = some (.cells #[.int .i64 0, .int .i64 0, .int .i64 0, .string (⟨#[]⟩ : ByteArray)] 102 (0, 0))) := ⟨by rw [← hq_]; exact (blkd BK279.out)⟩; have n1_ : Aside0 (Below w.heap.size w w27) := ⟨by rw [← hq_]; exact (bel HB.out)⟩; clear BK279 HB hq_; have BK279 := n0_; have HB := n1_; clear n0_ n1_))))
           replace BK279 := Aside0.mk (blk_drew BK279.out)
           replace HB := Aside0.mk (below_drew1 HB.out)
           refine start_ (n := 16) (S := fun w' => True) (ds := []) (bs 16 0) (by kernel_rfl) rfl rfl trivial (fun hHeld => ?_); refine with_tabW impl_ReadFrame.tab4 impl_ReadFrame.bits4 (fun HT_ HW_ => ?_)
           generalize w27.drew = w28 at BK279 HB hHeld ⊢
           refine pureS 0 14 (bs 16 1) HT_.out (h := ?_)
           refine pureS 1 15 (bs 16 3) HT_.out (h := ?_)
           refine pureS 2 16 (bs 16 7) HT_.out (h := ?_)
           refine pureS 3 17 (bs 16 15) HT_.out (h := ?_)
           refine pureS 4 18 (bs 16 31) HT_.out (h := ?_)
           refine pureS 5 19 (bs 16 63) HT_.out (h := ?_)
           refine pureS 6 20 (bs 16 127) HT_.out (h := ?_)
           refine pureS 7 21 (bs 16 255) HT_.out (h := ?_)
           refine pureS 8 22 (bs 16 511) HT_.out (h := ?_)
           refine pureS 9 23 (bs 16 1023) HT_.out (h := ?_)
           refine pureS 10 24 (bs 16 2047) HT_.out (h := ?_)
           refine pureS 11 25 (bs 16 4095) HT_.out (h := ?_)
           refine pureS 12 26 (bs 16 8191) HT_.out (h := ?_)
           refine one_ (i := 13) (N := some 27) (bs 16 16383) rfl rfl (one_of HT_.out (by kernel_rfl)) (by decide) (fun K hK => ?_)
           refine Kd.R_lit_step (Kd.int .u8) _ 5 ?hg (N := 27) ?hd (xs := ([(t280) % 256, (t280 / 256) % 256, (t280 / 65536) % 256, (t280 / 16777216) % 256] : List Int)) (inner := [.int .u8 ((t280) % 256), .int .u8 ((t280 / 256) % 256), .int .u8 ((t280 / 65536) % 256), .int .u8 ((t280 / 16777216) % 256)]) (ok := fun _ => True) (okp := fun _ => True) ?hr ?hp (fun _ hk => hk) trivial (Below.refl _ _) (Nat.le_refl _) (by simp) ?_; (case hd => rfl); (case hg => rfl); (case hr => first | (go_simp; done) | (go_simp; rfl)); (case hp => exact (Reps.one (show Kd.M (Kd.int .u8) _ _ _ ((t280) % 256) [.int .u8 ((t280) % 256)] from rfl) (Reps.one (show Kd.M (Kd.int .u8) _ _ _ ((t280 / 256) % 256) [.int .u8 ((t280 / 256) % 256)] from rfl) (Reps.one (show Kd.M (Kd.int .u8) _ _ _ ((t280 / 65536) % 256) [.int .u8 ((t280 / 65536) % 256)] from rfl) (Reps.one (show Kd.M (Kd.int .u8) _ _ _ ((t280 / 16777216) % 256) [.int .u8 ((t280 / 16777216) % 256)] from rfl) (Reps.none _ _))))))
           intro v282 w29 ho30 hb hg_ hnew_
           clear hg_ hnew_
           (first | rw [← Ny281.out] at ho30 | (simp only [Int.reduceToNat] at ho30; rw [← Ny281.out] at ho30))
           have HO283 := Aside0.mk (Kd.R_lower ho30 (below_size (bel HB.out)))
           replace BK279 := Aside0.mk (blk_below (g := gb279) (o := .cells #[.int .i64 0, .int .i64 0, .int .i64 0, .string (⟨#[]⟩ : ByteArray)] 102 (0, 0)) (blkd BK279.out) hb)
           replace HB := Aside0.mk (below_step (bel HB.out) hb)
           clear hb ho30
           refine hK.out _ _ trivial (fun hHeld => ?_)
           clear hK K
           refine norm_ (a' := ?_) ?_ ?_
           rotate_left
           ·show Act.put _ (some 27) _ = _
            simp only [Act.put, List.setIfInBounds_toArray, List.set_cons_zero, List.set_cons_succ, i64_w, i32_w]
            rfl
           refine one_ (i := 14) (N := some 28) (bs 16 32767) rfl rfl (one_of HT_.out (by kernel_rfl)) (by decide) (fun K hK => ?_)
           have hcv31 := own_string (P := Try.prog) Try.underlying33 Try.underlying5 Try.underlying9 (Kd.own_of_R HO283.out)
           refine value_ (w1 := ?_) (v := ?_) (by rfl) rfl ?_ ?_
           rotate_left 2
           ·go_simp
            constructor
            ·rfl
            ·rfl
           clear hcv31
           refine hK.out _ _ trivial (fun hHeld => ?_)
           clear hK K
           refine norm_ (a' := ?_) ?_ ?_
           rotate_left
           ·show Act.put _ (some 28) _ = _
            simp only [Act.put, List.setIfInBounds_toArray, List.set_cons_zero, List.set_cons_succ, i64_w, i32_w]
            rfl
           refine pureS 15 29 (bs 16 65535) HT_.out (h := ?_)
           refine done_ (done_of HT_.out (by kernel_rfl)) ?_
           try go_wp2
           replace HO283 := Aside0.mk (Kd.R_drew HO283.out)
           replace BK279 := Aside0.mk (blk_drew BK279.out)
           replace HB := Aside0.mk (below_drew1 HB.out)
           have p9 : 0 ≤ (0 : Int) := (by omega)
           have q9 : 0 < a0.size := (by have : (0 : Int) < (a0.size : Int) := of_decide_eq_true (by assumption); omega)
           have hx9 : ∀ h : 0 < a0.size, ((a0[0]'h).toNat : Int) = bt a0 0 := bt_at a0 0
           clear p9
           have qi9 : (0 < (a0.size : Int)) = True := eq_true (of_decide_eq_true (by assumption))
           replace q9 := eq_true q9
           have p11 : 0 ≤ (1 : Int) := (by omega)
           have q11 : 1 < a0.size := (by have : (1 : Int) < (a0.size : Int) := of_decide_eq_true (by assumption); omega)
           have hx11 : ∀ h : 1 < a0.size, ((a0[1]'h).toNat : Int) = bt a0 1 := bt_at a0 1
           clear p11
           have qi11 : (1 < (a0.size : Int)) = True := eq_true (of_decide_eq_true (by assumption))
           replace q11 := eq_true q11
           have p13 : 0 ≤ (2 : Int) := (by omega)
           have q13 : 2 < a0.size := (by have : (2 : Int) < (a0.size : Int) := of_decide_eq_true (by assumption); omega)
           have hx13 : ∀ h : 2 < a0.size, ((a0[2]'h).toNat : Int) = bt a0 2 := bt_at a0 2
           clear p13
           have qi13 : (2 < (a0.size : Int)) = True := eq_true (of_decide_eq_true (by assumption))
           replace q13 := eq_true q13
           have p15 : 0 ≤ (3 : Int) := (by omega)
           have q15 : 3 < a0.size := (by have : (3 : Int) < (a0.size : Int) := of_decide_eq_true (by assumption); omega)
           have hx15 : ∀ h : 3 < a0.size, ((a0[3]'h).toNat : Int) = bt a0 3 := bt_at a0 3
           clear p15
           have qi15 : (3 < (a0.size : Int)) = True := eq_true (of_decide_eq_true (by assumption))
           replace q15 := eq_true q15
           have p17 : 0 ≤ (4 : Int) := (by omega)
           have q17 : 4 < a0.size := (by have : (4 : Int) < (a0.size : Int) := of_decide_eq_true (by assumption); omega)
           have hx17 : ∀ h : 4 < a0.size, ((a0[4]'h).toNat : Int) = bt a0 4 := bt_at a0 4
           clear p17
           have qi17 : (4 < (a0.size : Int)) = True := eq_true (of_decide_eq_true (by assumption))
           replace q17 := eq_true q17
           refine start_ (n := 22) (S := fun w' => True) (ds := []) (bs 22 0) (by kernel_rfl) rfl rfl trivial (fun hHeld => ?_); refine with_tabW impl_ReadFrame.tab6 impl_ReadFrame.bits6 (fun HT_ HW_ => ?_)
           generalize w29.drew = w32 at HO283 BK279 HB hHeld ⊢
           refine pureS 0 31 (bs 22 1) HT_.out (h := ?_)
           refine pureS 3 34 (bs 22 9) HT_.out (h := ?_)
           refine pureS 7 38 (bs 22 137) HT_.out (h := ?_)
           refine pureS 11 42 (bs 22 2185) HT_.out (h := ?_)
           refine pureS 15 46 (bs 22 34953) HT_.out (h := ?_)
           refine take_ (i := 1) (N := some 32) (v := ?_) (a' := ?_) (bs 22 34955) rfl rfl (take_ofW HT_.out HW_.out (by kernel_rfl)) (fun _ _ _ h => h) (Or.inl ⟨by rfl, ?_⟩) hHeld ?_ ?_
           rotate_left
           ·intro w' _
            go_simp
            with_reducible rfl
           rotate_left
           ·simp only [Act.put, List.setIfInBounds_toArray, List.set_cons_zero, List.set_cons_succ, i64_w, i32_w]
            rfl
           refine pureS 2 33 (bs 22 34959) HT_.out (h := ?_)
           refine take_ (i := 4) (N := some 35) (v := ?_) (a' := ?_) (bs 22 34975) rfl rfl (take_ofW HT_.out HW_.out (by kernel_rfl)) (fun _ _ _ h => h) (Or.inl ⟨by rfl, ?_⟩) hHeld ?_ ?_
           rotate_left
           ·intro w' _
            go_simp
            with_reducible rfl
           rotate_left
           ·simp only [Act.put, List.setIfInBounds_toArray, List.set_cons_zero, List.set_cons_succ, i64_w, i32_w]
            rfl
           refine pureS 5 36 (bs 22 35007) HT_.out (h := ?_)
           refine pureS 6 37 (bs 22 35071) HT_.out (h := ?_)
           refine take_ (i := 8) (N := some 39) (v := ?_) (a' := ?_) (bs 22 35327) rfl rfl (take_ofW HT_.out HW_.out (by kernel_rfl)) (fun _ _ _ h => h) (Or.inl ⟨by rfl, ?_⟩) hHeld ?_ ?_
           rotate_left
           ·intro w' _
            go_simp
            with_reducible rfl
           rotate_left
           ·simp only [Act.put, List.setIfInBounds_toArray, List.set_cons_zero, List.set_cons_succ, i64_w, i32_w]
            rfl
           refine pureS 9 40 (bs 22 35839) HT_.out (h := ?_)
           refine pureS 10 41 (bs 22 36863) HT_.out (h := ?_)
           refine take_ (i := 12) (N := some 43) (v := ?_) (a' := ?_) (bs 22 40959) rfl rfl (take_ofW HT_.out HW_.out (by kernel_rfl)) (fun _ _ _ h => h) (Or.inl ⟨by rfl, ?_⟩) hHeld ?_ ?_
           rotate_left
           ·intro w' _
            go_simp
            with_reducible rfl
           rotate_left
           ·simp only [Act.put, List.setIfInBounds_toArray, List.set_cons_zero, List.set_cons_succ, i64_w, i32_w]
            rfl
           refine pureS 13 44 (bs 22 49151) HT_.out (h := ?_)
           refine pureS 14 45 (bs 22 65535) HT_.out (h := ?_)
           refine take_ (i := 16) (N := some 47) (v := ?_) (a' := ?_) (bs 22 131071) rfl rfl (take_ofW HT_.out HW_.out (by kernel_rfl)) (fun _ _ _ h => h) (Or.inl ⟨by rfl, ?_⟩) hHeld ?_ ?_
           rotate_left
           ·intro w' _
            go_simp
            with_reducible rfl
           rotate_left
           ·simp only [Act.put, List.setIfInBounds_toArray, List.set_cons_zero, List.set_cons_succ, i64_w, i32_w]
            rfl
           refine pureS 17 48 (bs 22 262143) HT_.out (h := ?_)
           refine pureS 18 49 (bs 22 524287) HT_.out (h := ?_)
           refine pureS 19 50 (bs 22 1048575) HT_.out (h := ?_)
           refine one_ (i := 20) (N := some 6) (bs 22 2097151) rfl rfl (one_of HT_.out (by kernel_rfl)) (by decide) (fun K hK => ?_)
           refine box_step ?hg (N := 6) ?hd (cs := #[.int .i64 0, .int .i64 0, .int .i64 0, .string (⟨#[]⟩ : ByteArray)]) (t := 102) ?hr ?_; (case hd => rfl); (case hg => rfl); (case hr => first | (go_simp; done) | (go_simp; rfl))
           intro gb284 hg w33 hbox hb
           have n0_ := Aside0.mk (Kd.R_below (kdr HO283.out) hb)
           have n1_ := Aside0.mk (blk_below (g := gb279) (o := .cells #[.int .i64 0, .int .i64 0, .int .i64 0, .string (⟨#[]⟩ : ByteArray)] 102 (0, 0)) (blkd BK279.out) hb)
           have n2_ := Aside0.mk (below_step (bel HB.out) hb)
           have n3_ := Aside0.mk (hbox)
           have n4_ := Aside0.mk ((by rw [hg]; exact (below_size (bel HB.out)) : w.heap.size ≤ gb284))
           have n5_ := Aside0.mk ((by rw [hg]; exact (below_size (bel HB.out)) : w.heap.size ≤ gb284))
           have n6_ := Aside0.mk ((by rw [hg]; exact Nat.ne_of_lt (blk_lt (g := gb279) (o := .cells #[.int .i64 0, .int .i64 0, .int .i64 0, .string (⟨#[]⟩ : ByteArray)] 102 (0, 0)) (blkd BK279.out)) : gb279 ≠ gb284))
           have n7_ := Aside0.mk ((by rw [hg]; exact Nat.ne_of_gt (blk_lt (g := gb279) (o := .cells #[.int .i64 0, .int .i64 0, .int .i64 0, .string (⟨#[]⟩ : ByteArray)] 102 (0, 0)) (blkd BK279.out)) : gb284 ≠ gb279))
           clear HO283 BK279 HB
           have HO283 := n0_
           have BK279 := n1_
           have HB := n2_
           have BK284 := n3_
           have GW284 := n4_
           have GE284 := n5_
           have NB279_284 := n6_
           have NB284_279 := n7_
           clear n0_ n1_ n2_ n3_ n4_ n5_ n6_ n7_
           clear hb hbox hg
           refine hK.out _ _ trivial (fun hHeld => ?_)
           clear hK K
           refine norm_ (a' := ?_) ?_ ?_
           rotate_left
           ·show Act.put _ (some 6) _ = _
            simp only [Act.put, List.setIfInBounds_toArray, List.set_cons_zero, List.set_cons_succ, i64_w, i32_w]
            rfl
           refine one_ (i := 21) (N := none) (bs 22 4194303) rfl rfl (one_of HT_.out (by kernel_rfl)) (by decide) (fun K hK => ?_)
           have hs34 : w33.cell? ⟨gb284, 0, none⟩ = some (.int .i64 0) := (blk_cell BK284.out 0).trans rfl
           have hfs34 := blk_frozen BK284.out 0
           have hns34_0 := NB279_284.out
           have hms34_0 := NB284_279.out
           have hs35 : w33.cell? ⟨gb284, 1, none⟩ = some (.int .i64 0) := (blk_cell BK284.out 1).trans rfl
           have hfs35 := blk_frozen BK284.out 1
           have hns35_0 := NB279_284.out
           have hms35_0 := NB284_279.out
           have hs36 : w33.cell? ⟨gb284, 2, none⟩ = some (.int .i64 0) := (blk_cell BK284.out 2).trans rfl
           have hfs36 := blk_frozen BK284.out 2
           have hns36_0 := NB279_284.out
           have hms36_0 := NB284_279.out
           have hs37 : w33.cell? ⟨gb284, 3, none⟩ = some (.string (⟨#[]⟩ : ByteArray)) := (blk_cell BK284.out 3).trans rfl
           have hfs37 := blk_frozen BK284.out 3
           have hns37_0 := NB279_284.out
           have hms37_0 := NB284_279.out
           refine skip_ (w1 := ?_) (by rfl) rfl ?_ ?_
           rotate_left
           ·go_simp
            rfl
           refine hK.out _ _ trivial (fun hHeld => ?_)
           clear hK K
           refine done_ (done_of HT_.out (by kernel_rfl)) ?_
           have H := HH.out
           clear HH
           obtain ⟨W5, hW5⟩ : ∃ W5 : World, W5 = (((w33.setCell ⟨gb284, 0, none⟩ (.int .i64 (wrap64 (bt a0 0)))).setCell ⟨gb284, 1, none⟩ (.int .i64 (Go.bits .or .i64 (wrap64 ((wrap64 (bt a0 1)) * 256)) (wrap64 (bt a0 2))))).setCell ⟨gb284, 2, none⟩ (.int .i64 (Go.bits .or .i64 (wrap64 ((wrap64 (bt a0 3)) * 256)) (wrap64 (bt a0 4))))).setCell ⟨gb284, 3, none⟩ (.string (⟨#[]⟩ : ByteArray)) := ⟨_, rfl⟩
           have BK5 := Aside0.mk (show W5.heap[gb284]? = some (.cells #[.int .i64 (wrap64 (bt a0 0)), .int .i64 (Go.bits .or .i64 (wrap64 ((wrap64 (bt a0 1)) * 256)) (wrap64 (bt a0 2))), .int .i64 (Go.bits .or .i64 (wrap64 ((wrap64 (bt a0 3)) * 256)) (wrap64 (bt a0 4))), .string (⟨#[]⟩ : ByteArray)] 102 (0, 0)) by rw [hW5]; exact blk_put (blk_put (blk_put (blk_put BK284.out 0 _ rfl) 1 _ rfl) 2 _ rfl) 3 _ rfl)
           have BK2 := Aside0.mk (show W5.heap[gb279]? = some (.cells #[.int .i64 0, .int .i64 0, .int .i64 0, .string (⟨#[]⟩ : ByteArray)] 102 (0, 0)) by rw [hW5]; exact blk_far (blk_far (blk_far (blk_far BK279.out NB279_284.out _) NB279_284.out _) NB279_284.out _) NB279_284.out _)
           have HB5 := Aside0.mk (show Below w.heap.size w W5 by rw [hW5]; exact below_set (below_set (below_set (below_set HB.out GE284.out) GE284.out) GE284.out) GE284.out)
           have GE2 := GE279
           have GE5 := GE284
           have hne := NB279_284.out
           have hne2 := NB284_279.out
           rw [← hW5]
           clear HB
           have HB := HB5
           clear HB5 hW5 BK284 BK279 hs34 hfs34 hns34_0 hms34_0 hs35 hfs35 hns35_0 hms35_0 hs36 hfs36 hns36_0 hms36_0 hs37 hfs37 hns37_0 hms37_0
           clear hHeld
           have hbr := bt_range a0 5
           obtain ⟨n, hn⟩ : ∃ n : Nat, bt a0 5 = (n : Int) := ⟨(bt a0 5).toNat, by omega⟩
           have hn255 : n ≤ 255 := by omega
           have ew : wrap64 (n : Int) = (n : Int) := by unfold wrap64; omega
           obtain ⟨m, hm⟩ : ∃ m : Nat, (if wrap64 (n : Int) < 16 then wrap64 (n : Int) else 16) = (m : Int) := ⟨min n 16, by rw [ew]; split <;> omega⟩
           have hm16 : m ≤ 16 := by rw [ew] at hm; split at hm <;> omega
           have em : mn 16 (n : Int) = (m : Int) := by rw [← hm, ew]; unfold mn; (repeat' split) <;> omega
           have ew2 : wrap64 (6 + (m : Int)) = 6 + (m : Int) := by unfold wrap64; omega
           have h28 : (a0.size : Int) = 28 := by
            first | exact beq_iff_eq.1 (by assumption) | omega
           have h5 : 5 < a0.size := by omega
           have hx : ∀ h : 5 < a0.size, ((a0[5]'h).toNat : Int) = (n : Int) := fun h => (bt_at a0 5 h).trans hn
           have q5 := eq_true h5
           have qi5 : (5 < (a0.size : Int)) = True := eq_true (by omega)
           rw [hn, ew, em, ew2, show (6 + (m : Int)).toNat = 6 + m by omega] at H
           clear hbr hn ew em h5
           rw [if_pos (by omega), if_pos (by omega)] at H
           have hsl : ∀ W : World, (Instr.slice 9 (.string a0) (some (.int .i64 6)) (some (.int .i64 (6 + (m : Int)))) none).run Try.prog W = .ok (.string (a0.extract 6 (6 + m))) W := fun W => by
            rw [run_slice_string_if W 9 a0 .i64 .i64 6 (6 + (m : Int)) Try.underlying9, if_pos ⟨by omega, by omega⟩, if_pos ⟨by omega, by omega⟩, show (6 + (m : Int)).toNat = 6 + m by omega]
            rfl
           replace H := Option.bind_eq_some_iff.mp H
           obtain ⟨b, hb0, H⟩ := H
           have cG := fun w => impl_GoodFrame.calls (wrap64 (bt a0 0)) (Go.bits .or .i64 (wrap64 ((wrap64 (bt a0 1)) * 256)) (wrap64 (bt a0 2))) (Go.bits .or .i64 (wrap64 ((wrap64 (bt a0 3)) * 256)) (wrap64 (bt a0 4))) (a0.extract 6 (6 + m)) b w hb0
           have HH := Aside0.mk H
           have y3 : W5.cell? ⟨gb284, 3, none⟩ = some (.string (⟨#[]⟩ : ByteArray)) := (blk_cell BK5.out 3).trans rfl
           have yf3 := blk_frozen BK5.out 3
           clear H h28 hb0 hn255
           go_upto_region 8 with (fail)
           clear y3 yf3 hsl hm ew2
           obtain ⟨W6, hW6⟩ : ∃ W6 : World, W6 = W5.setCell ⟨gb284, 3, none⟩ (.string (a0.extract 6 (6 + m))) := ⟨_, rfl⟩
           have BK6 := Aside0.mk (show W6.heap[gb284]? = some (.cells #[.int .i64 (wrap64 (bt a0 0)), .int .i64 (Go.bits .or .i64 (wrap64 ((wrap64 (bt a0 1)) * 256)) (wrap64 (bt a0 2))), .int .i64 (Go.bits .or .i64 (wrap64 ((wrap64 (bt a0 3)) * 256)) (wrap64 (bt a0 4))), .string (a0.extract 6 (6 + m))] 102 (0, 0)) by rw [hW6]; exact blk_put BK5.out 3 _ rfl)
           have BK7 := Aside0.mk (show W6.heap[gb279]? = some (.cells #[.int .i64 0, .int .i64 0, .int .i64 0, .string (⟨#[]⟩ : ByteArray)] 102 (0, 0)) by rw [hW6]; exact blk_far BK2.out hne _)
           have HB6 := Aside0.mk (show Below w.heap.size w W6 by rw [hW6]; exact below_set HB.out GE5.out)
           rw [← hW6]
           clear hW6 BK5 BK2 HB
           have BK2 := BK7
           have BK5 := BK6
           have HB := HB6
           clear BK7 BK6 HB6
           have y0 : W6.cell? ⟨gb284, 0, none⟩ = some (.int .i64 (wrap64 (bt a0 0))) := (blk_cell BK5.out 0).trans rfl
           have y1 : W6.cell? ⟨gb284, 1, none⟩ = some (.int .i64 (Go.bits .or .i64 (wrap64 ((wrap64 (bt a0 1)) * 256)) (wrap64 (bt a0 2)))) := (blk_cell BK5.out 1).trans rfl
           have y2 : W6.cell? ⟨gb284, 2, none⟩ = some (.int .i64 (Go.bits .or .i64 (wrap64 ((wrap64 (bt a0 3)) * 256)) (wrap64 (bt a0 4)))) := (blk_cell BK5.out 2).trans rfl
           have y3 : W6.cell? ⟨gb284, 3, none⟩ = some (.string (a0.extract 6 (6 + m))) := (blk_cell BK5.out 3).trans rfl
           go_wp2_with fail
           refine (cG _).mono ?_
           rintro e w7 ⟨rfl, hb⟩
           replace BK5 := Aside0.mk (blk_below BK5.out hb)
           replace BK2 := Aside0.mk (blk_below BK2.out hb)
           replace HB := Aside0.mk (below_step HB.out hb)
           clear hb y0 y1 y2 y3 cG
           cases b with
           | false =>
            have H := HH.out
            rw [if_neg (by decide)] at H
            simp only [Option.some.injEq, Prod.mk.injEq] at H
            obtain ⟨rfl, rfl, rfl, rfl, rfl, rfl⟩ := H
            have z0 : w7.cell? ⟨gb279, 0, none⟩ = some (.int .i64 0) := (blk_cell BK2.out 0).trans rfl
            have z1 : w7.cell? ⟨gb279, 1, none⟩ = some (.int .i64 0) := (blk_cell BK2.out 1).trans rfl
            have z2 : w7.cell? ⟨gb279, 2, none⟩ = some (.int .i64 0) := (blk_cell BK2.out 2).trans rfl
            have z3 : w7.cell? ⟨gb279, 3, none⟩ = some (.string (⟨#[]⟩ : ByteArray)) := (blk_cell BK2.out 3).trans rfl
            have zf0 := blk_frozen BK2.out 0
            have zf1 := blk_frozen BK2.out 1
            have zf2 := blk_frozen BK2.out 2
            have zf3 := blk_frozen BK2.out 3
            go_wp2
            refine bodyPost_ret (results_ctt rfl _ _ gb279 102 #[.int .i64 0, .int .i64 0, .int .i64 0, .string (⟨#[]⟩ : ByteArray)] (0, 0) _ rfl (blkp BK2.out) Try.underlying102 rfl (by kernel_rfl)) rfl ?_
            exact ⟨by first | rfl | (simp [*] <;> rfl), (bel HB.out)⟩
           | true =>
            have H := HH.out
            rw [if_pos rfl] at H
            replace H := Option.bind_eq_some_iff.mp H
            obtain ⟨tt, ht0, H⟩ := H
            have cF := fun w => impl_frameBytes.calls k (wrap64 (bt a0 0)) (Go.bits .or .i64 (wrap64 ((wrap64 (bt a0 1)) * 256)) (wrap64 (bt a0 2))) (Go.bits .or .i64 (wrap64 ((wrap64 (bt a0 3)) * 256)) (wrap64 (bt a0 4))) (a0.extract 6 (6 + m)) tt w ht0
            have y0 : w7.cell? ⟨gb284, 0, none⟩ = some (.int .i64 (wrap64 (bt a0 0))) := (blk_cell BK5.out 0).trans rfl
            have y1 : w7.cell? ⟨gb284, 1, none⟩ = some (.int .i64 (Go.bits .or .i64 (wrap64 ((wrap64 (bt a0 1)) * 256)) (wrap64 (bt a0 2)))) := (blk_cell BK5.out 1).trans rfl
            have y2 : w7.cell? ⟨gb284, 2, none⟩ = some (.int .i64 (Go.bits .or .i64 (wrap64 ((wrap64 (bt a0 3)) * 256)) (wrap64 (bt a0 4)))) := (blk_cell BK5.out 2).trans rfl
            have y3 : w7.cell? ⟨gb284, 3, none⟩ = some (.string (a0.extract 6 (6 + m))) := (blk_cell BK5.out 3).trans rfl
            clear HH
            have HH := Aside0.mk H
            clear H ht0
            go_wp2_with fail
            refine (cF _).mono ?_
            rintro e w8 ⟨rfl, hb⟩
            replace BK5 := Aside0.mk (blk_below BK5.out hb)
            replace BK2 := Aside0.mk (blk_below BK2.out hb)
            replace HB := Aside0.mk (below_step HB.out hb)
            clear hb y0 y1 y2 y3 cF
            have z0 : w8.cell? ⟨gb279, 0, none⟩ = some (.int .i64 0) := (blk_cell BK2.out 0).trans rfl
            have z1 : w8.cell? ⟨gb279, 1, none⟩ = some (.int .i64 0) := (blk_cell BK2.out 1).trans rfl
            have z2 : w8.cell? ⟨gb279, 2, none⟩ = some (.int .i64 0) := (blk_cell BK2.out 2).trans rfl
            have z3 : w8.cell? ⟨gb279, 3, none⟩ = some (.string (⟨#[]⟩ : ByteArray)) := (blk_cell BK2.out 3).trans rfl
            have zf0 := blk_frozen BK2.out 0
            have zf1 := blk_frozen BK2.out 1
            have zf2 := blk_frozen BK2.out 2
            have zf3 := blk_frozen BK2.out 3
            have H := HH.out
            clear HH
            by_cases c38 : tt.toList = a0.toList
            ·rw [if_pos c38] at H
             have c38b0 : (tt.toList == a0.toList) = true := beq_iff_eq.mpr c38
             have c38b1 : (tt.toList != a0.toList) = false := bne_eq_false_iff_eq.mpr c38
             simp only [Option.some.injEq, Prod.mk.injEq] at H
             obtain ⟨rfl, rfl, rfl, rfl, rfl, rfl⟩ := H
             have y0 : w8.cell? ⟨gb284, 0, none⟩ = some (.int .i64 (wrap64 (bt a0 0))) := (blk_cell BK5.out 0).trans rfl
             have y1 : w8.cell? ⟨gb284, 1, none⟩ = some (.int .i64 (Go.bits .or .i64 (wrap64 ((wrap64 (bt a0 1)) * 256)) (wrap64 (bt a0 2)))) := (blk_cell BK5.out 1).trans rfl
             have y2 : w8.cell? ⟨gb284, 2, none⟩ = some (.int .i64 (Go.bits .or .i64 (wrap64 ((wrap64 (bt a0 3)) * 256)) (wrap64 (bt a0 4)))) := (blk_cell BK5.out 2).trans rfl
             have y3 : w8.cell? ⟨gb284, 3, none⟩ = some (.string (a0.extract 6 (6 + m))) := (blk_cell BK5.out 3).trans rfl
             clear c38
             go_wp2
             refine bodyPost_ret (results_ctt rfl _ _ gb279 102 #[.int .i64 (wrap64 (bt a0 0)), .int .i64 (Go.bits .or .i64 (wrap64 ((wrap64 (bt a0 1)) * 256)) (wrap64 (bt a0 2))), .int .i64 (Go.bits .or .i64 (wrap64 ((wrap64 (bt a0 3)) * 256)) (wrap64 (bt a0 4))), .string (a0.extract 6 (6 + m))] (0, 0) _ rfl (blkp BK2.out) Try.underlying102 rfl (by kernel_rfl)) rfl ?_
             exact ⟨by first | rfl | (simp [*] <;> rfl), (bel HB.out)⟩
            ·rw [if_neg c38] at H
             have c38b0 : (tt.toList == a0.toList) = false := beq_eq_false_iff_ne.mpr c38
             have c38b1 : (tt.toList != a0.toList) = true := bne_iff_ne.mpr c38
             simp only [Option.some.injEq, Prod.mk.injEq] at H
             obtain ⟨rfl, rfl, rfl, rfl, rfl, rfl⟩ := H
             clear c38
             go_wp2
             refine bodyPost_ret (results_ctt rfl _ _ gb279 102 #[.int .i64 0, .int .i64 0, .int .i64 0, .string (⟨#[]⟩ : ByteArray)] (0, 0) _ rfl (blkp BK2.out) Try.underlying102 rfl (by kernel_rfl)) rfl ?_
             exact ⟨by first | rfl | (simp [*] <;> rfl), (bel HB.out)⟩
          ·rw [if_neg c18] at H
           exact absurd H (by simp)
         ·rw [if_neg c16] at H
          exact absurd H (by simp)
        ·rw [if_neg c14] at H
         exact absurd H (by simp)
       ·rw [if_neg c12] at H
        exact absurd H (by simp)
      ·rw [if_neg c10] at H
       exact absurd H (by simp)
     ·rw [if_neg c8] at H
      exact absurd H (by simp)
    ·rw [if_neg c7] at H
     have c7b0 : ((a0.extract 24 a0.size).toList == (strOfNums y281).toList) = false := beq_eq_false_iff_ne.mpr c7
     have c7b1 : ((a0.extract 24 a0.size).toList != (strOfNums y281).toList) = true := bne_iff_ne.mpr c7
     simp only [Option.some.injEq, Prod.mk.injEq] at H
     obtain ⟨rfl, rfl, rfl, rfl, rfl, rfl⟩ := H
     go_enter Try.func177, Try.ntmps177
     try go_wp2_with (first | ((with_reducible refine gate_dst (N := 2) rfl ?_); refine boxE 2 #[.int .i64 0, .int .i64 0, .int .i64 0, .string (⟨#[]⟩ : ByteArray)] 102 ?_; intro gb279 hg w77 hbox hb; have BK279 := Aside0.mk (hbox); have GW279 := Aside0.mk ((by rw [hg]; exact (below_size (bez HB.out)) : w.heap.size ≤ gb279)); have GE279 := Aside0.mk ((by rw [hg]; exact (below_size (bez HB.out)) : w.heap.size ≤ gb279)); replace HB := Aside0.mk (below_step (bez HB.out) hb); clear hb hbox hg) | (go_at_call 174; (with_reducible refine (impl_sumOn.calls k 0 (a0.extract 0 24) t280 _ A5.out).mono ?_); rintro e w' ⟨rfl, ⟨nd, rfl⟩⟩; (try (rw [drewN_self w77]; generalize hq_ : World.drewN w77 _ = w77; have n0_ : Aside0 (w77.heap[gb279]? = some (.cells #[.int .i64 0, .int .i64 0, .int .i64 0, .string (⟨#[]⟩ : ByteArray)] 102 (0, 0))) := ⟨by rw [← hq_]; exact (blkd BK279.out)⟩; have n1_ : Aside0 (Below w.heap.size w w77) := ⟨by rw [← hq_]; exact (bel HB.out)⟩; clear BK279 HB hq_; have BK279 := n0_; have HB := n1_; clear n0_ n1_))))
     replace BK279 := Aside0.mk (blk_drew BK279.out)
     replace HB := Aside0.mk (below_drew1 HB.out)
     refine start_ (n := 16) (S := fun w' => True) (ds := []) (bs 16 0) (by kernel_rfl) rfl rfl trivial (fun hHeld => ?_); refine with_tabW impl_ReadFrame.tab4 impl_ReadFrame.bits4 (fun HT_ HW_ => ?_)
     generalize w77.drew = w78 at BK279 HB hHeld ⊢
     refine pureS 0 14 (bs 16 1) HT_.out (h := ?_)
     refine pureS 1 15 (bs 16 3) HT_.out (h := ?_)
     refine pureS 2 16 (bs 16 7) HT_.out (h := ?_)
     refine pureS 3 17 (bs 16 15) HT_.out (h := ?_)
     refine pureS 4 18 (bs 16 31) HT_.out (h := ?_)
     refine pureS 5 19 (bs 16 63) HT_.out (h := ?_)
     refine pureS 6 20 (bs 16 127) HT_.out (h := ?_)
     refine pureS 7 21 (bs 16 255) HT_.out (h := ?_)
     refine pureS 8 22 (bs 16 511) HT_.out (h := ?_)
     refine pureS 9 23 (bs 16 1023) HT_.out (h := ?_)
     refine pureS 10 24 (bs 16 2047) HT_.out (h := ?_)
     refine pureS 11 25 (bs 16 4095) HT_.out (h := ?_)
     refine pureS 12 26 (bs 16 8191) HT_.out (h := ?_)
     refine one_ (i := 13) (N := some 27) (bs 16 16383) rfl rfl (one_of HT_.out (by kernel_rfl)) (by decide) (fun K hK => ?_)
     refine Kd.R_lit_step (Kd.int .u8) _ 5 ?hg (N := 27) ?hd (xs := ([(t280) % 256, (t280 / 256) % 256, (t280 / 65536) % 256, (t280 / 16777216) % 256] : List Int)) (inner := [.int .u8 ((t280) % 256), .int .u8 ((t280 / 256) % 256), .int .u8 ((t280 / 65536) % 256), .int .u8 ((t280 / 16777216) % 256)]) (ok := fun _ => True) (okp := fun _ => True) ?hr ?hp (fun _ hk => hk) trivial (Below.refl _ _) (Nat.le_refl _) (by simp) ?_; (case hd => rfl); (case hg => rfl); (case hr => first | (go_simp; done) | (go_simp; rfl)); (case hp => exact (Reps.one (show Kd.M (Kd.int .u8) _ _ _ ((t280) % 256) [.int .u8 ((t280) % 256)] from rfl) (Reps.one (show Kd.M (Kd.int .u8) _ _ _ ((t280 / 256) % 256) [.int .u8 ((t280 / 256) % 256)] from rfl) (Reps.one (show Kd.M (Kd.int .u8) _ _ _ ((t280 / 65536) % 256) [.int .u8 ((t280 / 65536) % 256)] from rfl) (Reps.one (show Kd.M (Kd.int .u8) _ _ _ ((t280 / 16777216) % 256) [.int .u8 ((t280 / 16777216) % 256)] from rfl) (Reps.none _ _))))))
     intro v282 w79 ho80 hb hg_ hnew_
     clear hg_ hnew_
     (first | rw [← Ny281.out] at ho80 | (simp only [Int.reduceToNat] at ho80; rw [← Ny281.out] at ho80))
     have HO283 := Aside0.mk (Kd.R_lower ho80 (below_size (bel HB.out)))
     replace BK279 := Aside0.mk (blk_below (g := gb279) (o := .cells #[.int .i64 0, .int .i64 0, .int .i64 0, .string (⟨#[]⟩ : ByteArray)] 102 (0, 0)) (blkd BK279.out) hb)
     replace HB := Aside0.mk (below_step (bel HB.out) hb)
     clear hb ho80
     refine hK.out _ _ trivial (fun hHeld => ?_)
     clear hK K
     refine norm_ (a' := ?_) ?_ ?_
     rotate_left
     ·show Act.put _ (some 27) _ = _
      simp only [Act.put, List.setIfInBounds_toArray, List.set_cons_zero, List.set_cons_succ, i64_w, i32_w]
      rfl
     refine one_ (i := 14) (N := some 28) (bs 16 32767) rfl rfl (one_of HT_.out (by kernel_rfl)) (by decide) (fun K hK => ?_)
     have hcv81 := own_string (P := Try.prog) Try.underlying33 Try.underlying5 Try.underlying9 (Kd.own_of_R HO283.out)
     refine value_ (w1 := ?_) (v := ?_) (by rfl) rfl ?_ ?_
     rotate_left 2
     ·go_simp
      constructor
      ·rfl
      ·rfl
     clear hcv81
     refine hK.out _ _ trivial (fun hHeld => ?_)
     clear hK K
     refine norm_ (a' := ?_) ?_ ?_
     rotate_left
     ·show Act.put _ (some 28) _ = _
      simp only [Act.put, List.setIfInBounds_toArray, List.set_cons_zero, List.set_cons_succ, i64_w, i32_w]
      rfl
     refine pureS 15 29 (bs 16 65535) HT_.out (h := ?_)
     refine done_ (done_of HT_.out (by kernel_rfl)) ?_
     obtain ⟨⟨hcz82_0, hcz82_1, hcz82_2, hcz82_3⟩, hfz82_0, hfz82_1, hfz82_2, hfz82_3⟩ := blk4 BK279.out
     try go_wp2
     refine bodyPost_ret (results_ctt rfl _ _ gb279 102 #[.int .i64 0, .int .i64 0, .int .i64 0, .string (⟨#[]⟩ : ByteArray)] (0, 0) _ rfl (blkp BK279.out) Try.underlying102 rfl (by kernel_rfl)) rfl ?_
     exact ⟨by first | rfl | simp [*], (bel HB.out)⟩
   ·rw [if_neg c4] at H
    exact absurd H (by simp)
  ·rw [if_neg c3] at H
   exact absurd H (by simp)
 ·rw [if_neg c2] at H
  have c2b0 : ((a0.size : Int) == 28) = false := beq_eq_false_iff_ne.mpr c2
  have c2b1 : ((a0.size : Int) != 28) = true := bne_iff_ne.mpr c2
  simp only [Option.some.injEq, Prod.mk.injEq] at H
  obtain ⟨rfl, rfl, rfl, rfl, rfl, rfl⟩ := H
  go_enter Try.func177, Try.ntmps177
  go_wp2_with (first | ((with_reducible refine gate_dst (N := 2) rfl ?_); refine boxE 2 #[.int .i64 0, .int .i64 0, .int .i64 0, .string (⟨#[]⟩ : ByteArray)] 102 ?_; intro gb279 hg w83 hbox hb; have BK279 := Aside0.mk (hbox); have GW279 := Aside0.mk ((by rw [hg]; exact (below_size (bez HB.out)) : w.heap.size ≤ gb279)); have GE279 := Aside0.mk ((by rw [hg]; exact (below_size (bez HB.out)) : w.heap.size ≤ gb279)); replace HB := Aside0.mk (below_step (bez HB.out) hb); clear hb hbox hg; obtain ⟨⟨hcz84_0, hcz84_1, hcz84_2, hcz84_3⟩, hfz84_0, hfz84_1, hfz84_2, hfz84_3⟩ := blk4 BK279.out))
  refine bodyPost_ret (results_ctt rfl _ _ gb279 102 #[.int .i64 0, .int .i64 0, .int .i64 0, .string (⟨#[]⟩ : ByteArray)] (0, 0) _ rfl (blkp BK279.out) Try.underlying102 rfl (by kernel_rfl)) rfl ?_
  exact ⟨by first | rfl | simp [*], (bel HB.out)⟩

end Go.Proofs.Ytldlldfoaicjcaa.MFnBodies
-- SHRUNK
