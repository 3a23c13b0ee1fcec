/- The machine's side of FnBodies, written by this session's program out of the kit's print of the program, with contracts of this session's own. No conditions beyond those typed. -/
import Derived.Test.YtldlldfoaicjcaaMFnBodiesx0
import Derived.Test.YtldlldfoaicjcaaMFnBodiesx3
import Derived.Test.YtldlldfoaicjcaaMFnBodiesx4
import Derived.Test.YtldlldfoaicjcaaMFnBodiesx9
import Derived.Laws.DeepStrings4
namespace Go.Proofs.Ytldlldfoaicjcaa.MFnBodies
open Go.RowKit Go.Proofs.YtldlldfoaicjcaaW.PrintWords Go.Proofs.YtldlldfoaicjcaaW.PrintLast Go.Proofs.YtldlldfoaicjcaaW.PrintMore
attribute [local go_sem] max2_int min2_int max_two min_two max_three min_three max_four min_four   -- for this text's walks alone
set_option linter.unusedVariables false
set_option linter.unusedSimpArgs false

/-! ### spec_ReadFrame: function 182 -/
def spec_ReadFrame.f (k : Nat) (a0 : ByteArray) : Option (Int × Int × Int × ByteArray × Int × Bool) := if (a0.size : Int) = 28 then (if 0 ≤ 24 then (if 24 ≤ (a0.size : Int) then ((spec_l5On.f k 0 (a0.extract 0 24)).bind fun t401 => ((spec_l6Low.f k t401).bind fun t402 => (if t402.toList = (a0.extract 24 a0.size).toList then (if 0 ≤ 1 then (if 1 ≤ (a0.size : Int) then ((spec_l6Value.f k (a0.extract 0 1)).bind fun t403 => (if 1 ≤ 3 then (if 3 ≤ (a0.size : Int) then ((spec_l6Value.f k (a0.extract 1 3)).bind fun t404 => (if 3 ≤ 5 then (if 5 ≤ (a0.size : Int) then ((spec_l6Value.f k (a0.extract 3 5)).bind fun t405 => (if 5 < (a0.size : Int) then (if (wrap64 (bt a0 5)) > 16 then (some (0, 0, 0, (⟨#[]⟩ : ByteArray), 3, false)) else (if 6 ≤ (wrap64 (6 + (wrap64 (bt a0 5)))) then (if (wrap64 (6 + (wrap64 (bt a0 5)))) ≤ (a0.size : Int) then ((spec_GoodFrame.f t403 t404 t405 (a0.extract 6 ((wrap64 (6 + (wrap64 (bt a0 5)))) : Int).toNat)).bind fun t407 => (if t407 = true then ((spec_l6Frame.f k t403 t404 t405 (a0.extract 6 ((wrap64 (6 + (wrap64 (bt a0 5)))) : Int).toNat)).bind fun t408 => (if t408.toList = a0.toList then (some (t403, t404, t405, a0.extract 6 ((wrap64 (6 + (wrap64 (bt a0 5)))) : Int).toNat, 0, true)) else (some (0, 0, 0, (⟨#[]⟩ : ByteArray), 3, false)))) else (some (0, 0, 0, (⟨#[]⟩ : ByteArray), 3, false)))) else (none)) else (none))) else (none))) else (none)) else (none))) else (none)) else (none))) else (none)) else (none)) else (some (0, 0, 0, (⟨#[]⟩ : ByteArray), 2, false))))) else (none)) else (none)) else (some (0, 0, 0, (⟨#[]⟩ : ByteArray), 1, false))
theorem spec_ReadFrame.mono : ∀ a0 k, LeO (spec_ReadFrame.f k a0) (spec_ReadFrame.f (k + 1) a0) := by
 intro a0 k
 unfold spec_ReadFrame.f
 with_reducible repeat' first | exact spec_l5On.mono _ _ _ | exact spec_l6Frame.mono _ _ _ _ _ | exact spec_l6Low.mono _ _ | exact spec_l6Value.mono _ _ | exact LeO.refl _ | exact LeO.none _ | refine LeO.ite ?_ ?_ | refine LeO.bind ?_ (fun _ => ?_)
def spec_ReadFrame.T5 : Bool × List (List Nat × List Nat) := (true, [([], []), ([0], [0]), ([1], [1]), ([], []), ([3], [3]), ([4, 2], [4]), ([], []), ([6], [6]), ([7, 5], [7]), ([2, 5, 8], [2, 5, 8]), ([], []), ([10, 9, 8, 0, 1, 2, 3, 4, 5, 6, 7, 8, 9, 10], [9, 10])])
def spec_ReadFrame.B5 : List Nat := [0, 1, 3, 0, 8, 31, 0, 64, 255, 511, 0, 2047]
theorem spec_ReadFrame.tab5 : rtab .any (opsOf Try.f182 5) = spec_ReadFrame.T5 := by kernel_rfl
theorem spec_ReadFrame.bits5 : waitsOk spec_ReadFrame.T5.2 spec_ReadFrame.B5 = true := by kernel_rfl
set_option maxHeartbeats 8000000 in
set_option maxRecDepth 100000 in
theorem spec_ReadFrame.calls (k : Nat) (a0 : ByteArray) (r1 : Int) (r2 : Int) (r3 : Int) (r4 : ByteArray) (r5 : Int) (r6 : Bool) (w : World) (h : spec_ReadFrame.f k a0 = some (r1, r2, r3, r4, r5, r6)) :
  Calls Try.prog 182 #[.string a0] w fun e w' => e = .returned (.tuple #[.agg #[.int .i64 r1, .int .i64 r2, .int .i64 r3, .string r4], .int .i64 r5, .bool r6]) ∧ Below w.heap.size w w' := by
 have hu102 := Try.underlying102
 have HB := Aside0.mk (Below.refl w.heap.size w)
 have H : (if (a0.size : Int) = 28 then (if 0 ≤ 24 then (if 24 ≤ (a0.size : Int) then ((spec_l5On.f k 0 (a0.extract 0 24)).bind fun t401 => ((spec_l6Low.f k t401).bind fun t402 => (if t402.toList = (a0.extract 24 a0.size).toList then (if 0 ≤ 1 then (if 1 ≤ (a0.size : Int) then ((spec_l6Value.f k (a0.extract 0 1)).bind fun t403 => (if 1 ≤ 3 then (if 3 ≤ (a0.size : Int) then ((spec_l6Value.f k (a0.extract 1 3)).bind fun t404 => (if 3 ≤ 5 then (if 5 ≤ (a0.size : Int) then ((spec_l6Value.f k (a0.extract 3 5)).bind fun t405 => (if 5 < (a0.size : Int) then (if (wrap64 (bt a0 5)) > 16 then (some (0, 0, 0, (⟨#[]⟩ : ByteArray), 3, false)) else (if 6 ≤ (wrap64 (6 + (wrap64 (bt a0 5)))) then (if (wrap64 (6 + (wrap64 (bt a0 5)))) ≤ (a0.size : Int) then ((spec_GoodFrame.f t403 t404 t405 (a0.extract 6 ((wrap64 (6 + (wrap64 (bt a0 5)))) : Int).toNat)).bind fun t407 => (if t407 = true then ((spec_l6Frame.f k t403 t404 t405 (a0.extract 6 ((wrap64 (6 + (wrap64 (bt a0 5)))) : Int).toNat)).bind fun t408 => (if t408.toList = a0.toList then (some (t403, t404, t405, a0.extract 6 ((wrap64 (6 + (wrap64 (bt a0 5)))) : Int).toNat, 0, true)) else (some (0, 0, 0, (⟨#[]⟩ : ByteArray), 3, false)))) else (some (0, 0, 0, (⟨#[]⟩ : ByteArray), 3, false)))) else (none)) else (none))) else (none))) else (none)) else (none))) else (none)) else (none))) else (none)) else (none)) else (some (0, 0, 0, (⟨#[]⟩ : ByteArray), 2, false))))) else (none)) else (none)) else (some (0, 0, 0, (⟨#[]⟩ : ByteArray), 1, false))) = some (r1, r2, r3, r4, r5, r6) := h
 clear h
 by_cases c2 : (a0.size : Int) = 28
 ·rw [if_pos c2] at H
  have c2b0 : ((a0.size : Int) == 28) = true := beq_iff_eq.mpr c2
  have c2b1 : ((a0.size : Int) != 28) = false := bne_eq_false_iff_eq.mpr c2
  clear c2
  by_cases c3 : 0 ≤ 24
  ·rw [if_pos c3] at H
   have c3b0 := eq_true c3
   have c3b1 := decide_eq_true c3
   clear c3
   by_cases c4 : 24 ≤ (a0.size : Int)
   ·rw [if_pos c4] at H
    have c4b0 := eq_true c4
    have c4b1 := decide_eq_true c4
    clear c4
    replace H := Option.bind_eq_some_iff.mp H
    obtain ⟨t401, A50, H⟩ := H
    have A5 := Aside0.mk A50
    clear A50
    replace H := Option.bind_eq_some_iff.mp H
    obtain ⟨t402, A60, H⟩ := H
    have A6 := Aside0.mk A60
    clear A60
    have c7b0 := eq_true (of_decide_eq_true (by assumption) : 24 ≤ (a0.size : Int))
    by_cases c8 : t402.toList = (a0.extract 24 a0.size).toList
    ·rw [if_pos c8] at H
     have c8b0 : (t402.toList == (a0.extract 24 a0.size).toList) = true := beq_iff_eq.mpr c8
     have c8b1 : (t402.toList != (a0.extract 24 a0.size).toList) = false := bne_eq_false_iff_eq.mpr c8
     clear c8
     by_cases c9 : 0 ≤ 1
     ·rw [if_pos c9] at H
      have c9b0 := eq_true c9
      have c9b1 := decide_eq_true c9
      clear c9
      by_cases c10 : 1 ≤ (a0.size : Int)
      ·rw [if_pos c10] at H
       have c10b0 := eq_true c10
       have c10b1 := decide_eq_true c10
       clear c10
       replace H := Option.bind_eq_some_iff.mp H
       obtain ⟨t403, A110, H⟩ := H
       have A11 := Aside0.mk A110
       clear A110
       by_cases c12 : 1 ≤ 3
       ·rw [if_pos c12] at H
        have c12b0 := eq_true c12
        have c12b1 := decide_eq_true c12
        clear c12
        by_cases c13 : 3 ≤ (a0.size : Int)
        ·rw [if_pos c13] at H
         have c13b0 := eq_true c13
         have c13b1 := decide_eq_true c13
         clear c13
         replace H := Option.bind_eq_some_iff.mp H
         obtain ⟨t404, A140, H⟩ := H
         have A14 := Aside0.mk A140
         clear A140
         by_cases c15 : 3 ≤ 5
         ·rw [if_pos c15] at H
          have c15b0 := eq_true c15
          have c15b1 := decide_eq_true c15
          clear c15
          by_cases c16 : 5 ≤ (a0.size : Int)
          ·rw [if_pos c16] at H
           have c16b0 := eq_true c16
           have c16b1 := decide_eq_true c16
           clear c16
           replace H := Option.bind_eq_some_iff.mp H
           obtain ⟨t405, A170, H⟩ := H
           have A17 := Aside0.mk A170
           clear A170
           by_cases c18 : 5 < (a0.size : Int)
           ·rw [if_pos c18] at H
            have c18b0 := decide_eq_true c18
            have c18b1 : decide (5 < a0.size) = true := decide_eq_true (by omega)
            clear c18
            have HH := Aside0.mk H
            clear H
            go_enter Try.func182, Try.ntmps182
            try go_wp2_with (first | ((with_reducible refine gate_dst (N := 2) rfl ?_); refine boxE 2 #[.int .i64 0, .int .i64 0, .int .i64 0, .string (⟨#[]⟩ : ByteArray)] 102 ?_; intro gb400 hg w21 hbox hb; have BK400 := Aside0.mk (hbox); have GW400 := Aside0.mk ((by rw [hg]; exact (below_size (bez HB.out)) : w.heap.size ≤ gb400)); have GE400 := Aside0.mk ((by rw [hg]; exact (below_size (bez HB.out)) : w.heap.size ≤ gb400)); replace HB := Aside0.mk (below_step (bez HB.out) hb); clear hb hbox hg))
            replace BK400 := Aside0.mk (blk_drew BK400.out)
            replace HB := Aside0.mk (below_drew1 HB.out)
            refine start_ (n := 7) (S := fun w' => True) (ds := []) (bs 7 0) (by kernel_rfl) rfl rfl trivial (fun hHeld => ?_)
            generalize w21.drew = w22 at BK400 HB hHeld ⊢
            refine pure_ (i := 0) (N := some 11) (v := ?_) (a' := ?_) (bs 7 1) rfl rfl (by kernel_rfl) (fun _ _ _ h => h) (Or.inl ⟨by rfl, ?_⟩) ?_ ?_
            rotate_left; (intro w'; go_simp; with_reducible rfl); rotate_left; (simp only [Act.put, List.setIfInBounds_toArray, List.set_cons_zero, List.set_cons_succ, i64_w, i32_w]; rfl)
            refine pure_ (i := 1) (N := some 12) (v := ?_) (a' := ?_) (bs 7 3) rfl rfl (by kernel_rfl) (fun _ _ _ h => h) (Or.inl ⟨by rfl, ?_⟩) ?_ ?_
            rotate_left; (intro w'; go_simp; with_reducible rfl); rotate_left; (simp only [Act.put, List.setIfInBounds_toArray, List.set_cons_zero, List.set_cons_succ, i64_w, i32_w]; rfl)
            refine pure_ (i := 4) (N := some 15) (v := ?_) (a' := ?_) (bs 7 19) rfl rfl (by kernel_rfl) (fun _ _ _ h => h) (Or.inl ⟨by rfl, ?_⟩) ?_ ?_
            rotate_left; (intro w'; go_simp; with_reducible rfl); rotate_left; (simp only [Act.put, List.setIfInBounds_toArray, List.set_cons_zero, List.set_cons_succ, i64_w, i32_w]; rfl)
            refine pure_ (i := 5) (N := some 16) (v := ?_) (a' := ?_) (bs 7 51) rfl rfl (by kernel_rfl) (fun _ _ _ h => h) (Or.inl ⟨by rfl, ?_⟩) ?_ ?_
            rotate_left; (intro w'; go_simp; with_reducible rfl); rotate_left; (simp only [Act.put, List.setIfInBounds_toArray, List.set_cons_zero, List.set_cons_succ, i64_w, i32_w]; rfl)
            refine one_ (i := 2) (N := some 13) (bs 7 55) rfl rfl (by kernel_rfl) (by decide) (fun K hK => ?_)
            refine goes_ Try.func209 (by kernel_rfl) rfl #[.int .i64 0, .string (a0.extract 0 24)] (by rfl) rfl rfl (by (try simp only [List.map_toArray, List.map_cons, List.map_nil]); first | done | rfl | (simp only [List.length_drop, List.length_take]; rfl)) ?_
            with_reducible refine (spec_l5On.calls k 0 (a0.extract 0 24) t401 _ A5.out).mono ?_
            rintro e w' ⟨rfl, ⟨nd, rfl⟩⟩
            refine ⟨_, rfl, ?_⟩
            refine hK.out _ _ trivial (fun hHeld => ?_)
            clear hK K
            refine norm_ (a' := ?_) ?_ ?_
            rotate_left
            ·show Act.put _ (some 13) _ = _
             simp only [Act.put, List.setIfInBounds_toArray, List.set_cons_zero, List.set_cons_succ, i64_w, i32_w]
             rfl
            refine one_ (i := 3) (N := some 14) (bs 7 63) rfl rfl (by kernel_rfl) (by decide) (fun K hK => ?_)
            refine goes_ Try.func208 (by kernel_rfl) rfl #[.int .i64 t401] (by rfl) rfl rfl (by (try simp only [List.map_toArray, List.map_cons, List.map_nil]); first | done | rfl | (simp only [List.length_drop, List.length_take]; rfl)) ?_
            with_reducible refine (spec_l6Low.calls k t401 t402 _ A6.out).mono ?_
            rintro e w23 ⟨rfl, hb⟩
            refine ⟨_, rfl, ?_⟩
            replace BK400 := Aside0.mk (blk_below (g := gb400) (o := .cells #[.int .i64 0, .int .i64 0, .int .i64 0, .string (⟨#[]⟩ : ByteArray)] 102 (0, 0)) (blkd BK400.out) hb)
            replace HB := Aside0.mk (below_step (bel HB.out) hb)
            (try clear hb)
            (try clear hb2)
            (try clear hk)
            (try clear hi)
            refine hK.out _ _ trivial (fun hHeld => ?_)
            clear hK K
            refine norm_ (a' := ?_) ?_ ?_
            rotate_left
            ·show Act.put _ (some 14) _ = _
             simp only [Act.put, List.setIfInBounds_toArray, List.set_cons_zero, List.set_cons_succ, i64_w, i32_w]
             rfl
            refine pure_ (i := 6) (N := some 17) (v := ?_) (a' := ?_) (bs 7 127) rfl rfl (by kernel_rfl) (fun _ _ _ h => h) (Or.inl ⟨by rfl, ?_⟩) ?_ ?_
            rotate_left; (intro w'; go_simp; with_reducible rfl); rotate_left; (simp only [Act.put, List.setIfInBounds_toArray, List.set_cons_zero, List.set_cons_succ, i64_w, i32_w]; rfl)
            refine done_ (by kernel_rfl) ?_
            try go_wp2
            replace BK400 := Aside0.mk (blk_drew BK400.out)
            replace HB := Aside0.mk (below_drew1 HB.out)
            refine start_ (n := 12) (S := fun w' => True) (ds := []) (bs 12 0) (by kernel_rfl) rfl rfl trivial (fun hHeld => ?_); refine with_tabW spec_ReadFrame.tab5 spec_ReadFrame.bits5 (fun HT_ HW_ => ?_)
            generalize w23.drew = w24 at BK400 HB hHeld ⊢
            refine pureS 0 19 (bs 12 1) HT_.out (h := ?_)
            refine pureS 1 20 (bs 12 3) HT_.out (h := ?_)
            refine pureS 3 22 (bs 12 11) HT_.out (h := ?_)
            refine pureS 4 23 (bs 12 27) HT_.out (h := ?_)
            refine pureS 6 25 (bs 12 91) HT_.out (h := ?_)
            refine pureS 7 26 (bs 12 219) HT_.out (h := ?_)
            refine join_ (σ := Nat) 1 (bs 12 2047) (fun s_ => [(21, .int .i64 t403), (24, .int .i64 t404), (27, .int .i64 t405), (5, .pointer (some ⟨s_, 0, none⟩)), (28, .agg #[.int .i64 t403, .int .i64 t404, .int .i64 t405, .string (⟨#[]⟩ : ByteArray)])]) (fun s_ w' => (w'.heap[gb400]? = some (.cells #[.int .i64 0, .int .i64 0, .int .i64 0, .string (⟨#[]⟩ : ByteArray)] 102 (0, 0))) ∧ (w'.heap[s_]? = some (.cells #[.int .i64 0, .int .i64 0, .int .i64 0, .string (⟨#[]⟩ : ByteArray)] 102 (0, 0))) ∧ (w.heap.size ≤ s_) ∧ (w.heap.size ≤ s_) ∧ (gb400 ≠ s_) ∧ (s_ ≠ gb400) ∧ (Below w.heap.size w w')) ?_ ?_
            rotate_left
            ·intro hCont
             refine two_ (i := 2) (j := 10) (Ni := some 21) (Nj := some 5) (bs 12 223) (bs 12 1243) rfl rfl rfl rfl (two_of HT_.out (by kernel_rfl)) (by decide) (by decide) (fun K hK => ?_) (fun K hK => ?_)
             ·skip
              refine goes_ Try.func212 (by kernel_rfl) rfl #[.string (a0.extract 0 1)] (by rfl) rfl rfl (by (try simp only [List.map_toArray, List.map_cons, List.map_nil]); first | done | rfl | (simp only [List.length_drop, List.length_take]; rfl)) ?_
              with_reducible refine (spec_l6Value.calls k (a0.extract 0 1) t403 _ A11.out).mono ?_
              rintro e w' ⟨rfl, ⟨nd, rfl⟩⟩
              refine ⟨_, rfl, ?_⟩
              refine hK.out _ _ trivial (fun hHeld => ?_)
              clear hK K
              refine norm_ (a' := ?_) ?_ ?_
              rotate_left
              ·show Act.put _ (some 21) _ = _
               simp only [Act.put, List.setIfInBounds_toArray, List.set_cons_zero, List.set_cons_succ, i64_w, i32_w]
               rfl
              refine two_ (i := 5) (j := 10) (Ni := some 24) (Nj := some 5) (bs 12 255) (bs 12 1247) rfl rfl rfl rfl (two_of HT_.out (by kernel_rfl)) (by decide) (by decide) (fun K hK => ?_) (fun K hK => ?_)
              ·skip
               refine goes_ Try.func212 (by kernel_rfl) rfl #[.string (a0.extract 1 3)] (by rfl) rfl rfl (by (try simp only [List.map_toArray, List.map_cons, List.map_nil]); first | done | rfl | (simp only [List.length_drop, List.length_take]; rfl)) ?_
               with_reducible refine (spec_l6Value.calls k (a0.extract 1 3) t404 _ A14.out).mono ?_
               rintro e w' ⟨rfl, ⟨nd, rfl⟩⟩
               refine ⟨_, rfl, ?_⟩
               refine hK.out _ _ trivial (fun hHeld => ?_)
               clear hK K
               refine norm_ (a' := ?_) ?_ ?_
               rotate_left
               ·show Act.put _ (some 24) _ = _
                simp only [Act.put, List.setIfInBounds_toArray, List.set_cons_zero, List.set_cons_succ, i64_w, i32_w]
                rfl
               refine two_ (i := 8) (j := 10) (Ni := some 27) (Nj := some 5) (bs 12 511) (bs 12 1279) rfl rfl rfl rfl (two_of HT_.out (by kernel_rfl)) (by decide) (by decide) (fun K hK => ?_) (fun K hK => ?_)
               ·skip
                refine goes_ Try.func212 (by kernel_rfl) rfl #[.string (a0.extract 3 5)] (by rfl) rfl rfl (by (try simp only [List.map_toArray, List.map_cons, List.map_nil]); first | done | rfl | (simp only [List.length_drop, List.length_take]; rfl)) ?_
                with_reducible refine (spec_l6Value.calls k (a0.extract 3 5) t405 _ A17.out).mono ?_
                rintro e w' ⟨rfl, ⟨nd, rfl⟩⟩
                refine ⟨_, rfl, ?_⟩
                refine hK.out _ _ trivial (fun hHeld => ?_)
                clear hK K
                refine norm_ (a' := ?_) ?_ ?_
                rotate_left
                ·show Act.put _ (some 27) _ = _
                 simp only [Act.put, List.setIfInBounds_toArray, List.set_cons_zero, List.set_cons_succ, i64_w, i32_w]
                 rfl
                refine pureS 9 28 (bs 12 1023) HT_.out (h := ?_)
                refine one_ (i := 10) (N := some 5) (bs 12 2047) rfl rfl (one_of HT_.out (by kernel_rfl)) (by decide) (fun K hK => ?_)
                refine box_step ?hg (N := 5) ?hd (cs := #[.int .i64 0, .int .i64 0, .int .i64 0, .string (⟨#[]⟩ : ByteArray)]) (t := 102) ?hr ?_; (case hd => rfl); (case hg => rfl); (case hr => first | (go_simp; done) | (go_simp; rfl))
                intro gb406 hg w25 hbox hb
                have n0_ := Aside0.mk (blk_below (g := gb400) (o := .cells #[.int .i64 0, .int .i64 0, .int .i64 0, .string (⟨#[]⟩ : ByteArray)] 102 (0, 0)) (blkd BK400.out) hb)
                have n1_ := Aside0.mk (below_step (bel HB.out) hb)
                have n2_ := Aside0.mk (hbox)
                have n3_ := Aside0.mk ((by rw [hg]; exact (below_size (bel HB.out)) : w.heap.size ≤ gb406))
                have n4_ := Aside0.mk ((by rw [hg]; exact (below_size (bel HB.out)) : w.heap.size ≤ gb406))
                have n5_ := Aside0.mk ((by rw [hg]; exact Nat.ne_of_lt (blk_lt (g := gb400) (o := .cells #[.int .i64 0, .int .i64 0, .int .i64 0, .string (⟨#[]⟩ : ByteArray)] 102 (0, 0)) (blkd BK400.out)) : gb400 ≠ gb406))
                have n6_ := Aside0.mk ((by rw [hg]; exact Nat.ne_of_gt (blk_lt (g := gb400) (o := .cells #[.int .i64 0, .int .i64 0, .int .i64 0, .string (⟨#[]⟩ : ByteArray)] 102 (0, 0)) (blkd BK400.out)) : gb406 ≠ gb400))
                clear BK400 HB
                have BK400 := n0_
                have HB := n1_
                have BK406 := n2_
                have GW406 := n3_
                have GE406 := n4_
                have NB400_406 := n5_
                have NB406_400 := n6_
                clear n0_ n1_ n2_ n3_ n4_ n5_ n6_
                clear hb hbox hg
                refine hK.out _ _ trivial (fun hHeld => ?_)
                clear hK K
                refine norm_ (a' := ?_) ?_ ?_
                rotate_left
                ·show Act.put _ (some 5) _ = _
                 simp only [Act.put, List.setIfInBounds_toArray, List.set_cons_zero, List.set_cons_succ, i64_w, i32_w]
                 rfl
                exact norm_ (by simp only [putAll, Act.put, List.setIfInBounds_toArray, List.set_cons_zero, List.set_cons_succ]) (hCont (gb406) _ ⟨(blkd BK400.out), (blkd BK406.out), GW406.out, GE406.out, NB400_406.out, NB406_400.out, (bel HB.out)⟩)
               ·skip
                refine box_step ?hg (N := 5) ?hd (cs := #[.int .i64 0, .int .i64 0, .int .i64 0, .string (⟨#[]⟩ : ByteArray)]) (t := 102) ?hr ?_; (case hd => rfl); (case hg => rfl); (case hr => first | (go_simp; done) | (go_simp; rfl))
                intro gb406 hg w25 hbox hb
                have n0_ := Aside0.mk (blk_below (g := gb400) (o := .cells #[.int .i64 0, .int .i64 0, .int .i64 0, .string (⟨#[]⟩ : ByteArray)] 102 (0, 0)) (blkd BK400.out) hb)
                have n1_ := Aside0.mk (below_step (bel HB.out) hb)
                have n2_ := Aside0.mk (hbox)
                have n3_ := Aside0.mk ((by rw [hg]; exact (below_size (bel HB.out)) : w.heap.size ≤ gb406))
                have n4_ := Aside0.mk ((by rw [hg]; exact (below_size (bel HB.out)) : w.heap.size ≤ gb406))
                have n5_ := Aside0.mk ((by rw [hg]; exact Nat.ne_of_lt (blk_lt (g := gb400) (o := .cells #[.int .i64 0, .int .i64 0, .int .i64 0, .string (⟨#[]⟩ : ByteArray)] 102 (0, 0)) (blkd BK400.out)) : gb400 ≠ gb406))
                have n6_ := Aside0.mk ((by rw [hg]; exact Nat.ne_of_gt (blk_lt (g := gb400) (o := .cells #[.int .i64 0, .int .i64 0, .int .i64 0, .string (⟨#[]⟩ : ByteArray)] 102 (0, 0)) (blkd BK400.out)) : gb406 ≠ gb400))
                clear BK400 HB
                have BK400 := n0_
                have HB := n1_
                have BK406 := n2_
                have GW406 := n3_
                have GE406 := n4_
                have NB400_406 := n5_
                have NB406_400 := n6_
                clear n0_ n1_ n2_ n3_ n4_ n5_ n6_
                clear hb hbox hg
                refine hK.out _ _ trivial (fun hHeld => ?_)
                clear hK K
                refine norm_ (a' := ?_) ?_ ?_
                rotate_left
                ·show Act.put _ (some 5) _ = _
                 simp only [Act.put, List.setIfInBounds_toArray, List.set_cons_zero, List.set_cons_succ, i64_w, i32_w]
                 rfl
                refine one_ (i := 8) (N := some 27) (bs 12 1535) rfl rfl (one_of HT_.out (by kernel_rfl)) (by decide) (fun K hK => ?_)
                refine goes_ Try.func212 (by kernel_rfl) rfl #[.string (a0.extract 3 5)] (by rfl) rfl rfl (by (try simp only [List.map_toArray, List.map_cons, List.map_nil]); first | done | rfl | (simp only [List.length_drop, List.length_take]; rfl)) ?_
                with_reducible refine (spec_l6Value.calls k (a0.extract 3 5) t405 _ A17.out).mono ?_
                rintro e w' ⟨rfl, ⟨nd, rfl⟩⟩
                refine ⟨_, rfl, ?_⟩
                refine hK.out _ _ trivial (fun hHeld => ?_)
                clear hK K
                refine norm_ (a' := ?_) ?_ ?_
                rotate_left
                ·show Act.put _ (some 27) _ = _
                 simp only [Act.put, List.setIfInBounds_toArray, List.set_cons_zero, List.set_cons_succ, i64_w, i32_w]
                 rfl
                refine pureS 9 28 (bs 12 2047) HT_.out (h := ?_)
                exact norm_ (by simp only [putAll, Act.put, List.setIfInBounds_toArray, List.set_cons_zero, List.set_cons_succ]) (hCont (gb406) _ ⟨(blkd BK400.out), (blkd BK406.out), GW406.out, GE406.out, NB400_406.out, NB406_400.out, (bel HB.out)⟩)
              ·skip
               refine box_step ?hg (N := 5) ?hd (cs := #[.int .i64 0, .int .i64 0, .int .i64 0, .string (⟨#[]⟩ : ByteArray)]) (t := 102) ?hr ?_; (case hd => rfl); (case hg => rfl); (case hr => first | (go_simp; done) | (go_simp; rfl))
               intro gb406 hg w25 hbox hb
               have n0_ := Aside0.mk (blk_below (g := gb400) (o := .cells #[.int .i64 0, .int .i64 0, .int .i64 0, .string (⟨#[]⟩ : ByteArray)] 102 (0, 0)) (blkd BK400.out) hb)
               have n1_ := Aside0.mk (below_step (bel HB.out) hb)
               have n2_ := Aside0.mk (hbox)
               have n3_ := Aside0.mk ((by rw [hg]; exact (below_size (bel HB.out)) : w.heap.size ≤ gb406))
               have n4_ := Aside0.mk ((by rw [hg]; exact (below_size (bel HB.out)) : w.heap.size ≤ gb406))
               have n5_ := Aside0.mk ((by rw [hg]; exact Nat.ne_of_lt (blk_lt (g := gb400) (o := .cells #[.int .i64 0, .int .i64 0, .int .i64 0, .string (⟨#[]⟩ : ByteArray)] 102 (0, 0)) (blkd BK400.out)) : gb400 ≠ gb406))
               have n6_ := Aside0.mk ((by rw [hg]; exact Nat.ne_of_gt (blk_lt (g := gb400) (o := .cells #[.int .i64 0, .int .i64 0, .int .i64 0, .string (⟨#[]⟩ : ByteArray)] 102 (0, 0)) (blkd BK400.out)) : gb406 ≠ gb400))
               clear BK400 HB
               have BK400 := n0_
               have HB := n1_
               have BK406 := n2_
               have GW406 := n3_
               have GE406 := n4_
               have NB400_406 := n5_
               have NB406_400 := n6_
               clear n0_ n1_ n2_ n3_ n4_ n5_ n6_
               clear hb hbox hg
               refine hK.out _ _ trivial (fun hHeld => ?_)
               clear hK K
               refine norm_ (a' := ?_) ?_ ?_
               rotate_left
               ·show Act.put _ (some 5) _ = _
                simp only [Act.put, List.setIfInBounds_toArray, List.set_cons_zero, List.set_cons_succ, i64_w, i32_w]
                rfl
               refine one_ (i := 5) (N := some 24) (bs 12 1279) rfl rfl (one_of HT_.out (by kernel_rfl)) (by decide) (fun K hK => ?_)
               refine goes_ Try.func212 (by kernel_rfl) rfl #[.string (a0.extract 1 3)] (by rfl) rfl rfl (by (try simp only [List.map_toArray, List.map_cons, List.map_nil]); first | done | rfl | (simp only [List.length_drop, List.length_take]; rfl)) ?_
               with_reducible refine (spec_l6Value.calls k (a0.extract 1 3) t404 _ A14.out).mono ?_
               rintro e w' ⟨rfl, ⟨nd, rfl⟩⟩
               refine ⟨_, rfl, ?_⟩
               refine hK.out _ _ trivial (fun hHeld => ?_)
               clear hK K
               refine norm_ (a' := ?_) ?_ ?_
               rotate_left
               ·show Act.put _ (some 24) _ = _
                simp only [Act.put, List.setIfInBounds_toArray, List.set_cons_zero, List.set_cons_succ, i64_w, i32_w]
                rfl
               refine one_ (i := 8) (N := some 27) (bs 12 1535) rfl rfl (one_of HT_.out (by kernel_rfl)) (by decide) (fun K hK => ?_)
               refine goes_ Try.func212 (by kernel_rfl) rfl #[.string (a0.extract 3 5)] (by rfl) rfl rfl (by (try simp only [List.map_toArray, List.map_cons, List.map_nil]); first | done | rfl | (simp only [List.length_drop, List.length_take]; rfl)) ?_
               with_reducible refine (spec_l6Value.calls k (a0.extract 3 5) t405 _ A17.out).mono ?_
               rintro e w' ⟨rfl, ⟨nd, rfl⟩⟩
               refine ⟨_, rfl, ?_⟩
               refine hK.out _ _ trivial (fun hHeld => ?_)
               clear hK K
               refine norm_ (a' := ?_) ?_ ?_
               rotate_left
               ·show Act.put _ (some 27) _ = _
                simp only [Act.put, List.setIfInBounds_toArray, List.set_cons_zero, List.set_cons_succ, i64_w, i32_w]
                rfl
               refine pureS 9 28 (bs 12 2047) HT_.out (h := ?_)
               exact norm_ (by simp only [putAll, Act.put, List.setIfInBounds_toArray, List.set_cons_zero, List.set_cons_succ]) (hCont (gb406) _ ⟨(blkd BK400.out), (blkd BK406.out), GW406.out, GE406.out, NB400_406.out, NB406_400.out, (bel HB.out)⟩)
             ·skip
              refine box_step ?hg (N := 5) ?hd (cs := #[.int .i64 0, .int .i64 0, .int .i64 0, .string (⟨#[]⟩ : ByteArray)]) (t := 102) ?hr ?_; (case hd => rfl); (case hg => rfl); (case hr => first | (go_simp; done) | (go_simp; rfl))
              intro gb406 hg w25 hbox hb
              have n0_ := Aside0.mk (blk_below (g := gb400) (o := .cells #[.int .i64 0, .int .i64 0, .int .i64 0, .string (⟨#[]⟩ : ByteArray)] 102 (0, 0)) (blkd BK400.out) hb)
              have n1_ := Aside0.mk (below_step (bel HB.out) hb)
              have n2_ := Aside0.mk (hbox)
              have n3_ := Aside0.mk ((by rw [hg]; exact (below_size (bel HB.out)) : w.heap.size ≤ gb406))
              have n4_ := Aside0.mk ((by rw [hg]; exact (below_size (bel HB.out)) : w.heap.size ≤ gb406))
              have n5_ := Aside0.mk ((by rw [hg]; exact Nat.ne_of_lt (blk_lt (g := gb400) (o := .cells #[.int .i64 0, .int .i64 0, .int .i64 0, .string (⟨#[]⟩ : ByteArray)] 102 (0, 0)) (blkd BK400.out)) : gb400 ≠ gb406))
              have n6_ := Aside0.mk ((by rw [hg]; exact Nat.ne_of_gt (blk_lt (g := gb400) (o := .cells #[.int .i64 0, .int .i64 0, .int .i64 0, .string (⟨#[]⟩ : ByteArray)] 102 (0, 0)) (blkd BK400.out)) : gb406 ≠ gb400))
              clear BK400 HB
              have BK400 := n0_
              have HB := n1_
              have BK406 := n2_
              have GW406 := n3_
              have GE406 := n4_
              have NB400_406 := n5_
              have NB406_400 := n6_
              clear n0_ n1_ n2_ n3_ n4_ n5_ n6_
              clear hb hbox hg
              refine hK.out _ _ trivial (fun hHeld => ?_)
              clear hK K
              refine norm_ (a' := ?_) ?_ ?_
              rotate_left
              ·show Act.put _ (some 5) _ = _
               simp only [Act.put, List.setIfInBounds_toArray, List.set_cons_zero, List.set_cons_succ, i64_w, i32_w]
               rfl
              refine one_ (i := 2) (N := some 21) (bs 12 1247) rfl rfl (one_of HT_.out (by kernel_rfl)) (by decide) (fun K hK => ?_)
              refine goes_ Try.func212 (by kernel_rfl) rfl #[.string (a0.extract 0 1)] (by rfl) rfl rfl (by (try simp only [List.map_toArray, List.map_cons, List.map_nil]); first | done | rfl | (simp only [List.length_drop, List.length_take]; rfl)) ?_
              with_reducible refine (spec_l6Value.calls k (a0.extract 0 1) t403 _ A11.out).mono ?_
              rintro e w' ⟨rfl, ⟨nd, rfl⟩⟩
              refine ⟨_, rfl, ?_⟩
              refine hK.out _ _ trivial (fun hHeld => ?_)
              clear hK K
              refine norm_ (a' := ?_) ?_ ?_
              rotate_left
              ·show Act.put _ (some 21) _ = _
               simp only [Act.put, List.setIfInBounds_toArray, List.set_cons_zero, List.set_cons_succ, i64_w, i32_w]
               rfl
              refine one_ (i := 5) (N := some 24) (bs 12 1279) rfl rfl (one_of HT_.out (by kernel_rfl)) (by decide) (fun K hK => ?_)
              refine goes_ Try.func212 (by kernel_rfl) rfl #[.string (a0.extract 1 3)] (by rfl) rfl rfl (by (try simp only [List.map_toArray, List.map_cons, List.map_nil]); first | done | rfl | (simp only [List.length_drop, List.length_take]; rfl)) ?_
              with_reducible refine (spec_l6Value.calls k (a0.extract 1 3) t404 _ A14.out).mono ?_
              rintro e w' ⟨rfl, ⟨nd, rfl⟩⟩
              refine ⟨_, rfl, ?_⟩
              refine hK.out _ _ trivial (fun hHeld => ?_)
              clear hK K
              refine norm_ (a' := ?_) ?_ ?_
              rotate_left
              ·show Act.put _ (some 24) _ = _
               simp only [Act.put, List.setIfInBounds_toArray, List.set_cons_zero, List.set_cons_succ, i64_w, i32_w]
               rfl
              refine one_ (i := 8) (N := some 27) (bs 12 1535) rfl rfl (one_of HT_.out (by kernel_rfl)) (by decide) (fun K hK => ?_)
              refine goes_ Try.func212 (by kernel_rfl) rfl #[.string (a0.extract 3 5)] (by rfl) rfl rfl (by (try simp only [List.map_toArray, List.map_cons, List.map_nil]); first | done | rfl | (simp only [List.length_drop, List.length_take]; rfl)) ?_
              with_reducible refine (spec_l6Value.calls k (a0.extract 3 5) t405 _ A17.out).mono ?_
              rintro e w' ⟨rfl, ⟨nd, rfl⟩⟩
              refine ⟨_, rfl, ?_⟩
              refine hK.out _ _ trivial (fun hHeld => ?_)
              clear hK K
              refine norm_ (a' := ?_) ?_ ?_
              rotate_left
              ·show Act.put _ (some 27) _ = _
               simp only [Act.put, List.setIfInBounds_toArray, List.set_cons_zero, List.set_cons_succ, i64_w, i32_w]
               rfl
              refine pureS 9 28 (bs 12 2047) HT_.out (h := ?_)
              exact norm_ (by simp only [putAll, Act.put, List.setIfInBounds_toArray, List.set_cons_zero, List.set_cons_succ]) (hCont (gb406) _ ⟨(blkd BK400.out), (blkd BK406.out), GW406.out, GE406.out, NB400_406.out, NB406_400.out, (bel HB.out)⟩)
            rintro gb406 w26 ⟨h0_, h1_, h2_, h3_, h4_, h5_, h6_⟩
            have n0_ : Aside0 (w26.heap[gb400]? = some (.cells #[.int .i64 0, .int .i64 0, .int .i64 0, .string (⟨#[]⟩ : ByteArray)] 102 (0, 0))) := ⟨h0_⟩
            have n1_ : Aside0 (w26.heap[gb406]? = some (.cells #[.int .i64 0, .int .i64 0, .int .i64 0, .string (⟨#[]⟩ : ByteArray)] 102 (0, 0))) := ⟨h1_⟩
            have n2_ : Aside0 (w.heap.size ≤ gb406) := ⟨h2_⟩
            have n3_ : Aside0 (w.heap.size ≤ gb406) := ⟨h3_⟩
            have n4_ : Aside0 (gb400 ≠ gb406) := ⟨h4_⟩
            have n5_ : Aside0 (gb406 ≠ gb400) := ⟨h5_⟩
            have n6_ : Aside0 (Below w.heap.size w w26) := ⟨h6_⟩
            clear BK400 HB
            clear h0_ h1_ h2_ h3_ h4_ h5_ h6_
            have BK400 := n0_
            have BK406 := n1_
            have GW406 := n2_
            have GE406 := n3_
            have NB400_406 := n4_
            have NB406_400 := n5_
            have HB := n6_
            clear n0_ n1_ n2_ n3_ n4_ n5_ n6_
            have hHeld := trivial
            refine norm_ (a' := ?_) ?_ ?_
            rotate_left
            ·simp only [putAll, Act.put, List.setIfInBounds_toArray, List.set_cons_zero, List.set_cons_succ]
             rfl
            refine one_ (i := 11) (N := none) (bs 12 4095) rfl rfl (one_of HT_.out (by kernel_rfl)) (by decide) (fun K hK => ?_)
            have hs27 : w26.cell? ⟨gb406, 0, none⟩ = some (.int .i64 0) := (blk_cell BK406.out 0).trans rfl
            have hfs27 := blk_frozen BK406.out 0
            have hns27_0 := NB400_406.out
            have hms27_0 := NB406_400.out
            have hs28 : w26.cell? ⟨gb406, 1, none⟩ = some (.int .i64 0) := (blk_cell BK406.out 1).trans rfl
            have hfs28 := blk_frozen BK406.out 1
            have hns28_0 := NB400_406.out
            have hms28_0 := NB406_400.out
            have hs29 : w26.cell? ⟨gb406, 2, none⟩ = some (.int .i64 0) := (blk_cell BK406.out 2).trans rfl
            have hfs29 := blk_frozen BK406.out 2
            have hns29_0 := NB400_406.out
            have hms29_0 := NB406_400.out
            have hs30 : w26.cell? ⟨gb406, 3, none⟩ = some (.string (⟨#[]⟩ : ByteArray)) := (blk_cell BK406.out 3).trans rfl
            have hfs30 := blk_frozen BK406.out 3
            have hns30_0 := NB400_406.out
            have hms30_0 := NB406_400.out
            refine skip_ (w1 := ?_) (by rfl) rfl ?_ ?_
            rotate_left
            ·go_simp
             rfl
            refine hK.out _ _ trivial (fun hHeld => ?_)
            clear hK K
            refine done_ (done_of HT_.out (by kernel_rfl)) ?_
            have H := HH.out
            clear HH
            obtain ⟨W5, hW5⟩ : ∃ W5 : World, W5 = (((w26.setCell ⟨gb406, 0, none⟩ (.int .i64 t403)).setCell ⟨gb406, 1, none⟩ (.int .i64 t404)).setCell ⟨gb406, 2, none⟩ (.int .i64 t405)).setCell ⟨gb406, 3, none⟩ (.string (⟨#[]⟩ : ByteArray)) := ⟨_, rfl⟩
            have BK5 := Aside0.mk (show W5.heap[gb406]? = some (.cells #[.int .i64 t403, .int .i64 t404, .int .i64 t405, .string (⟨#[]⟩ : ByteArray)] 102 (0, 0)) by rw [hW5]; exact blk_put (blk_put (blk_put (blk_put BK406.out 0 _ rfl) 1 _ rfl) 2 _ rfl) 3 _ rfl)
            have BK2 := Aside0.mk (show W5.heap[gb400]? = some (.cells #[.int .i64 0, .int .i64 0, .int .i64 0, .string (⟨#[]⟩ : ByteArray)] 102 (0, 0)) by rw [hW5]; exact blk_far (blk_far (blk_far (blk_far BK400.out NB400_406.out _) NB400_406.out _) NB400_406.out _) NB400_406.out _)
            have HB5 := Aside0.mk (show Below w.heap.size w W5 by rw [hW5]; exact below_set (below_set (below_set (below_set HB.out GE406.out) GE406.out) GE406.out) GE406.out)
            have GE2 := GE400
            have GE5 := GE406
            have hne := NB400_406.out
            have hne2 := NB406_400.out
            rw [← hW5]
            clear HB
            have HB := HB5
            clear HB5 hW5 BK406 BK400 hs27 hfs27 hns27_0 hms27_0 hs28 hfs28 hns28_0 hms28_0 hs29 hfs29 hns29_0 hms29_0 hs30 hfs30 hns30_0 hms30_0
            clear hHeld
            have hbr := bt_range a0 5
            obtain ⟨n, hn⟩ : ∃ n : Nat, bt a0 5 = (n : Int) := ⟨(bt a0 5).toNat, by omega⟩
            have hn255 : n ≤ 255 := by omega
            have ew : wrap64 (n : Int) = (n : Int) := by unfold wrap64; omega
            have ew2 : wrap64 (6 + (n : Int)) = 6 + (n : Int) := by unfold wrap64; omega
            have h28 : (a0.size : Int) = 28 := by
             first | exact beq_iff_eq.1 (by assumption) | omega
            have h5 : 5 < a0.size := by omega
            have hx : ∀ h : 5 < a0.size, ((a0[5]'h).toNat : Int) = (n : Int) := fun h => (bt_at a0 5 h).trans hn
            have q5 := eq_true h5
            have qi5 : (5 < (a0.size : Int)) = True := eq_true (by omega)
            rw [hn, ew, ew2, show (6 + (n : Int)).toNat = 6 + n by omega] at H
            clear hbr hn ew ew2 h5
            by_cases c20 : (n : Int) > 16
            ·rw [if_pos c20] at H
             have c20b := decide_eq_true c20
             have c20c : decide (16 < n) = true := decide_eq_true (by omega)
             simp only [Option.some.injEq, Prod.mk.injEq] at H
             obtain ⟨rfl, rfl, rfl, rfl, rfl, rfl⟩ := H
             have z0 : W5.cell? ⟨gb400, 0, none⟩ = some (.int .i64 0) := (blk_cell BK2.out 0).trans rfl
             have z1 : W5.cell? ⟨gb400, 1, none⟩ = some (.int .i64 0) := (blk_cell BK2.out 1).trans rfl
             have z2 : W5.cell? ⟨gb400, 2, none⟩ = some (.int .i64 0) := (blk_cell BK2.out 2).trans rfl
             have z3 : W5.cell? ⟨gb400, 3, none⟩ = some (.string (⟨#[]⟩ : ByteArray)) := (blk_cell BK2.out 3).trans rfl
             have zf0 := blk_frozen BK2.out 0
             have zf1 := blk_frozen BK2.out 1
             have zf2 := blk_frozen BK2.out 2
             have zf3 := blk_frozen BK2.out 3
             clear c20 h28
             go_wp2
             refine bodyPost_ret (results_ctt rfl _ _ gb400 102 #[.int .i64 0, .int .i64 0, .int .i64 0, .string (⟨#[]⟩ : ByteArray)] (0, 0) _ rfl (blkp BK2.out) Try.underlying102 rfl (by kernel_rfl)) rfl ?_
             exact ⟨by first | rfl | (simp [*] <;> rfl), (bel HB.out)⟩
            rw [if_neg c20] at H
            have hn16 : n ≤ 16 := by omega
            have c20b := decide_eq_false c20
            have c20c : decide (16 < n) = false := decide_eq_false (by omega)
            rw [if_pos (by omega), if_pos (by omega)] at H
            have hsl : ∀ W : World, (Instr.slice 9 (.string a0) (some (.int .i64 6)) (some (.int .i64 (6 + (n : Int)))) none).run Try.prog W = .ok (.string (a0.extract 6 (6 + n))) W := fun W => by
             rw [run_slice_string_if W 9 a0 .i64 .i64 6 (6 + (n : Int)) Try.underlying9, if_pos ⟨by omega, by omega⟩, if_pos ⟨by omega, by omega⟩, show (6 + (n : Int)).toNat = 6 + n by omega]
             rfl
            replace H := Option.bind_eq_some_iff.mp H
            obtain ⟨b, hb0, H⟩ := H
            have cG := fun w => spec_GoodFrame.calls t403 t404 t405 (a0.extract 6 (6 + n)) b w hb0
            have HH := Aside0.mk H
            have y3 : W5.cell? ⟨gb406, 3, none⟩ = some (.string (⟨#[]⟩ : ByteArray)) := (blk_cell BK5.out 3).trans rfl
            have yf3 := blk_frozen BK5.out 3
            clear H c20 h28 hb0
            go_upto_region 10 with (fail)
            clear y3 yf3 hsl
            obtain ⟨W6, hW6⟩ : ∃ W6 : World, W6 = W5.setCell ⟨gb406, 3, none⟩ (.string (a0.extract 6 (6 + n))) := ⟨_, rfl⟩
            have BK6 := Aside0.mk (show W6.heap[gb406]? = some (.cells #[.int .i64 t403, .int .i64 t404, .int .i64 t405, .string (a0.extract 6 (6 + n))] 102 (0, 0)) by rw [hW6]; exact blk_put BK5.out 3 _ rfl)
            have BK7 := Aside0.mk (show W6.heap[gb400]? = some (.cells #[.int .i64 0, .int .i64 0, .int .i64 0, .string (⟨#[]⟩ : ByteArray)] 102 (0, 0)) by rw [hW6]; exact blk_far BK2.out hne _)
            have HB6 := Aside0.mk (show Below w.heap.size w W6 by rw [hW6]; exact below_set HB.out GE5.out)
            rw [← hW6]
            clear hW6 BK5 BK2 HB
            have BK2 := BK7
            have BK5 := BK6
            have HB := HB6
            clear BK7 BK6 HB6
            have y0 : W6.cell? ⟨gb406, 0, none⟩ = some (.int .i64 t403) := (blk_cell BK5.out 0).trans rfl
            have y1 : W6.cell? ⟨gb406, 1, none⟩ = some (.int .i64 t404) := (blk_cell BK5.out 1).trans rfl
            have y2 : W6.cell? ⟨gb406, 2, none⟩ = some (.int .i64 t405) := (blk_cell BK5.out 2).trans rfl
            have y3 : W6.cell? ⟨gb406, 3, none⟩ = some (.string (a0.extract 6 (6 + n))) := (blk_cell BK5.out 3).trans rfl
            go_wp2_with fail
            refine (cG _).mono ?_
            rintro e w7 ⟨rfl, hb⟩
            replace BK5 := Aside0.mk (blk_below BK5.out hb)
            replace BK2 := Aside0.mk (blk_below BK2.out hb)
            replace HB := Aside0.mk (below_step HB.out hb)
            clear hb y0 y1 y2 y3 cG
            cases b with
            | false =>
             have H := HH.out
             rw [if_neg (by decide)] at H
             simp only [Option.some.injEq, Prod.mk.injEq] at H
             obtain ⟨rfl, rfl, rfl, rfl, rfl, rfl⟩ := H
             have z0 : w7.cell? ⟨gb400, 0, none⟩ = some (.int .i64 0) := (blk_cell BK2.out 0).trans rfl
             have z1 : w7.cell? ⟨gb400, 1, none⟩ = some (.int .i64 0) := (blk_cell BK2.out 1).trans rfl
             have z2 : w7.cell? ⟨gb400, 2, none⟩ = some (.int .i64 0) := (blk_cell BK2.out 2).trans rfl
             have z3 : w7.cell? ⟨gb400, 3, none⟩ = some (.string (⟨#[]⟩ : ByteArray)) := (blk_cell BK2.out 3).trans rfl
             have zf0 := blk_frozen BK2.out 0
             have zf1 := blk_frozen BK2.out 1
             have zf2 := blk_frozen BK2.out 2
             have zf3 := blk_frozen BK2.out 3
             go_wp2
             refine bodyPost_ret (results_ctt rfl _ _ gb400 102 #[.int .i64 0, .int .i64 0, .int .i64 0, .string (⟨#[]⟩ : ByteArray)] (0, 0) _ rfl (blkp BK2.out) Try.underlying102 rfl (by kernel_rfl)) rfl ?_
             exact ⟨by first | rfl | (simp [*] <;> rfl), (bel HB.out)⟩
            | true =>
             have H := HH.out
             rw [if_pos rfl] at H
             replace H := Option.bind_eq_some_iff.mp H
             obtain ⟨tt, ht0, H⟩ := H
             have cF := fun w => spec_l6Frame.calls k t403 t404 t405 (a0.extract 6 (6 + n)) tt w ht0
             have y0 : w7.cell? ⟨gb406, 0, none⟩ = some (.int .i64 t403) := (blk_cell BK5.out 0).trans rfl
             have y1 : w7.cell? ⟨gb406, 1, none⟩ = some (.int .i64 t404) := (blk_cell BK5.out 1).trans rfl
             have y2 : w7.cell? ⟨gb406, 2, none⟩ = some (.int .i64 t405) := (blk_cell BK5.out 2).trans rfl
             have y3 : w7.cell? ⟨gb406, 3, none⟩ = some (.string (a0.extract 6 (6 + n))) := (blk_cell BK5.out 3).trans rfl
             clear HH
             have HH := Aside0.mk H
             clear H ht0
             go_wp2_with fail
             refine (cF _).mono ?_
             rintro e w8 ⟨rfl, hb⟩
             replace BK5 := Aside0.mk (blk_below BK5.out hb)
             replace BK2 := Aside0.mk (blk_below BK2.out hb)
             replace HB := Aside0.mk (below_step HB.out hb)
             clear hb y0 y1 y2 y3 cF
             have z0 : w8.cell? ⟨gb400, 0, none⟩ = some (.int .i64 0) := (blk_cell BK2.out 0).trans rfl
             have z1 : w8.cell? ⟨gb400, 1, none⟩ = some (.int .i64 0) := (blk_cell BK2.out 1).trans rfl
             have z2 : w8.cell? ⟨gb400, 2, none⟩ = some (.int .i64 0) := (blk_cell BK2.out 2).trans rfl
             have z3 : w8.cell? ⟨gb400, 3, none⟩ = some (.string (⟨#[]⟩ : ByteArray)) := (blk_cell BK2.out 3).trans rfl
             have zf0 := blk_frozen BK2.out 0
             have zf1 := blk_frozen BK2.out 1
             have zf2 := blk_frozen BK2.out 2
             have zf3 := blk_frozen BK2.out 3
             have H := HH.out
             clear HH
             by_cases c38 : tt.toList = a0.toList
             ·rw [if_pos c38] at H
              have c38b0 : (tt.toList == a0.toList) = true := beq_iff_eq.mpr c38
              have c38b1 : (tt.toList != a0.toList) = false := bne_eq_false_iff_eq.mpr c38
              simp only [Option.some.injEq, Prod.mk.injEq] at H
              obtain ⟨rfl, rfl, rfl, rfl, rfl, rfl⟩ := H
              have y0 : w8.cell? ⟨gb406, 0, none⟩ = some (.int .i64 t403) := (blk_cell BK5.out 0).trans rfl
              have y1 : w8.cell? ⟨gb406, 1, none⟩ = some (.int .i64 t404) := (blk_cell BK5.out 1).trans rfl
              have y2 : w8.cell? ⟨gb406, 2, none⟩ = some (.int .i64 t405) := (blk_cell BK5.out 2).trans rfl
              have y3 : w8.cell? ⟨gb406, 3, none⟩ = some (.string (a0.extract 6 (6 + n))) := (blk_cell BK5.out 3).trans rfl
              clear c38
              go_wp2
              refine bodyPost_ret (results_ctt rfl _ _ gb400 102 #[.int .i64 t403, .int .i64 t404, .int .i64 t405, .string (a0.extract 6 (6 + n))] (0, 0) _ rfl (blkp BK2.out) Try.underlying102 rfl (by kernel_rfl)) rfl ?_
              exact ⟨by first | rfl | (simp [*] <;> rfl), (bel HB.out)⟩
             ·rw [if_neg c38] at H
              have c38b0 : (tt.toList == a0.toList) = false := beq_eq_false_iff_ne.mpr c38
              have c38b1 : (tt.toList != a0.toList) = true := bne_iff_ne.mpr c38
              simp only [Option.some.injEq, Prod.mk.injEq] at H
              obtain ⟨rfl, rfl, rfl, rfl, rfl, rfl⟩ := H
              clear c38
              go_wp2
              refine bodyPost_ret (results_ctt rfl _ _ gb400 102 #[.int .i64 0, .int .i64 0, .int .i64 0, .string (⟨#[]⟩ : ByteArray)] (0, 0) _ rfl (blkp BK2.out) Try.underlying102 rfl (by kernel_rfl)) rfl ?_
              exact ⟨by first | rfl | (simp [*] <;> rfl), (bel HB.out)⟩
           ·rw [if_neg c18] at H
            exact absurd H (by simp)
          ·rw [if_neg c16] at H
           exact absurd H (by simp)
         ·rw [if_neg c15] at H
          exact absurd H (by simp)
        ·rw [if_neg c13] at H
         exact absurd H (by simp)
       ·rw [if_neg c12] at H
        exact absurd H (by simp)
      ·rw [if_neg c10] at H
       exact absurd H (by simp)
     ·rw [if_neg c9] at H
      exact absurd H (by simp)
    ·rw [if_neg c8] at H
     have c8b0 : (t402.toList == (a0.extract 24 a0.size).toList) = false := beq_eq_false_iff_ne.mpr c8
     have c8b1 : (t402.toList != (a0.extract 24 a0.size).toList) = true := bne_iff_ne.mpr c8
     simp only [Option.some.injEq, Prod.mk.injEq] at H
     obtain ⟨rfl, rfl, rfl, rfl, rfl, rfl⟩ := H
     go_enter Try.func182, Try.ntmps182
     try go_wp2_with (first | ((with_reducible refine gate_dst (N := 2) rfl ?_); refine boxE 2 #[.int .i64 0, .int .i64 0, .int .i64 0, .string (⟨#[]⟩ : ByteArray)] 102 ?_; intro gb400 hg w86 hbox hb; have BK400 := Aside0.mk (hbox); have GW400 := Aside0.mk ((by rw [hg]; exact (below_size (bez HB.out)) : w.heap.size ≤ gb400)); have GE400 := Aside0.mk ((by rw [hg]; exact (below_size (bez HB.out)) : w.heap.size ≤ gb400)); replace HB := Aside0.mk (below_step (bez HB.out) hb); clear hb hbox hg))
     replace BK400 := Aside0.mk (blk_drew BK400.out)
     replace HB := Aside0.mk (below_drew1 HB.out)
     refine start_ (n := 7) (S := fun w' => True) (ds := []) (bs 7 0) (by kernel_rfl) rfl rfl trivial (fun hHeld => ?_)
     generalize w86.drew = w87 at BK400 HB hHeld ⊢
     refine pure_ (i := 0) (N := some 11) (v := ?_) (a' := ?_) (bs 7 1) rfl rfl (by kernel_rfl) (fun _ _ _ h => h) (Or.inl ⟨by rfl, ?_⟩) ?_ ?_
     rotate_left; (intro w'; go_simp; with_reducible rfl); rotate_left; (simp only [Act.put, List.setIfInBounds_toArray, List.set_cons_zero, List.set_cons_succ, i64_w, i32_w]; rfl)
     refine pure_ (i := 1) (N := some 12) (v := ?_) (a' := ?_) (bs 7 3) rfl rfl (by kernel_rfl) (fun _ _ _ h => h) (Or.inl ⟨by rfl, ?_⟩) ?_ ?_
     rotate_left; (intro w'; go_simp; with_reducible rfl); rotate_left; (simp only [Act.put, List.setIfInBounds_toArray, List.set_cons_zero, List.set_cons_succ, i64_w, i32_w]; rfl)
     refine pure_ (i := 4) (N := some 15) (v := ?_) (a' := ?_) (bs 7 19) rfl rfl (by kernel_rfl) (fun _ _ _ h => h) (Or.inl ⟨by rfl, ?_⟩) ?_ ?_
     rotate_left; (intro w'; go_simp; with_reducible rfl); rotate_left; (simp only [Act.put, List.setIfInBounds_toArray, List.set_cons_zero, List.set_cons_succ, i64_w, i32_w]; rfl)
     refine pure_ (i := 5) (N := some 16) (v := ?_) (a' := ?_) (bs 7 51) rfl rfl (by kernel_rfl) (fun _ _ _ h => h) (Or.inl ⟨by rfl, ?_⟩) ?_ ?_
     rotate_left; (intro w'; go_simp; with_reducible rfl); rotate_left; (simp only [Act.put, List.setIfInBounds_toArray, List.set_cons_zero, List.set_cons_succ, i64_w, i32_w]; rfl)
     refine one_ (i := 2) (N := some 13) (bs 7 55) rfl rfl (by kernel_rfl) (by decide) (fun K hK => ?_)
     refine goes_ Try.func209 (by kernel_rfl) rfl #[.int .i64 0, .string (a0.extract 0 24)] (by rfl) rfl rfl (by (try simp only [List.map_toArray, List.map_cons, List.map_nil]); first | done | rfl | (simp only [List.length_drop, List.length_take]; rfl)) ?_
     with_reducible refine (spec_l5On.calls k 0 (a0.extract 0 24) t401 _ A5.out).mono ?_
     rintro e w' ⟨rfl, ⟨nd, rfl⟩⟩
     refine ⟨_, rfl, ?_⟩
     refine hK.out _ _ trivial (fun hHeld => ?_)
     clear hK K
     refine norm_ (a' := ?_) ?_ ?_
     rotate_left
     ·show Act.put _ (some 13) _ = _
      simp only [Act.put, List.setIfInBounds_toArray, List.set_cons_zero, List.set_cons_succ, i64_w, i32_w]
      rfl
     refine one_ (i := 3) (N := some 14) (bs 7 63) rfl rfl (by kernel_rfl) (by decide) (fun K hK => ?_)
     refine goes_ Try.func208 (by kernel_rfl) rfl #[.int .i64 t401] (by rfl) rfl rfl (by (try simp only [List.map_toArray, List.map_cons, List.map_nil]); first | done | rfl | (simp only [List.length_drop, List.length_take]; rfl)) ?_
     with_reducible refine (spec_l6Low.calls k t401 t402 _ A6.out).mono ?_
     rintro e w88 ⟨rfl, hb⟩
     refine ⟨_, rfl, ?_⟩
     replace BK400 := Aside0.mk (blk_below (g := gb400) (o := .cells #[.int .i64 0, .int .i64 0, .int .i64 0, .string (⟨#[]⟩ : ByteArray)] 102 (0, 0)) (blkd BK400.out) hb)
     replace HB := Aside0.mk (below_step (bel HB.out) hb)
     (try clear hb)
     (try clear hb2)
     (try clear hk)
     (try clear hi)
     refine hK.out _ _ trivial (fun hHeld => ?_)
     clear hK K
     refine norm_ (a' := ?_) ?_ ?_
     rotate_left
     ·show Act.put _ (some 14) _ = _
      simp only [Act.put, List.setIfInBounds_toArray, List.set_cons_zero, List.set_cons_succ, i64_w, i32_w]
      rfl
     refine pure_ (i := 6) (N := some 17) (v := ?_) (a' := ?_) (bs 7 127) rfl rfl (by kernel_rfl) (fun _ _ _ h => h) (Or.inl ⟨by rfl, ?_⟩) ?_ ?_
     rotate_left; (intro w'; go_simp; with_reducible rfl); rotate_left; (simp only [Act.put, List.setIfInBounds_toArray, List.set_cons_zero, List.set_cons_succ, i64_w, i32_w]; rfl)
     refine done_ (by kernel_rfl) ?_
     obtain ⟨⟨hcz89_0, hcz89_1, hcz89_2, hcz89_3⟩, hfz89_0, hfz89_1, hfz89_2, hfz89_3⟩ := blk4 BK400.out
     try go_wp2
     refine bodyPost_ret (results_ctt rfl _ _ gb400 102 #[.int .i64 0, .int .i64 0, .int .i64 0, .string (⟨#[]⟩ : ByteArray)] (0, 0) _ rfl (blkp BK400.out) Try.underlying102 rfl (by kernel_rfl)) rfl ?_
     exact ⟨by first | rfl | simp [*], (bel HB.out)⟩
   ·rw [if_neg c4] at H
    exact absurd H (by simp)
  ·rw [if_neg c3] at H
   exact absurd H (by simp)
 ·rw [if_neg c2] at H
  have c2b0 : ((a0.size : Int) == 28) = false := beq_eq_false_iff_ne.mpr c2
  have c2b1 : ((a0.size : Int) != 28) = true := bne_iff_ne.mpr c2
  simp only [Option.some.injEq, Prod.mk.injEq] at H
  obtain ⟨rfl, rfl, rfl, rfl, rfl, rfl⟩ := H
  go_enter Try.func182, Try.ntmps182
  go_wp2_with (first | ((with_reducible refine gate_dst (N := 2) rfl ?_); refine boxE 2 #[.int .i64 0, .int .i64 0, .int .i64 0, .string (⟨#[]⟩ : ByteArray)] 102 ?_; intro gb400 hg w90 hbox hb; have BK400 := Aside0.mk (hbox); have GW400 := Aside0.mk ((by rw [hg]; exact (below_size (bez HB.out)) : w.heap.size ≤ gb400)); have GE400 := Aside0.mk ((by rw [hg]; exact (below_size (bez HB.out)) : w.heap.size ≤ gb400)); replace HB := Aside0.mk (below_step (bez HB.out) hb); clear hb hbox hg; obtain ⟨⟨hcz91_0, hcz91_1, hcz91_2, hcz91_3⟩, hfz91_0, hfz91_1, hfz91_2, hfz91_3⟩ := blk4 BK400.out))
  refine bodyPost_ret (results_ctt rfl _ _ gb400 102 #[.int .i64 0, .int .i64 0, .int .i64 0, .string (⟨#[]⟩ : ByteArray)] (0, 0) _ rfl (blkp BK400.out) Try.underlying102 rfl (by kernel_rfl)) rfl ?_
  exact ⟨by first | rfl | simp [*], (bel HB.out)⟩

end Go.Proofs.Ytldlldfoaicjcaa.MFnBodies
-- SHRUNK
