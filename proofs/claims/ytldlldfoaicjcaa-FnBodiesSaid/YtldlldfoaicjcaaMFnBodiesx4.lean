/- The machine's side of FnBodies, written by this session's program out of the kit's print of the program, with contracts of this session's own. No conditions beyond those typed. -/
import Derived.Test.YtldlldfoaicjcaaMFnBodiesx0
import Derived.Test.YtldlldfoaicjcaaMFnBodiesx3
namespace Go.Proofs.Ytldlldfoaicjcaa.MFnBodies
open Go.RowKit Go.Proofs.YtldlldfoaicjcaaW.PrintWords Go.Proofs.YtldlldfoaicjcaaW.PrintLast Go.Proofs.YtldlldfoaicjcaaW.PrintMore
attribute [local go_sem] max2_int min2_int max_two min_two max_three min_three max_four min_four   -- for this text's walks alone
set_option linter.unusedVariables false
set_option linter.unusedSimpArgs false

/-! ### spec_l6Frame: function 176 -/
def spec_l6Frame.f (k : Nat) (a0_0 : Int) (a0_1 : Int) (a0_2 : Int) (a0_3 : ByteArray) : Option (ByteArray) := (spec_l6Bytes.f k a0_0 1).bind fun t246 => ((spec_l6Bytes.f k a0_1 2).bind fun t247 => (if t246.size + t247.size ≤ 9223372036854775807 then ((spec_l6Bytes.f k a0_2 2).bind fun t248 => (if (t246 ++ t247).size + t248.size ≤ 9223372036854775807 then ((spec_l6Bytes.f k (a0_3.size : Int) 1).bind fun t249 => (if ((t246 ++ t247) ++ t248).size + t249.size ≤ 9223372036854775807 then (if (((t246 ++ t247) ++ t248) ++ t249).size + a0_3.size ≤ 9223372036854775807 then (if 0 ≤ (wrap64 ((wrap64 (16 - (a0_3.size : Int))) + 2)) then (if (wrap64 ((wrap64 (16 - (a0_3.size : Int))) + 2) : Int).toNat ≤ 281474976710656 then ((some (List.replicate (wrap64 ((wrap64 (16 - (a0_3.size : Int))) + 2) : Int).toNat 0 : List Int)).bind fun y250 => (if ((((t246 ++ t247) ++ t248) ++ t249) ++ a0_3).size + (strOfNums y250).size ≤ 9223372036854775807 then ((spec_l5On.f k 0 (((((t246 ++ t247) ++ t248) ++ t249) ++ a0_3) ++ (strOfNums y250))).bind fun t253 => ((spec_l6Low.f k t253).bind fun t254 => (if (((((t246 ++ t247) ++ t248) ++ t249) ++ a0_3) ++ (strOfNums y250)).size + t254.size ≤ 9223372036854775807 then (some ((((((t246 ++ t247) ++ t248) ++ t249) ++ a0_3) ++ (strOfNums y250)) ++ t254)) else (none)))) else (none))) else (none)) else (none)) else (none)) else (none))) else (none))) else (none)))
theorem spec_l6Frame.mono : ∀ a0 a1 a2 a3 k, LeO (spec_l6Frame.f k a0 a1 a2 a3) (spec_l6Frame.f (k + 1) a0 a1 a2 a3) := by
 intro a0 a1 a2 a3 k
 unfold spec_l6Frame.f
 with_reducible repeat' first | exact spec_l5On.mono _ _ _ | exact spec_l6Bytes.mono _ _ _ | exact spec_l6Low.mono _ _ | exact LeO.refl _ | exact LeO.none _ | refine LeO.ite ?_ ?_ | refine LeO.bind ?_ (fun _ => ?_)
def spec_l6Frame.T1 : Bool × List (List Nat × List Nat) := (true, [([], []), ([0], [0]), ([1], [1]), ([], []), ([3], [3]), ([4, 2], [4]), ([2, 5], [2, 5]), ([], []), ([7], [7]), ([8, 5], [8]), ([6, 9], [6, 9]), ([], []), ([11], [11]), ([12], [12]), ([13, 9], [13]), ([10, 14], [10, 14]), ([], []), ([16], [16]), ([15, 17], [15, 17]), ([], []), ([19], [19]), ([20], [20]), ([21], [21]), ([22], [22]), ([23, 23], [23]), ([24], [24]), ([18, 25], [18, 25]), ([26, 14, 0, 1, 2, 3, 4, 5, 6, 7, 8, 9, 10, 11, 12, 13, 14, 15, 16, 17, 18, 19, 20, 21, 22, 23, 24, 25, 26], [26])])
def spec_l6Frame.B1 : List Nat := [0, 1, 3, 0, 8, 31, 63, 0, 128, 447, 1023, 0, 2048, 6144, 15295, 32767, 0, 65536, 262143, 0, 524288, 1572864, 3670016, 7864320, 16252928, 33030144, 67108863, 134217727]
theorem spec_l6Frame.tab1 : rtab .any (opsOf Try.f176 1) = spec_l6Frame.T1 := by kernel_rfl
theorem spec_l6Frame.bits1 : waitsOk spec_l6Frame.T1.2 spec_l6Frame.B1 = true := by kernel_rfl
set_option maxHeartbeats 8000000 in
set_option maxRecDepth 100000 in
theorem spec_l6Frame.calls (k : Nat) (a0_0 : Int) (a0_1 : Int) (a0_2 : Int) (a0_3 : ByteArray) (r : ByteArray) (w : World) (h : spec_l6Frame.f k a0_0 a0_1 a0_2 a0_3 = some r) :
  Calls Try.prog 176 #[.agg #[.int .i64 a0_0, .int .i64 a0_1, .int .i64 a0_2, .string a0_3]] w fun e w' => e = .returned (.string r) ∧ Below w.heap.size w w' := by
 have hu102 := Try.underlying102
 have HB := Aside0.mk (Below.refl w.heap.size w)
 have H : ((spec_l6Bytes.f k a0_0 1).bind fun t246 => ((spec_l6Bytes.f k a0_1 2).bind fun t247 => (if t246.size + t247.size ≤ 9223372036854775807 then ((spec_l6Bytes.f k a0_2 2).bind fun t248 => (if (t246 ++ t247).size + t248.size ≤ 9223372036854775807 then ((spec_l6Bytes.f k (a0_3.size : Int) 1).bind fun t249 => (if ((t246 ++ t247) ++ t248).size + t249.size ≤ 9223372036854775807 then (if (((t246 ++ t247) ++ t248) ++ t249).size + a0_3.size ≤ 9223372036854775807 then (if 0 ≤ (wrap64 ((wrap64 (16 - (a0_3.size : Int))) + 2)) then (if (wrap64 ((wrap64 (16 - (a0_3.size : Int))) + 2) : Int).toNat ≤ 281474976710656 then ((some (List.replicate (wrap64 ((wrap64 (16 - (a0_3.size : Int))) + 2) : Int).toNat 0 : List Int)).bind fun y250 => (if ((((t246 ++ t247) ++ t248) ++ t249) ++ a0_3).size + (strOfNums y250).size ≤ 9223372036854775807 then ((spec_l5On.f k 0 (((((t246 ++ t247) ++ t248) ++ t249) ++ a0_3) ++ (strOfNums y250))).bind fun t253 => ((spec_l6Low.f k t253).bind fun t254 => (if (((((t246 ++ t247) ++ t248) ++ t249) ++ a0_3) ++ (strOfNums y250)).size + t254.size ≤ 9223372036854775807 then (some ((((((t246 ++ t247) ++ t248) ++ t249) ++ a0_3) ++ (strOfNums y250)) ++ t254)) else (none)))) else (none))) else (none)) else (none)) else (none)) else (none))) else (none))) else (none)))) = some r := h
 clear h
 replace H := Option.bind_eq_some_iff.mp H
 obtain ⟨t246, A20, H⟩ := H
 have A2 := Aside0.mk A20
 clear A20
 replace H := Option.bind_eq_some_iff.mp H
 obtain ⟨t247, A30, H⟩ := H
 have A3 := Aside0.mk A30
 clear A30
 by_cases c4 : t246.size + t247.size ≤ 9223372036854775807
 ·rw [if_pos c4] at H
  have c4b0 := eq_true c4
  have c4b1 := decide_eq_true c4
  try have c4b2 : (9223372036854775807 < t246.size + t247.size) = False := eq_false (Nat.not_lt.2 c4)
  replace H := Option.bind_eq_some_iff.mp H
  obtain ⟨t248, A50, H⟩ := H
  have A5 := Aside0.mk A50
  clear A50
  by_cases c6 : (t246 ++ t247).size + t248.size ≤ 9223372036854775807
  ·rw [if_pos c6] at H
   have c6b0 := eq_true c6
   have c6b1 := decide_eq_true c6
   try have c6bz : (9223372036854775807 < t246.size + t247.size + t248.size) = False := eq_false (by have hz_ := c6; simp only [ByteArray.size_append] at hz_; omega)
   try have c6b2 : (9223372036854775807 < (t246 ++ t247).size + t248.size) = False := eq_false (Nat.not_lt.2 c6)
   replace H := Option.bind_eq_some_iff.mp H
   obtain ⟨t249, A70, H⟩ := H
   have A7 := Aside0.mk A70
   clear A70
   by_cases c8 : ((t246 ++ t247) ++ t248).size + t249.size ≤ 9223372036854775807
   ·rw [if_pos c8] at H
    have c8b0 := eq_true c8
    have c8b1 := decide_eq_true c8
    try have c8bz : (9223372036854775807 < t246.size + t247.size + t248.size + t249.size) = False := eq_false (by have hz_ := c8; simp only [ByteArray.size_append] at hz_; omega)
    try have c8b2 : (9223372036854775807 < ((t246 ++ t247) ++ t248).size + t249.size) = False := eq_false (Nat.not_lt.2 c8)
    by_cases c9 : (((t246 ++ t247) ++ t248) ++ t249).size + a0_3.size ≤ 9223372036854775807
    ·rw [if_pos c9] at H
     have c9b0 := eq_true c9
     have c9b1 := decide_eq_true c9
     try have c9bz : (9223372036854775807 < t246.size + t247.size + t248.size + t249.size + a0_3.size) = False := eq_false (by have hz_ := c9; simp only [ByteArray.size_append] at hz_; omega)
     try have c9b2 : (9223372036854775807 < (((t246 ++ t247) ++ t248) ++ t249).size + a0_3.size) = False := eq_false (Nat.not_lt.2 c9)
     obtain ⟨ji10, hji10⟩ : ∃ j_ : Int, (wrap64 ((wrap64 (16 - (a0_3.size : Int))) + 2)) = j_ := ⟨_, rfl⟩
     replace H : (if 0 ≤ (ji10) then (if (ji10 : Int).toNat ≤ 281474976710656 then ((some (List.replicate (ji10 : Int).toNat 0 : List Int)).bind fun y250 => (if ((((t246 ++ t247) ++ t248) ++ t249) ++ a0_3).size + (strOfNums y250).size ≤ 9223372036854775807 then ((spec_l5On.f k 0 (((((t246 ++ t247) ++ t248) ++ t249) ++ a0_3) ++ (strOfNums y250))).bind fun t253 => ((spec_l6Low.f k t253).bind fun t254 => (if (((((t246 ++ t247) ++ t248) ++ t249) ++ a0_3) ++ (strOfNums y250)).size + t254.size ≤ 9223372036854775807 then (some ((((((t246 ++ t247) ++ t248) ++ t249) ++ a0_3) ++ (strOfNums y250)) ++ t254)) else (none)))) else (none))) else (none)) else (none)) = some r := by first | (rw [hji10] at H; exact H) | (simp only [hji10] at H ⊢; exact H)
     (try rw [hji10] at A2)
     (try rw [hji10] at A3)
     (try rw [hji10] at A5)
     (try rw [hji10] at A7)
     have hji10w : (IntKind.i64.wrap ((wrap64 (16 - (a0_3.size : Int))) + 2)) = ji10 := (i64_w _).trans hji10
     by_cases c11 : 0 ≤ (ji10)
     ·rw [if_pos c11] at H
      have c11b0 := eq_true c11
      have c11b1 := decide_eq_true c11
      clear c11
      by_cases c12 : (ji10 : Int).toNat ≤ 281474976710656
      ·rw [if_pos c12] at H
       have c12b0 := eq_true c12
       have c12b1 := decide_eq_true c12
       clear c12
       obtain ⟨y250, hy250⟩ : ∃ y_ : List Int, y_ = (List.replicate (ji10 : Int).toNat 0) := ⟨_, rfl⟩
       replace H : (if ((((t246 ++ t247) ++ t248) ++ t249) ++ a0_3).size + (strOfNums y250).size ≤ 9223372036854775807 then ((spec_l5On.f k 0 (((((t246 ++ t247) ++ t248) ++ t249) ++ a0_3) ++ (strOfNums y250))).bind fun t253 => ((spec_l6Low.f k t253).bind fun t254 => (if (((((t246 ++ t247) ++ t248) ++ t249) ++ a0_3) ++ (strOfNums y250)).size + t254.size ≤ 9223372036854775807 then (some ((((((t246 ++ t247) ++ t248) ++ t249) ++ a0_3) ++ (strOfNums y250)) ++ t254)) else (none)))) else (none)) = some r := by first | (rw [hy250]; with_reducible exact H) | (have H2_ := (Option.bind_some _ _).symm.trans H; rw [hy250]; with_reducible exact H2_) | (have H2_ := (Option.bind_some _ _).symm.trans H; with_reducible exact H2_) | with_reducible exact H | (rw [hy250]; exact H) | exact H
       have Ny250 := Aside0.mk hy250
       clear hy250
       by_cases c13 : ((((t246 ++ t247) ++ t248) ++ t249) ++ a0_3).size + (strOfNums y250).size ≤ 9223372036854775807
       ·rw [if_pos c13] at H
        have c13b0 := eq_true c13
        have c13b1 := decide_eq_true c13
        try have c13bz : (9223372036854775807 < t246.size + t247.size + t248.size + t249.size + a0_3.size + (strOfNums y250).size) = False := eq_false (by have hz_ := c13; simp only [ByteArray.size_append] at hz_; omega)
        try have c13b2 : (9223372036854775807 < ((((t246 ++ t247) ++ t248) ++ t249) ++ a0_3).size + (strOfNums y250).size) = False := eq_false (Nat.not_lt.2 c13)
        replace H := Option.bind_eq_some_iff.mp H
        obtain ⟨t253, A140, H⟩ := H
        have A14 := Aside0.mk A140
        clear A140
        replace H := Option.bind_eq_some_iff.mp H
        obtain ⟨t254, A150, H⟩ := H
        have A15 := Aside0.mk A150
        clear A150
        by_cases c16 : (((((t246 ++ t247) ++ t248) ++ t249) ++ a0_3) ++ (strOfNums y250)).size + t254.size ≤ 9223372036854775807
        ·rw [if_pos c16] at H
         have c16b0 := eq_true c16
         have c16b1 := decide_eq_true c16
         try have c16bz : (9223372036854775807 < t246.size + t247.size + t248.size + t249.size + a0_3.size + (strOfNums y250).size + t254.size) = False := eq_false (by have hz_ := c16; simp only [ByteArray.size_append] at hz_; omega)
         try have c16b2 : (9223372036854775807 < (((((t246 ++ t247) ++ t248) ++ t249) ++ a0_3) ++ (strOfNums y250)).size + t254.size) = False := eq_false (Nat.not_lt.2 c16)
         obtain rfl := Option.some.inj H
         go_enter Try.func176, Try.ntmps176
         try go_wp2_with (first | ((with_reducible refine gate_dst (N := 1) rfl ?_); refine boxE 1 #[.int .i64 a0_0, .int .i64 a0_1, .int .i64 a0_2, .string a0_3] 102 ?_; intro gb245 hg w17 hbox hb; have BK245 := Aside0.mk (hbox); have GW245 := Aside0.mk ((by rw [hg]; exact (below_size (bez HB.out)) : w.heap.size ≤ gb245)); have GE245 := Aside0.mk ((by rw [hg]; exact (below_size (bez HB.out)) : w.heap.size ≤ gb245)); replace HB := Aside0.mk (below_step (bez HB.out) hb); clear hb hbox hg))
         replace BK245 := Aside0.mk (blk_drew BK245.out)
         replace HB := Aside0.mk (below_drew1 HB.out)
         refine start_ (n := 28) (S := fun w' => C4 w' gb245 (.int .i64 a0_0) (.int .i64 a0_1) (.int .i64 a0_2) (.string a0_3)) (ds := []) (bs 28 0) (by kernel_rfl) rfl rfl ⟨(blk_cell BK245.out 0).trans rfl, (blk_cell BK245.out 1).trans rfl, (blk_cell BK245.out 2).trans rfl, (blk_cell BK245.out 3).trans rfl⟩ (fun hHeld => ?_); refine with_tabW spec_l6Frame.tab1 spec_l6Frame.bits1 (fun HT_ HW_ => ?_)
         generalize w17.drew = w18 at BK245 HB hHeld ⊢
         refine pureS 0 4 (bs 28 1) HT_.out (h := ?_)
         refine pureS 3 7 (bs 28 9) HT_.out (h := ?_)
         refine pureS 7 11 (bs 28 137) HT_.out (h := ?_)
         refine pureS 11 15 (bs 28 2185) HT_.out (h := ?_)
         refine pureS 16 20 (bs 28 67721) HT_.out (h := ?_)
         refine pureS 19 23 (bs 28 592009) HT_.out (h := ?_)
         refine takeS 1 5 (bs 28 592011) HT_.out HW_.out hHeld (h := ?_)
         refine takeS 4 8 (bs 28 592027) HT_.out HW_.out hHeld (h := ?_)
         refine takeS 8 12 (bs 28 592283) HT_.out HW_.out hHeld (h := ?_)
         refine takeS 12 16 (bs 28 596379) HT_.out HW_.out hHeld (h := ?_)
         refine pureS 13 17 (bs 28 604571) HT_.out (h := ?_)
         refine takeS 17 21 (bs 28 735643) HT_.out HW_.out hHeld (h := ?_)
         refine takeS 20 24 (bs 28 1784219) HT_.out HW_.out hHeld (h := ?_)
         refine pureS 21 25 (bs 28 3881371) HT_.out (h := ?_)
         refine pureS 22 26 (bs 28 8075675) HT_.out (h := ?_)
         refine pureS 23 27 (bs 28 16464283) HT_.out (h := ?_)
         refine join_ (σ := Value) 2 (bs 28 67108863) (fun s_ => [(6, .string t246), (9, .string t247), (13, .string t248), (18, .string t249), (28, s_), (29, .string (strOfNums y250)), (10, .string (t246 ++ t247)), (14, .string ((t246 ++ t247) ++ t248)), (19, .string (((t246 ++ t247) ++ t248) ++ t249)), (22, .string ((((t246 ++ t247) ++ t248) ++ t249) ++ a0_3))]) (fun s_ w' => (C4 w' gb245 (.int .i64 a0_0) (.int .i64 a0_1) (.int .i64 a0_2) (.string a0_3)) ∧ (Kd.R (Kd.int .u8) 5 w' w.heap.size (fun _ => True) s_ y250) ∧ (w'.heap[gb245]? = some (.cells #[.int .i64 a0_0, .int .i64 a0_1, .int .i64 a0_2, .string a0_3] 102 (0, 0))) ∧ (Below w.heap.size w w')) ?_ ?_
         rotate_left
         ·intro hJ2_5_9_14_24_25
          refine join_ (σ := Value) 3 (bs 28 33554431) (fun s_ => [(6, .string t246), (9, .string t247), (13, .string t248), (18, .string t249), (28, s_), (10, .string (t246 ++ t247)), (14, .string ((t246 ++ t247) ++ t248)), (19, .string (((t246 ++ t247) ++ t248) ++ t249)), (22, .string ((((t246 ++ t247) ++ t248) ++ t249) ++ a0_3))]) (fun s_ w' => (C4 w' gb245 (.int .i64 a0_0) (.int .i64 a0_1) (.int .i64 a0_2) (.string a0_3)) ∧ (Kd.R (Kd.int .u8) 5 w' w.heap.size (fun _ => True) s_ y250) ∧ (w'.heap[gb245]? = some (.cells #[.int .i64 a0_0, .int .i64 a0_1, .int .i64 a0_2, .string a0_3] 102 (0, 0))) ∧ (Below w.heap.size w w')) ?_ ?_
          rotate_left
          ·intro hJ2_5_9_14_24
           refine join_ (σ := Value) 5 (bs 28 66797567) (fun s_ => [(6, .string t246), (9, .string t247), (13, .string t248), (28, s_), (29, .string (strOfNums y250)), (10, .string (t246 ++ t247)), (14, .string ((t246 ++ t247) ++ t248))]) (fun s_ w' => (C4 w' gb245 (.int .i64 a0_0) (.int .i64 a0_1) (.int .i64 a0_2) (.string a0_3)) ∧ (Kd.R (Kd.int .u8) 5 w' w.heap.size (fun _ => True) s_ y250) ∧ (w'.heap[gb245]? = some (.cells #[.int .i64 a0_0, .int .i64 a0_1, .int .i64 a0_2, .string a0_3] 102 (0, 0))) ∧ (Below w.heap.size w w')) ?_ ?_
           rotate_left
           ·intro hJ2_5_9_24_25
            refine join_ (σ := Unit) 4 (bs 28 16777215) (fun s_ => [(6, .string t246), (9, .string t247), (13, .string t248), (18, .string t249), (10, .string (t246 ++ t247)), (14, .string ((t246 ++ t247) ++ t248)), (19, .string (((t246 ++ t247) ++ t248) ++ t249)), (22, .string ((((t246 ++ t247) ++ t248) ++ t249) ++ a0_3))]) (fun s_ w' => (C4 w' gb245 (.int .i64 a0_0) (.int .i64 a0_1) (.int .i64 a0_2) (.string a0_3)) ∧ (w'.heap[gb245]? = some (.cells #[.int .i64 a0_0, .int .i64 a0_1, .int .i64 a0_2, .string a0_3] 102 (0, 0))) ∧ (Below w.heap.size w w')) ?_ ?_
            rotate_left
            ·intro hJ2_5_9_14
             refine join_ (σ := Value) 6 (bs 28 33243135) (fun s_ => [(6, .string t246), (9, .string t247), (13, .string t248), (28, s_), (10, .string (t246 ++ t247)), (14, .string ((t246 ++ t247) ++ t248))]) (fun s_ w' => (C4 w' gb245 (.int .i64 a0_0) (.int .i64 a0_1) (.int .i64 a0_2) (.string a0_3)) ∧ (Kd.R (Kd.int .u8) 5 w' w.heap.size (fun _ => True) s_ y250) ∧ (w'.heap[gb245]? = some (.cells #[.int .i64 a0_0, .int .i64 a0_1, .int .i64 a0_2, .string a0_3] 102 (0, 0))) ∧ (Below w.heap.size w w')) ?_ ?_
             rotate_left
             ·intro hJ2_5_9_24
              refine join_ (σ := Value) 7 (bs 28 66796031) (fun s_ => [(6, .string t246), (9, .string t247), (28, s_), (29, .string (strOfNums y250)), (10, .string (t246 ++ t247))]) (fun s_ w' => (C4 w' gb245 (.int .i64 a0_0) (.int .i64 a0_1) (.int .i64 a0_2) (.string a0_3)) ∧ (Kd.R (Kd.int .u8) 5 w' w.heap.size (fun _ => True) s_ y250) ∧ (w'.heap[gb245]? = some (.cells #[.int .i64 a0_0, .int .i64 a0_1, .int .i64 a0_2, .string a0_3] 102 (0, 0))) ∧ (Below w.heap.size w w')) ?_ ?_
              rotate_left
              ·intro hJ2_5_24_25
               refine join_ (σ := Unit) 7 (bs 28 16465919) (fun s_ => [(6, .string t246), (9, .string t247), (13, .string t248), (10, .string (t246 ++ t247)), (14, .string ((t246 ++ t247) ++ t248))]) (fun s_ w' => (C4 w' gb245 (.int .i64 a0_0) (.int .i64 a0_1) (.int .i64 a0_2) (.string a0_3)) ∧ (w'.heap[gb245]? = some (.cells #[.int .i64 a0_0, .int .i64 a0_1, .int .i64 a0_2, .string a0_3] 102 (0, 0))) ∧ (Below w.heap.size w w')) ?_ ?_
               rotate_left
               ·intro hJ2_5_9
                refine join_ (σ := Value) 8 (bs 28 33241599) (fun s_ => [(6, .string t246), (9, .string t247), (28, s_), (10, .string (t246 ++ t247))]) (fun s_ w' => (C4 w' gb245 (.int .i64 a0_0) (.int .i64 a0_1) (.int .i64 a0_2) (.string a0_3)) ∧ (Kd.R (Kd.int .u8) 5 w' w.heap.size (fun _ => True) s_ y250) ∧ (w'.heap[gb245]? = some (.cells #[.int .i64 a0_0, .int .i64 a0_1, .int .i64 a0_2, .string a0_3] 102 (0, 0))) ∧ (Below w.heap.size w w')) ?_ ?_
                rotate_left
                ·intro hJ2_5_24
                 refine join_ (σ := Value) 9 (bs 28 66795935) (fun s_ => [(6, .string t246), (28, s_), (29, .string (strOfNums y250))]) (fun s_ w' => (C4 w' gb245 (.int .i64 a0_0) (.int .i64 a0_1) (.int .i64 a0_2) (.string a0_3)) ∧ (Kd.R (Kd.int .u8) 5 w' w.heap.size (fun _ => True) s_ y250) ∧ (w'.heap[gb245]? = some (.cells #[.int .i64 a0_0, .int .i64 a0_1, .int .i64 a0_2, .string a0_3] 102 (0, 0))) ∧ (Below w.heap.size w w')) ?_ ?_
                 rotate_left
                 ·intro hJ2_24_25
                  refine join_ (σ := Unit) 9 (bs 28 16464383) (fun s_ => [(6, .string t246), (9, .string t247), (10, .string (t246 ++ t247))]) (fun s_ w' => (C4 w' gb245 (.int .i64 a0_0) (.int .i64 a0_1) (.int .i64 a0_2) (.string a0_3)) ∧ (w'.heap[gb245]? = some (.cells #[.int .i64 a0_0, .int .i64 a0_1, .int .i64 a0_2, .string a0_3] 102 (0, 0))) ∧ (Below w.heap.size w w')) ?_ ?_
                  rotate_left
                  ·intro hJ2_5
                   refine join_ (σ := Value) 10 (bs 28 33241503) (fun s_ => [(6, .string t246), (28, s_)]) (fun s_ w' => (C4 w' gb245 (.int .i64 a0_0) (.int .i64 a0_1) (.int .i64 a0_2) (.string a0_3)) ∧ (Kd.R (Kd.int .u8) 5 w' w.heap.size (fun _ => True) s_ y250) ∧ (w'.heap[gb245]? = some (.cells #[.int .i64 a0_0, .int .i64 a0_1, .int .i64 a0_2, .string a0_3] 102 (0, 0))) ∧ (Below w.heap.size w w')) ?_ ?_
                   rotate_left
                   ·intro hJ2_24
                    refine join_ (σ := Value) 10 (bs 28 66795931) (fun s_ => [(28, s_), (29, .string (strOfNums y250))]) (fun s_ w' => (C4 w' gb245 (.int .i64 a0_0) (.int .i64 a0_1) (.int .i64 a0_2) (.string a0_3)) ∧ (Kd.R (Kd.int .u8) 5 w' w.heap.size (fun _ => True) s_ y250) ∧ (w'.heap[gb245]? = some (.cells #[.int .i64 a0_0, .int .i64 a0_1, .int .i64 a0_2, .string a0_3] 102 (0, 0))) ∧ (Below w.heap.size w w')) ?_ ?_
                    rotate_left
                    ·intro hJ24_25
                     refine join_ (σ := Unit) 11 (bs 28 16464287) (fun s_ => [(6, .string t246)]) (fun s_ w' => (C4 w' gb245 (.int .i64 a0_0) (.int .i64 a0_1) (.int .i64 a0_2) (.string a0_3)) ∧ (w'.heap[gb245]? = some (.cells #[.int .i64 a0_0, .int .i64 a0_1, .int .i64 a0_2, .string a0_3] 102 (0, 0))) ∧ (Below w.heap.size w w')) ?_ ?_
                     rotate_left
                     ·intro hJ2
                      refine join_ (σ := Value) 11 (bs 28 33241499) (fun s_ => [(28, s_)]) (fun s_ w' => (C4 w' gb245 (.int .i64 a0_0) (.int .i64 a0_1) (.int .i64 a0_2) (.string a0_3)) ∧ (Kd.R (Kd.int .u8) 5 w' w.heap.size (fun _ => True) s_ y250) ∧ (w'.heap[gb245]? = some (.cells #[.int .i64 a0_0, .int .i64 a0_1, .int .i64 a0_2, .string a0_3] 102 (0, 0))) ∧ (Below w.heap.size w w')) ?_ ?_
                      rotate_left
                      ·intro hJ24
                       refine two_ (i := 2) (j := 24) (Ni := some 6) (Nj := some 28) (bs 28 16464287) (bs 28 33241499) rfl rfl rfl rfl (two_of HT_.out (by kernel_rfl)) (by decide) (by decide) (fun K hK => ?_) (fun K hK => ?_)
                       ·skip
                        refine goes_ Try.func207 (by kernel_rfl) rfl #[.int .i64 a0_0, .int .i64 1] (by rfl) rfl rfl (by (try simp only [List.map_toArray, List.map_cons, List.map_nil]); first | done | rfl | (simp only [List.length_drop, List.length_take]; rfl)) ?_
                        with_reducible refine (spec_l6Bytes.calls k a0_0 1 t246 _ A2.out).mono ?_
                        rintro e w19 ⟨rfl, hb⟩
                        refine ⟨_, rfl, ?_⟩
                        replace BK245 := Aside0.mk (blk_below (g := gb245) (o := .cells #[.int .i64 a0_0, .int .i64 a0_1, .int .i64 a0_2, .string a0_3] 102 (0, 0)) (blkd BK245.out) hb)
                        replace HB := Aside0.mk (below_step (bel HB.out) hb)
                        (try clear hb)
                        (try clear hb2)
                        (try clear hk)
                        (try clear hi)
                        refine hK.out _ _ ⟨(blk_cell BK245.out 0).trans rfl, (blk_cell BK245.out 1).trans rfl, (blk_cell BK245.out 2).trans rfl, (blk_cell BK245.out 3).trans rfl⟩ (fun hHeld => ?_)
                        clear hK K
                        refine norm_ (a' := ?_) ?_ ?_
                        rotate_left
                        ·show Act.put _ (some 6) _ = _
                         simp only [Act.put, List.setIfInBounds_toArray, List.set_cons_zero, List.set_cons_succ, i64_w, i32_w]
                         rfl
                        exact norm_ (by first | (simp only [putAll, Act.put, List.setIfInBounds_toArray, List.set_cons_zero, List.set_cons_succ]; done) | (simp only [putAll, Act.put, List.setIfInBounds_toArray, List.set_cons_zero, List.set_cons_succ]; rfl)) (hJ2 () _ ⟨hHeld, (blkd BK245.out), (bel HB.out)⟩)
                       ·skip
                        refine Kd.R_make_step (Kd.int .u8) _ 5 (by rfl) (N := 28) rfl 33 _ _ rfl ji10 rfl rfl Try.underlying33 (.int .u8 0) 1 info5 rfl (by decide) (by omega) 0 (ok := fun _ => True) (okp := fun _ => True) rfl (fun _ hk => hk) trivial (of_decide_eq_true (by assumption)) (Nat.le_trans (Nat.mul_le_mul_right _ (of_decide_eq_true (by assumption) : ji10.toNat ≤ 281474976710656)) (by omega)) (Below.refl _ _) (Nat.le_refl _) ?_
                        intro v251 w19 ho20 hb hg_ hnew_
                        clear hg_ hnew_
                        (first | rw [← Ny250.out] at ho20 | (simp only [Int.reduceToNat] at ho20; rw [← Ny250.out] at ho20))
                        have HO252 := Aside0.mk (Kd.R_lower ho20 (below_size (bel HB.out)))
                        replace BK245 := Aside0.mk (blk_below (g := gb245) (o := .cells #[.int .i64 a0_0, .int .i64 a0_1, .int .i64 a0_2, .string a0_3] 102 (0, 0)) (blkd BK245.out) hb)
                        replace HB := Aside0.mk (below_step (bel HB.out) hb)
                        clear hb ho20
                        refine hK.out _ _ ⟨(blk_cell BK245.out 0).trans rfl, (blk_cell BK245.out 1).trans rfl, (blk_cell BK245.out 2).trans rfl, (blk_cell BK245.out 3).trans rfl⟩ (fun hHeld => ?_)
                        clear hK K
                        refine norm_ (a' := ?_) ?_ ?_
                        rotate_left
                        ·show Act.put _ (some 28) _ = _
                         simp only [Act.put, List.setIfInBounds_toArray, List.set_cons_zero, List.set_cons_succ, i64_w, i32_w]
                         rfl
                        exact norm_ (by first | (simp only [putAll, Act.put, List.setIfInBounds_toArray, List.set_cons_zero, List.set_cons_succ]; done) | (simp only [putAll, Act.put, List.setIfInBounds_toArray, List.set_cons_zero, List.set_cons_succ]; rfl)) (hJ24 (v251) _ ⟨hHeld, (kdr HO252.out), (blkd BK245.out), (bel HB.out)⟩)
                      ·skip
                       rintro v251 w21 ⟨hS_, h0_, h1_, h2_⟩
                       have n0_ : Aside0 (Kd.R (Kd.int .u8) 5 w21 w.heap.size (fun _ => True) v251 y250) := ⟨h0_⟩
                       have n1_ : Aside0 (w21.heap[gb245]? = some (.cells #[.int .i64 a0_0, .int .i64 a0_1, .int .i64 a0_2, .string a0_3] 102 (0, 0))) := ⟨h1_⟩
                       have n2_ : Aside0 (Below w.heap.size w w21) := ⟨h2_⟩
                       clear BK245 HB
                       clear h0_ h1_ h2_
                       have HO252 := n0_
                       have BK245 := n1_
                       have HB := n2_
                       clear n0_ n1_ n2_
                       have hHeld : C4 w21 gb245 (.int .i64 a0_0) (.int .i64 a0_1) (.int .i64 a0_2) (.string a0_3) := hS_
                       refine norm_ (a' := ?_) ?_ ?_
                       rotate_left
                       ·simp only [putAll, Act.put, List.setIfInBounds_toArray, List.set_cons_zero, List.set_cons_succ]
                        rfl
                       refine two_ (i := 2) (j := 25) (Ni := some 6) (Nj := some 29) (bs 28 33241503) (bs 28 66795931) rfl rfl rfl rfl (two_of HT_.out (by kernel_rfl)) (by decide) (by decide) (fun K hK => ?_) (fun K hK => ?_)
                       ·skip
                        refine goes_ Try.func207 (by kernel_rfl) rfl #[.int .i64 a0_0, .int .i64 1] (by rfl) rfl rfl (by (try simp only [List.map_toArray, List.map_cons, List.map_nil]); first | done | rfl | (simp only [List.length_drop, List.length_take]; rfl)) ?_
                        with_reducible refine (spec_l6Bytes.calls k a0_0 1 t246 _ A2.out).mono ?_
                        rintro e w22 ⟨rfl, hb⟩
                        refine ⟨_, rfl, ?_⟩
                        replace HO252 := Aside0.mk (Kd.R_below (kdr HO252.out) hb)
                        replace BK245 := Aside0.mk (blk_below (g := gb245) (o := .cells #[.int .i64 a0_0, .int .i64 a0_1, .int .i64 a0_2, .string a0_3] 102 (0, 0)) (blkd BK245.out) hb)
                        replace HB := Aside0.mk (below_step (bel HB.out) hb)
                        (try clear hb)
                        (try clear hb2)
                        (try clear hk)
                        (try clear hi)
                        refine hK.out _ _ ⟨(blk_cell BK245.out 0).trans rfl, (blk_cell BK245.out 1).trans rfl, (blk_cell BK245.out 2).trans rfl, (blk_cell BK245.out 3).trans rfl⟩ (fun hHeld => ?_)
                        clear hK K
                        refine norm_ (a' := ?_) ?_ ?_
                        rotate_left
                        ·show Act.put _ (some 6) _ = _
                         simp only [Act.put, List.setIfInBounds_toArray, List.set_cons_zero, List.set_cons_succ, i64_w, i32_w]
                         rfl
                        exact norm_ (by first | (simp only [putAll, Act.put, List.setIfInBounds_toArray, List.set_cons_zero, List.set_cons_succ]; done) | (simp only [putAll, Act.put, List.setIfInBounds_toArray, List.set_cons_zero, List.set_cons_succ]; rfl)) (hJ2_24 (v251) _ ⟨hHeld, (kdr HO252.out), (blkd BK245.out), (bel HB.out)⟩)
                       ·skip
                        have hcv22 := own_string (P := Try.prog) Try.underlying33 Try.underlying5 Try.underlying9 (Kd.own_of_R HO252.out)
                        refine value_ (w1 := ?_) (v := ?_) (by rfl) rfl ?_ ?_
                        rotate_left 2
                        ·go_simp
                         constructor
                         ·rfl
                         ·rfl
                        clear hcv22
                        refine hK.out _ _ ⟨(blk_cell BK245.out 0).trans rfl, (blk_cell BK245.out 1).trans rfl, (blk_cell BK245.out 2).trans rfl, (blk_cell BK245.out 3).trans rfl⟩ (fun hHeld => ?_)
                        clear hK K
                        refine norm_ (a' := ?_) ?_ ?_
                        rotate_left
                        ·show Act.put _ (some 29) _ = _
                         simp only [Act.put, List.setIfInBounds_toArray, List.set_cons_zero, List.set_cons_succ, i64_w, i32_w]
                         rfl
                        exact norm_ (by first | (simp only [putAll, Act.put, List.setIfInBounds_toArray, List.set_cons_zero, List.set_cons_succ]; done) | (simp only [putAll, Act.put, List.setIfInBounds_toArray, List.set_cons_zero, List.set_cons_succ]; rfl)) (hJ24_25 (v251) _ ⟨hHeld, (kdr HO252.out), (blkd BK245.out), (bel HB.out)⟩)
                     ·skip
                      rintro _ w20 ⟨hS_, h0_, h1_⟩
                      have n0_ : Aside0 (w20.heap[gb245]? = some (.cells #[.int .i64 a0_0, .int .i64 a0_1, .int .i64 a0_2, .string a0_3] 102 (0, 0))) := ⟨h0_⟩
                      have n1_ : Aside0 (Below w.heap.size w w20) := ⟨h1_⟩
                      clear BK245 HB
                      clear h0_ h1_
                      have BK245 := n0_
                      have HB := n1_
                      clear n0_ n1_
                      have hHeld : C4 w20 gb245 (.int .i64 a0_0) (.int .i64 a0_1) (.int .i64 a0_2) (.string a0_3) := hS_
                      refine norm_ (a' := ?_) ?_ ?_
                      rotate_left
                      ·simp only [putAll, Act.put, List.setIfInBounds_toArray, List.set_cons_zero, List.set_cons_succ]
                       rfl
                      refine two_ (i := 5) (j := 24) (Ni := some 9) (Nj := some 28) (bs 28 16464319) (bs 28 33241503) rfl rfl rfl rfl (two_of HT_.out (by kernel_rfl)) (by decide) (by decide) (fun K hK => ?_) (fun K hK => ?_)
                      ·skip
                       refine goes_ Try.func207 (by kernel_rfl) rfl #[.int .i64 a0_1, .int .i64 2] (by rfl) rfl rfl (by (try simp only [List.map_toArray, List.map_cons, List.map_nil]); first | done | rfl | (simp only [List.length_drop, List.length_take]; rfl)) ?_
                       with_reducible refine (spec_l6Bytes.calls k a0_1 2 t247 _ A3.out).mono ?_
                       rintro e w21 ⟨rfl, hb⟩
                       refine ⟨_, rfl, ?_⟩
                       replace BK245 := Aside0.mk (blk_below (g := gb245) (o := .cells #[.int .i64 a0_0, .int .i64 a0_1, .int .i64 a0_2, .string a0_3] 102 (0, 0)) (blkd BK245.out) hb)
                       replace HB := Aside0.mk (below_step (bel HB.out) hb)
                       (try clear hb)
                       (try clear hb2)
                       (try clear hk)
                       (try clear hi)
                       refine hK.out _ _ ⟨(blk_cell BK245.out 0).trans rfl, (blk_cell BK245.out 1).trans rfl, (blk_cell BK245.out 2).trans rfl, (blk_cell BK245.out 3).trans rfl⟩ (fun hHeld => ?_)
                       clear hK K
                       refine norm_ (a' := ?_) ?_ ?_
                       rotate_left
                       ·show Act.put _ (some 9) _ = _
                        simp only [Act.put, List.setIfInBounds_toArray, List.set_cons_zero, List.set_cons_succ, i64_w, i32_w]
                        rfl
                       refine pureS 6 10 (bs 28 16464383) HT_.out (h := ?_)
                       exact norm_ (by first | (simp only [putAll, Act.put, List.setIfInBounds_toArray, List.set_cons_zero, List.set_cons_succ]; done) | (simp only [putAll, Act.put, List.setIfInBounds_toArray, List.set_cons_zero, List.set_cons_succ]; rfl)) (hJ2_5 () _ ⟨hHeld, (blkd BK245.out), (bel HB.out)⟩)
                      ·skip
                       refine Kd.R_make_step (Kd.int .u8) _ 5 (by rfl) (N := 28) rfl 33 _ _ rfl ji10 rfl rfl Try.underlying33 (.int .u8 0) 1 info5 rfl (by decide) (by omega) 0 (ok := fun _ => True) (okp := fun _ => True) rfl (fun _ hk => hk) trivial (of_decide_eq_true (by assumption)) (Nat.le_trans (Nat.mul_le_mul_right _ (of_decide_eq_true (by assumption) : ji10.toNat ≤ 281474976710656)) (by omega)) (Below.refl _ _) (Nat.le_refl _) ?_
                       intro v251 w21 ho22 hb hg_ hnew_
                       clear hg_ hnew_
                       (first | rw [← Ny250.out] at ho22 | (simp only [Int.reduceToNat] at ho22; rw [← Ny250.out] at ho22))
                       have HO252 := Aside0.mk (Kd.R_lower ho22 (below_size (bel HB.out)))
                       replace BK245 := Aside0.mk (blk_below (g := gb245) (o := .cells #[.int .i64 a0_0, .int .i64 a0_1, .int .i64 a0_2, .string a0_3] 102 (0, 0)) (blkd BK245.out) hb)
                       replace HB := Aside0.mk (below_step (bel HB.out) hb)
                       clear hb ho22
                       refine hK.out _ _ ⟨(blk_cell BK245.out 0).trans rfl, (blk_cell BK245.out 1).trans rfl, (blk_cell BK245.out 2).trans rfl, (blk_cell BK245.out 3).trans rfl⟩ (fun hHeld => ?_)
                       clear hK K
                       refine norm_ (a' := ?_) ?_ ?_
                       rotate_left
                       ·show Act.put _ (some 28) _ = _
                        simp only [Act.put, List.setIfInBounds_toArray, List.set_cons_zero, List.set_cons_succ, i64_w, i32_w]
                        rfl
                       exact norm_ (by first | (simp only [putAll, Act.put, List.setIfInBounds_toArray, List.set_cons_zero, List.set_cons_succ]; done) | (simp only [putAll, Act.put, List.setIfInBounds_toArray, List.set_cons_zero, List.set_cons_succ]; rfl)) (hJ2_24 (v251) _ ⟨hHeld, (kdr HO252.out), (blkd BK245.out), (bel HB.out)⟩)
                    ·skip
                     rintro v251 w22 ⟨hS_, h0_, h1_, h2_⟩
                     have n0_ : Aside0 (Kd.R (Kd.int .u8) 5 w22 w.heap.size (fun _ => True) v251 y250) := ⟨h0_⟩
                     have n1_ : Aside0 (w22.heap[gb245]? = some (.cells #[.int .i64 a0_0, .int .i64 a0_1, .int .i64 a0_2, .string a0_3] 102 (0, 0))) := ⟨h1_⟩
                     have n2_ : Aside0 (Below w.heap.size w w22) := ⟨h2_⟩
                     clear BK245 HB
                     clear h0_ h1_ h2_
                     have HO252 := n0_
                     have BK245 := n1_
                     have HB := n2_
                     clear n0_ n1_ n2_
                     have hHeld : C4 w22 gb245 (.int .i64 a0_0) (.int .i64 a0_1) (.int .i64 a0_2) (.string a0_3) := hS_
                     refine norm_ (a' := ?_) ?_ ?_
                     rotate_left
                     ·simp only [putAll, Act.put, List.setIfInBounds_toArray, List.set_cons_zero, List.set_cons_succ]
                      rfl
                     refine one_ (i := 2) (N := some 6) (bs 28 66795935) rfl rfl (one_of HT_.out (by kernel_rfl)) (by decide) (fun K hK => ?_)
                     refine goes_ Try.func207 (by kernel_rfl) rfl #[.int .i64 a0_0, .int .i64 1] (by rfl) rfl rfl (by (try simp only [List.map_toArray, List.map_cons, List.map_nil]); first | done | rfl | (simp only [List.length_drop, List.length_take]; rfl)) ?_
                     with_reducible refine (spec_l6Bytes.calls k a0_0 1 t246 _ A2.out).mono ?_
                     rintro e w23 ⟨rfl, hb⟩
                     refine ⟨_, rfl, ?_⟩
                     replace HO252 := Aside0.mk (Kd.R_below (kdr HO252.out) hb)
                     replace BK245 := Aside0.mk (blk_below (g := gb245) (o := .cells #[.int .i64 a0_0, .int .i64 a0_1, .int .i64 a0_2, .string a0_3] 102 (0, 0)) (blkd BK245.out) hb)
                     replace HB := Aside0.mk (below_step (bel HB.out) hb)
                     (try clear hb)
                     (try clear hb2)
                     (try clear hk)
                     (try clear hi)
                     refine hK.out _ _ ⟨(blk_cell BK245.out 0).trans rfl, (blk_cell BK245.out 1).trans rfl, (blk_cell BK245.out 2).trans rfl, (blk_cell BK245.out 3).trans rfl⟩ (fun hHeld => ?_)
                     clear hK K
                     refine norm_ (a' := ?_) ?_ ?_
                     rotate_left
                     ·show Act.put _ (some 6) _ = _
                      simp only [Act.put, List.setIfInBounds_toArray, List.set_cons_zero, List.set_cons_succ, i64_w, i32_w]
                      rfl
                     exact norm_ (by first | (simp only [putAll, Act.put, List.setIfInBounds_toArray, List.set_cons_zero, List.set_cons_succ]; done) | (simp only [putAll, Act.put, List.setIfInBounds_toArray, List.set_cons_zero, List.set_cons_succ]; rfl)) (hJ2_24_25 (v251) _ ⟨hHeld, (kdr HO252.out), (blkd BK245.out), (bel HB.out)⟩)
                   ·skip
                    rintro v251 w22 ⟨hS_, h0_, h1_, h2_⟩
                    have n0_ : Aside0 (Kd.R (Kd.int .u8) 5 w22 w.heap.size (fun _ => True) v251 y250) := ⟨h0_⟩
                    have n1_ : Aside0 (w22.heap[gb245]? = some (.cells #[.int .i64 a0_0, .int .i64 a0_1, .int .i64 a0_2, .string a0_3] 102 (0, 0))) := ⟨h1_⟩
                    have n2_ : Aside0 (Below w.heap.size w w22) := ⟨h2_⟩
                    clear BK245 HB
                    clear h0_ h1_ h2_
                    have HO252 := n0_
                    have BK245 := n1_
                    have HB := n2_
                    clear n0_ n1_ n2_
                    have hHeld : C4 w22 gb245 (.int .i64 a0_0) (.int .i64 a0_1) (.int .i64 a0_2) (.string a0_3) := hS_
                    refine norm_ (a' := ?_) ?_ ?_
                    rotate_left
                    ·simp only [putAll, Act.put, List.setIfInBounds_toArray, List.set_cons_zero, List.set_cons_succ]
                     rfl
                    refine two_ (i := 5) (j := 25) (Ni := some 9) (Nj := some 29) (bs 28 33241535) (bs 28 66795935) rfl rfl rfl rfl (two_of HT_.out (by kernel_rfl)) (by decide) (by decide) (fun K hK => ?_) (fun K hK => ?_)
                    ·skip
                     refine goes_ Try.func207 (by kernel_rfl) rfl #[.int .i64 a0_1, .int .i64 2] (by rfl) rfl rfl (by (try simp only [List.map_toArray, List.map_cons, List.map_nil]); first | done | rfl | (simp only [List.length_drop, List.length_take]; rfl)) ?_
                     with_reducible refine (spec_l6Bytes.calls k a0_1 2 t247 _ A3.out).mono ?_
                     rintro e w23 ⟨rfl, hb⟩
                     refine ⟨_, rfl, ?_⟩
                     replace HO252 := Aside0.mk (Kd.R_below (kdr HO252.out) hb)
                     replace BK245 := Aside0.mk (blk_below (g := gb245) (o := .cells #[.int .i64 a0_0, .int .i64 a0_1, .int .i64 a0_2, .string a0_3] 102 (0, 0)) (blkd BK245.out) hb)
                     replace HB := Aside0.mk (below_step (bel HB.out) hb)
                     (try clear hb)
                     (try clear hb2)
                     (try clear hk)
                     (try clear hi)
                     refine hK.out _ _ ⟨(blk_cell BK245.out 0).trans rfl, (blk_cell BK245.out 1).trans rfl, (blk_cell BK245.out 2).trans rfl, (blk_cell BK245.out 3).trans rfl⟩ (fun hHeld => ?_)
                     clear hK K
                     refine norm_ (a' := ?_) ?_ ?_
                     rotate_left
                     ·show Act.put _ (some 9) _ = _
                      simp only [Act.put, List.setIfInBounds_toArray, List.set_cons_zero, List.set_cons_succ, i64_w, i32_w]
                      rfl
                     refine pureS 6 10 (bs 28 33241599) HT_.out (h := ?_)
                     exact norm_ (by first | (simp only [putAll, Act.put, List.setIfInBounds_toArray, List.set_cons_zero, List.set_cons_succ]; done) | (simp only [putAll, Act.put, List.setIfInBounds_toArray, List.set_cons_zero, List.set_cons_succ]; rfl)) (hJ2_5_24 (v251) _ ⟨hHeld, (kdr HO252.out), (blkd BK245.out), (bel HB.out)⟩)
                    ·skip
                     have hcv23 := own_string (P := Try.prog) Try.underlying33 Try.underlying5 Try.underlying9 (Kd.own_of_R HO252.out)
                     refine value_ (w1 := ?_) (v := ?_) (by rfl) rfl ?_ ?_
                     rotate_left 2
                     ·go_simp
                      constructor
                      ·rfl
                      ·rfl
                     clear hcv23
                     refine hK.out _ _ ⟨(blk_cell BK245.out 0).trans rfl, (blk_cell BK245.out 1).trans rfl, (blk_cell BK245.out 2).trans rfl, (blk_cell BK245.out 3).trans rfl⟩ (fun hHeld => ?_)
                     clear hK K
                     refine norm_ (a' := ?_) ?_ ?_
                     rotate_left
                     ·show Act.put _ (some 29) _ = _
                      simp only [Act.put, List.setIfInBounds_toArray, List.set_cons_zero, List.set_cons_succ, i64_w, i32_w]
                      rfl
                     exact norm_ (by first | (simp only [putAll, Act.put, List.setIfInBounds_toArray, List.set_cons_zero, List.set_cons_succ]; done) | (simp only [putAll, Act.put, List.setIfInBounds_toArray, List.set_cons_zero, List.set_cons_succ]; rfl)) (hJ2_24_25 (v251) _ ⟨hHeld, (kdr HO252.out), (blkd BK245.out), (bel HB.out)⟩)
                  ·skip
                   rintro _ w21 ⟨hS_, h0_, h1_⟩
                   have n0_ : Aside0 (w21.heap[gb245]? = some (.cells #[.int .i64 a0_0, .int .i64 a0_1, .int .i64 a0_2, .string a0_3] 102 (0, 0))) := ⟨h0_⟩
                   have n1_ : Aside0 (Below w.heap.size w w21) := ⟨h1_⟩
                   clear BK245 HB
                   clear h0_ h1_
                   have BK245 := n0_
                   have HB := n1_
                   clear n0_ n1_
                   have hHeld : C4 w21 gb245 (.int .i64 a0_0) (.int .i64 a0_1) (.int .i64 a0_2) (.string a0_3) := hS_
                   refine norm_ (a' := ?_) ?_ ?_
                   rotate_left
                   ·simp only [putAll, Act.put, List.setIfInBounds_toArray, List.set_cons_zero, List.set_cons_succ]
                    rfl
                   refine two_ (i := 9) (j := 24) (Ni := some 13) (Nj := some 28) (bs 28 16464895) (bs 28 33241599) rfl rfl rfl rfl (two_of HT_.out (by kernel_rfl)) (by decide) (by decide) (fun K hK => ?_) (fun K hK => ?_)
                   ·skip
                    refine goes_ Try.func207 (by kernel_rfl) rfl #[.int .i64 a0_2, .int .i64 2] (by rfl) rfl rfl (by (try simp only [List.map_toArray, List.map_cons, List.map_nil]); first | done | rfl | (simp only [List.length_drop, List.length_take]; rfl)) ?_
                    with_reducible refine (spec_l6Bytes.calls k a0_2 2 t248 _ A5.out).mono ?_
                    rintro e w22 ⟨rfl, hb⟩
                    refine ⟨_, rfl, ?_⟩
                    replace BK245 := Aside0.mk (blk_below (g := gb245) (o := .cells #[.int .i64 a0_0, .int .i64 a0_1, .int .i64 a0_2, .string a0_3] 102 (0, 0)) (blkd BK245.out) hb)
                    replace HB := Aside0.mk (below_step (bel HB.out) hb)
                    (try clear hb)
                    (try clear hb2)
                    (try clear hk)
                    (try clear hi)
                    refine hK.out _ _ ⟨(blk_cell BK245.out 0).trans rfl, (blk_cell BK245.out 1).trans rfl, (blk_cell BK245.out 2).trans rfl, (blk_cell BK245.out 3).trans rfl⟩ (fun hHeld => ?_)
                    clear hK K
                    refine norm_ (a' := ?_) ?_ ?_
                    rotate_left
                    ·show Act.put _ (some 13) _ = _
                     simp only [Act.put, List.setIfInBounds_toArray, List.set_cons_zero, List.set_cons_succ, i64_w, i32_w]
                     rfl
                    refine pureS 10 14 (bs 28 16465919) HT_.out (h := ?_)
                    exact norm_ (by first | (simp only [putAll, Act.put, List.setIfInBounds_toArray, List.set_cons_zero, List.set_cons_succ]; done) | (simp only [putAll, Act.put, List.setIfInBounds_toArray, List.set_cons_zero, List.set_cons_succ]; rfl)) (hJ2_5_9 () _ ⟨hHeld, (blkd BK245.out), (bel HB.out)⟩)
                   ·skip
                    refine Kd.R_make_step (Kd.int .u8) _ 5 (by rfl) (N := 28) rfl 33 _ _ rfl ji10 rfl rfl Try.underlying33 (.int .u8 0) 1 info5 rfl (by decide) (by omega) 0 (ok := fun _ => True) (okp := fun _ => True) rfl (fun _ hk => hk) trivial (of_decide_eq_true (by assumption)) (Nat.le_trans (Nat.mul_le_mul_right _ (of_decide_eq_true (by assumption) : ji10.toNat ≤ 281474976710656)) (by omega)) (Below.refl _ _) (Nat.le_refl _) ?_
                    intro v251 w22 ho23 hb hg_ hnew_
                    clear hg_ hnew_
                    (first | rw [← Ny250.out] at ho23 | (simp only [Int.reduceToNat] at ho23; rw [← Ny250.out] at ho23))
                    have HO252 := Aside0.mk (Kd.R_lower ho23 (below_size (bel HB.out)))
                    replace BK245 := Aside0.mk (blk_below (g := gb245) (o := .cells #[.int .i64 a0_0, .int .i64 a0_1, .int .i64 a0_2, .string a0_3] 102 (0, 0)) (blkd BK245.out) hb)
                    replace HB := Aside0.mk (below_step (bel HB.out) hb)
                    clear hb ho23
                    refine hK.out _ _ ⟨(blk_cell BK245.out 0).trans rfl, (blk_cell BK245.out 1).trans rfl, (blk_cell BK245.out 2).trans rfl, (blk_cell BK245.out 3).trans rfl⟩ (fun hHeld => ?_)
                    clear hK K
                    refine norm_ (a' := ?_) ?_ ?_
                    rotate_left
                    ·show Act.put _ (some 28) _ = _
                     simp only [Act.put, List.setIfInBounds_toArray, List.set_cons_zero, List.set_cons_succ, i64_w, i32_w]
                     rfl
                    exact norm_ (by first | (simp only [putAll, Act.put, List.setIfInBounds_toArray, List.set_cons_zero, List.set_cons_succ]; done) | (simp only [putAll, Act.put, List.setIfInBounds_toArray, List.set_cons_zero, List.set_cons_succ]; rfl)) (hJ2_5_24 (v251) _ ⟨hHeld, (kdr HO252.out), (blkd BK245.out), (bel HB.out)⟩)
                 ·skip
                  rintro v251 w23 ⟨hS_, h0_, h1_, h2_⟩
                  have n0_ : Aside0 (Kd.R (Kd.int .u8) 5 w23 w.heap.size (fun _ => True) v251 y250) := ⟨h0_⟩
                  have n1_ : Aside0 (w23.heap[gb245]? = some (.cells #[.int .i64 a0_0, .int .i64 a0_1, .int .i64 a0_2, .string a0_3] 102 (0, 0))) := ⟨h1_⟩
                  have n2_ : Aside0 (Below w.heap.size w w23) := ⟨h2_⟩
                  clear BK245 HB
                  clear h0_ h1_ h2_
                  have HO252 := n0_
                  have BK245 := n1_
                  have HB := n2_
                  clear n0_ n1_ n2_
                  have hHeld : C4 w23 gb245 (.int .i64 a0_0) (.int .i64 a0_1) (.int .i64 a0_2) (.string a0_3) := hS_
                  refine norm_ (a' := ?_) ?_ ?_
                  rotate_left
                  ·simp only [putAll, Act.put, List.setIfInBounds_toArray, List.set_cons_zero, List.set_cons_succ]
                   rfl
                  refine one_ (i := 5) (N := some 9) (bs 28 66795967) rfl rfl (one_of HT_.out (by kernel_rfl)) (by decide) (fun K hK => ?_)
                  refine goes_ Try.func207 (by kernel_rfl) rfl #[.int .i64 a0_1, .int .i64 2] (by rfl) rfl rfl (by (try simp only [List.map_toArray, List.map_cons, List.map_nil]); first | done | rfl | (simp only [List.length_drop, List.length_take]; rfl)) ?_
                  with_reducible refine (spec_l6Bytes.calls k a0_1 2 t247 _ A3.out).mono ?_
                  rintro e w24 ⟨rfl, hb⟩
                  refine ⟨_, rfl, ?_⟩
                  replace HO252 := Aside0.mk (Kd.R_below (kdr HO252.out) hb)
                  replace BK245 := Aside0.mk (blk_below (g := gb245) (o := .cells #[.int .i64 a0_0, .int .i64 a0_1, .int .i64 a0_2, .string a0_3] 102 (0, 0)) (blkd BK245.out) hb)
                  replace HB := Aside0.mk (below_step (bel HB.out) hb)
                  (try clear hb)
                  (try clear hb2)
                  (try clear hk)
                  (try clear hi)
                  refine hK.out _ _ ⟨(blk_cell BK245.out 0).trans rfl, (blk_cell BK245.out 1).trans rfl, (blk_cell BK245.out 2).trans rfl, (blk_cell BK245.out 3).trans rfl⟩ (fun hHeld => ?_)
                  clear hK K
                  refine norm_ (a' := ?_) ?_ ?_
                  rotate_left
                  ·show Act.put _ (some 9) _ = _
                   simp only [Act.put, List.setIfInBounds_toArray, List.set_cons_zero, List.set_cons_succ, i64_w, i32_w]
                   rfl
                  refine pureS 6 10 (bs 28 66796031) HT_.out (h := ?_)
                  exact norm_ (by first | (simp only [putAll, Act.put, List.setIfInBounds_toArray, List.set_cons_zero, List.set_cons_succ]; done) | (simp only [putAll, Act.put, List.setIfInBounds_toArray, List.set_cons_zero, List.set_cons_succ]; rfl)) (hJ2_5_24_25 (v251) _ ⟨hHeld, (kdr HO252.out), (blkd BK245.out), (bel HB.out)⟩)
                ·skip
                 rintro v251 w23 ⟨hS_, h0_, h1_, h2_⟩
                 have n0_ : Aside0 (Kd.R (Kd.int .u8) 5 w23 w.heap.size (fun _ => True) v251 y250) := ⟨h0_⟩
                 have n1_ : Aside0 (w23.heap[gb245]? = some (.cells #[.int .i64 a0_0, .int .i64 a0_1, .int .i64 a0_2, .string a0_3] 102 (0, 0))) := ⟨h1_⟩
                 have n2_ : Aside0 (Below w.heap.size w w23) := ⟨h2_⟩
                 clear BK245 HB
                 clear h0_ h1_ h2_
                 have HO252 := n0_
                 have BK245 := n1_
                 have HB := n2_
                 clear n0_ n1_ n2_
                 have hHeld : C4 w23 gb245 (.int .i64 a0_0) (.int .i64 a0_1) (.int .i64 a0_2) (.string a0_3) := hS_
                 refine norm_ (a' := ?_) ?_ ?_
                 rotate_left
                 ·simp only [putAll, Act.put, List.setIfInBounds_toArray, List.set_cons_zero, List.set_cons_succ]
                  rfl
                 refine two_ (i := 9) (j := 25) (Ni := some 13) (Nj := some 29) (bs 28 33242111) (bs 28 66796031) rfl rfl rfl rfl (two_of HT_.out (by kernel_rfl)) (by decide) (by decide) (fun K hK => ?_) (fun K hK => ?_)
                 ·skip
                  refine goes_ Try.func207 (by kernel_rfl) rfl #[.int .i64 a0_2, .int .i64 2] (by rfl) rfl rfl (by (try simp only [List.map_toArray, List.map_cons, List.map_nil]); first | done | rfl | (simp only [List.length_drop, List.length_take]; rfl)) ?_
                  with_reducible refine (spec_l6Bytes.calls k a0_2 2 t248 _ A5.out).mono ?_
                  rintro e w24 ⟨rfl, hb⟩
                  refine ⟨_, rfl, ?_⟩
                  replace HO252 := Aside0.mk (Kd.R_below (kdr HO252.out) hb)
                  replace BK245 := Aside0.mk (blk_below (g := gb245) (o := .cells #[.int .i64 a0_0, .int .i64 a0_1, .int .i64 a0_2, .string a0_3] 102 (0, 0)) (blkd BK245.out) hb)
                  replace HB := Aside0.mk (below_step (bel HB.out) hb)
                  (try clear hb)
                  (try clear hb2)
                  (try clear hk)
                  (try clear hi)
                  refine hK.out _ _ ⟨(blk_cell BK245.out 0).trans rfl, (blk_cell BK245.out 1).trans rfl, (blk_cell BK245.out 2).trans rfl, (blk_cell BK245.out 3).trans rfl⟩ (fun hHeld => ?_)
                  clear hK K
                  refine norm_ (a' := ?_) ?_ ?_
                  rotate_left
                  ·show Act.put _ (some 13) _ = _
                   simp only [Act.put, List.setIfInBounds_toArray, List.set_cons_zero, List.set_cons_succ, i64_w, i32_w]
                   rfl
                  refine pureS 10 14 (bs 28 33243135) HT_.out (h := ?_)
                  exact norm_ (by first | (simp only [putAll, Act.put, List.setIfInBounds_toArray, List.set_cons_zero, List.set_cons_succ]; done) | (simp only [putAll, Act.put, List.setIfInBounds_toArray, List.set_cons_zero, List.set_cons_succ]; rfl)) (hJ2_5_9_24 (v251) _ ⟨hHeld, (kdr HO252.out), (blkd BK245.out), (bel HB.out)⟩)
                 ·skip
                  have hcv24 := own_string (P := Try.prog) Try.underlying33 Try.underlying5 Try.underlying9 (Kd.own_of_R HO252.out)
                  refine value_ (w1 := ?_) (v := ?_) (by rfl) rfl ?_ ?_
                  rotate_left 2
                  ·go_simp
                   constructor
                   ·rfl
                   ·rfl
                  clear hcv24
                  refine hK.out _ _ ⟨(blk_cell BK245.out 0).trans rfl, (blk_cell BK245.out 1).trans rfl, (blk_cell BK245.out 2).trans rfl, (blk_cell BK245.out 3).trans rfl⟩ (fun hHeld => ?_)
                  clear hK K
                  refine norm_ (a' := ?_) ?_ ?_
                  rotate_left
                  ·show Act.put _ (some 29) _ = _
                   simp only [Act.put, List.setIfInBounds_toArray, List.set_cons_zero, List.set_cons_succ, i64_w, i32_w]
                   rfl
                  exact norm_ (by first | (simp only [putAll, Act.put, List.setIfInBounds_toArray, List.set_cons_zero, List.set_cons_succ]; done) | (simp only [putAll, Act.put, List.setIfInBounds_toArray, List.set_cons_zero, List.set_cons_succ]; rfl)) (hJ2_5_24_25 (v251) _ ⟨hHeld, (kdr HO252.out), (blkd BK245.out), (bel HB.out)⟩)
               ·skip
                rintro _ w22 ⟨hS_, h0_, h1_⟩
                have n0_ : Aside0 (w22.heap[gb245]? = some (.cells #[.int .i64 a0_0, .int .i64 a0_1, .int .i64 a0_2, .string a0_3] 102 (0, 0))) := ⟨h0_⟩
                have n1_ : Aside0 (Below w.heap.size w w22) := ⟨h1_⟩
                clear BK245 HB
                clear h0_ h1_
                have BK245 := n0_
                have HB := n1_
                clear n0_ n1_
                have hHeld : C4 w22 gb245 (.int .i64 a0_0) (.int .i64 a0_1) (.int .i64 a0_2) (.string a0_3) := hS_
                refine norm_ (a' := ?_) ?_ ?_
                rotate_left
                ·simp only [putAll, Act.put, List.setIfInBounds_toArray, List.set_cons_zero, List.set_cons_succ]
                 rfl
                refine two_ (i := 14) (j := 24) (Ni := some 18) (Nj := some 28) (bs 28 16482303) (bs 28 33243135) rfl rfl rfl rfl (two_of HT_.out (by kernel_rfl)) (by decide) (by decide) (fun K hK => ?_) (fun K hK => ?_)
                ·skip
                 refine goes_ Try.func207 (by kernel_rfl) rfl #[.int .i64 (a0_3.size : Int), .int .i64 1] (by rfl) rfl rfl (by (try simp only [List.map_toArray, List.map_cons, List.map_nil]); first | done | rfl | (simp only [List.length_drop, List.length_take]; rfl)) ?_
                 with_reducible refine (spec_l6Bytes.calls k (a0_3.size : Int) 1 t249 _ A7.out).mono ?_
                 rintro e w23 ⟨rfl, hb⟩
                 refine ⟨_, rfl, ?_⟩
                 replace BK245 := Aside0.mk (blk_below (g := gb245) (o := .cells #[.int .i64 a0_0, .int .i64 a0_1, .int .i64 a0_2, .string a0_3] 102 (0, 0)) (blkd BK245.out) hb)
                 replace HB := Aside0.mk (below_step (bel HB.out) hb)
                 (try clear hb)
                 (try clear hb2)
                 (try clear hk)
                 (try clear hi)
                 refine hK.out _ _ ⟨(blk_cell BK245.out 0).trans rfl, (blk_cell BK245.out 1).trans rfl, (blk_cell BK245.out 2).trans rfl, (blk_cell BK245.out 3).trans rfl⟩ (fun hHeld => ?_)
                 clear hK K
                 refine norm_ (a' := ?_) ?_ ?_
                 rotate_left
                 ·show Act.put _ (some 18) _ = _
                  simp only [Act.put, List.setIfInBounds_toArray, List.set_cons_zero, List.set_cons_succ, i64_w, i32_w]
                  rfl
                 refine pureS 15 19 (bs 28 16515071) HT_.out (h := ?_)
                 refine pureS 18 22 (bs 28 16777215) HT_.out (h := ?_)
                 exact norm_ (by first | (simp only [putAll, Act.put, List.setIfInBounds_toArray, List.set_cons_zero, List.set_cons_succ]; done) | (simp only [putAll, Act.put, List.setIfInBounds_toArray, List.set_cons_zero, List.set_cons_succ]; rfl)) (hJ2_5_9_14 () _ ⟨hHeld, (blkd BK245.out), (bel HB.out)⟩)
                ·skip
                 refine Kd.R_make_step (Kd.int .u8) _ 5 (by rfl) (N := 28) rfl 33 _ _ rfl ji10 rfl rfl Try.underlying33 (.int .u8 0) 1 info5 rfl (by decide) (by omega) 0 (ok := fun _ => True) (okp := fun _ => True) rfl (fun _ hk => hk) trivial (of_decide_eq_true (by assumption)) (Nat.le_trans (Nat.mul_le_mul_right _ (of_decide_eq_true (by assumption) : ji10.toNat ≤ 281474976710656)) (by omega)) (Below.refl _ _) (Nat.le_refl _) ?_
                 intro v251 w23 ho24 hb hg_ hnew_
                 clear hg_ hnew_
                 (first | rw [← Ny250.out] at ho24 | (simp only [Int.reduceToNat] at ho24; rw [← Ny250.out] at ho24))
                 have HO252 := Aside0.mk (Kd.R_lower ho24 (below_size (bel HB.out)))
                 replace BK245 := Aside0.mk (blk_below (g := gb245) (o := .cells #[.int .i64 a0_0, .int .i64 a0_1, .int .i64 a0_2, .string a0_3] 102 (0, 0)) (blkd BK245.out) hb)
                 replace HB := Aside0.mk (below_step (bel HB.out) hb)
                 clear hb ho24
                 refine hK.out _ _ ⟨(blk_cell BK245.out 0).trans rfl, (blk_cell BK245.out 1).trans rfl, (blk_cell BK245.out 2).trans rfl, (blk_cell BK245.out 3).trans rfl⟩ (fun hHeld => ?_)
                 clear hK K
                 refine norm_ (a' := ?_) ?_ ?_
                 rotate_left
                 ·show Act.put _ (some 28) _ = _
                  simp only [Act.put, List.setIfInBounds_toArray, List.set_cons_zero, List.set_cons_succ, i64_w, i32_w]
                  rfl
                 exact norm_ (by first | (simp only [putAll, Act.put, List.setIfInBounds_toArray, List.set_cons_zero, List.set_cons_succ]; done) | (simp only [putAll, Act.put, List.setIfInBounds_toArray, List.set_cons_zero, List.set_cons_succ]; rfl)) (hJ2_5_9_24 (v251) _ ⟨hHeld, (kdr HO252.out), (blkd BK245.out), (bel HB.out)⟩)
              ·skip
               rintro v251 w24 ⟨hS_, h0_, h1_, h2_⟩
               have n0_ : Aside0 (Kd.R (Kd.int .u8) 5 w24 w.heap.size (fun _ => True) v251 y250) := ⟨h0_⟩
               have n1_ : Aside0 (w24.heap[gb245]? = some (.cells #[.int .i64 a0_0, .int .i64 a0_1, .int .i64 a0_2, .string a0_3] 102 (0, 0))) := ⟨h1_⟩
               have n2_ : Aside0 (Below w.heap.size w w24) := ⟨h2_⟩
               clear BK245 HB
               clear h0_ h1_ h2_
               have HO252 := n0_
               have BK245 := n1_
               have HB := n2_
               clear n0_ n1_ n2_
               have hHeld : C4 w24 gb245 (.int .i64 a0_0) (.int .i64 a0_1) (.int .i64 a0_2) (.string a0_3) := hS_
               refine norm_ (a' := ?_) ?_ ?_
               rotate_left
               ·simp only [putAll, Act.put, List.setIfInBounds_toArray, List.set_cons_zero, List.set_cons_succ]
                rfl
               refine one_ (i := 9) (N := some 13) (bs 28 66796543) rfl rfl (one_of HT_.out (by kernel_rfl)) (by decide) (fun K hK => ?_)
               refine goes_ Try.func207 (by kernel_rfl) rfl #[.int .i64 a0_2, .int .i64 2] (by rfl) rfl rfl (by (try simp only [List.map_toArray, List.map_cons, List.map_nil]); first | done | rfl | (simp only [List.length_drop, List.length_take]; rfl)) ?_
               with_reducible refine (spec_l6Bytes.calls k a0_2 2 t248 _ A5.out).mono ?_
               rintro e w25 ⟨rfl, hb⟩
               refine ⟨_, rfl, ?_⟩
               replace HO252 := Aside0.mk (Kd.R_below (kdr HO252.out) hb)
               replace BK245 := Aside0.mk (blk_below (g := gb245) (o := .cells #[.int .i64 a0_0, .int .i64 a0_1, .int .i64 a0_2, .string a0_3] 102 (0, 0)) (blkd BK245.out) hb)
               replace HB := Aside0.mk (below_step (bel HB.out) hb)
               (try clear hb)
               (try clear hb2)
               (try clear hk)
               (try clear hi)
               refine hK.out _ _ ⟨(blk_cell BK245.out 0).trans rfl, (blk_cell BK245.out 1).trans rfl, (blk_cell BK245.out 2).trans rfl, (blk_cell BK245.out 3).trans rfl⟩ (fun hHeld => ?_)
               clear hK K
               refine norm_ (a' := ?_) ?_ ?_
               rotate_left
               ·show Act.put _ (some 13) _ = _
                simp only [Act.put, List.setIfInBounds_toArray, List.set_cons_zero, List.set_cons_succ, i64_w, i32_w]
                rfl
               refine pureS 10 14 (bs 28 66797567) HT_.out (h := ?_)
               exact norm_ (by first | (simp only [putAll, Act.put, List.setIfInBounds_toArray, List.set_cons_zero, List.set_cons_succ]; done) | (simp only [putAll, Act.put, List.setIfInBounds_toArray, List.set_cons_zero, List.set_cons_succ]; rfl)) (hJ2_5_9_24_25 (v251) _ ⟨hHeld, (kdr HO252.out), (blkd BK245.out), (bel HB.out)⟩)
             ·skip
              rintro v251 w24 ⟨hS_, h0_, h1_, h2_⟩
              have n0_ : Aside0 (Kd.R (Kd.int .u8) 5 w24 w.heap.size (fun _ => True) v251 y250) := ⟨h0_⟩
              have n1_ : Aside0 (w24.heap[gb245]? = some (.cells #[.int .i64 a0_0, .int .i64 a0_1, .int .i64 a0_2, .string a0_3] 102 (0, 0))) := ⟨h1_⟩
              have n2_ : Aside0 (Below w.heap.size w w24) := ⟨h2_⟩
              clear BK245 HB
              clear h0_ h1_ h2_
              have HO252 := n0_
              have BK245 := n1_
              have HB := n2_
              clear n0_ n1_ n2_
              have hHeld : C4 w24 gb245 (.int .i64 a0_0) (.int .i64 a0_1) (.int .i64 a0_2) (.string a0_3) := hS_
              refine norm_ (a' := ?_) ?_ ?_
              rotate_left
              ·simp only [putAll, Act.put, List.setIfInBounds_toArray, List.set_cons_zero, List.set_cons_succ]
               rfl
              refine two_ (i := 14) (j := 25) (Ni := some 18) (Nj := some 29) (bs 28 33259519) (bs 28 66797567) rfl rfl rfl rfl (two_of HT_.out (by kernel_rfl)) (by decide) (by decide) (fun K hK => ?_) (fun K hK => ?_)
              ·skip
               refine goes_ Try.func207 (by kernel_rfl) rfl #[.int .i64 (a0_3.size : Int), .int .i64 1] (by rfl) rfl rfl (by (try simp only [List.map_toArray, List.map_cons, List.map_nil]); first | done | rfl | (simp only [List.length_drop, List.length_take]; rfl)) ?_
               with_reducible refine (spec_l6Bytes.calls k (a0_3.size : Int) 1 t249 _ A7.out).mono ?_
               rintro e w25 ⟨rfl, hb⟩
               refine ⟨_, rfl, ?_⟩
               replace HO252 := Aside0.mk (Kd.R_below (kdr HO252.out) hb)
               replace BK245 := Aside0.mk (blk_below (g := gb245) (o := .cells #[.int .i64 a0_0, .int .i64 a0_1, .int .i64 a0_2, .string a0_3] 102 (0, 0)) (blkd BK245.out) hb)
               replace HB := Aside0.mk (below_step (bel HB.out) hb)
               (try clear hb)
               (try clear hb2)
               (try clear hk)
               (try clear hi)
               refine hK.out _ _ ⟨(blk_cell BK245.out 0).trans rfl, (blk_cell BK245.out 1).trans rfl, (blk_cell BK245.out 2).trans rfl, (blk_cell BK245.out 3).trans rfl⟩ (fun hHeld => ?_)
               clear hK K
               refine norm_ (a' := ?_) ?_ ?_
               rotate_left
               ·show Act.put _ (some 18) _ = _
                simp only [Act.put, List.setIfInBounds_toArray, List.set_cons_zero, List.set_cons_succ, i64_w, i32_w]
                rfl
               refine pureS 15 19 (bs 28 33292287) HT_.out (h := ?_)
               refine pureS 18 22 (bs 28 33554431) HT_.out (h := ?_)
               exact norm_ (by first | (simp only [putAll, Act.put, List.setIfInBounds_toArray, List.set_cons_zero, List.set_cons_succ]; done) | (simp only [putAll, Act.put, List.setIfInBounds_toArray, List.set_cons_zero, List.set_cons_succ]; rfl)) (hJ2_5_9_14_24 (v251) _ ⟨hHeld, (kdr HO252.out), (blkd BK245.out), (bel HB.out)⟩)
              ·skip
               have hcv25 := own_string (P := Try.prog) Try.underlying33 Try.underlying5 Try.underlying9 (Kd.own_of_R HO252.out)
               refine value_ (w1 := ?_) (v := ?_) (by rfl) rfl ?_ ?_
               rotate_left 2
               ·go_simp
                constructor
                ·rfl
                ·rfl
               clear hcv25
               refine hK.out _ _ ⟨(blk_cell BK245.out 0).trans rfl, (blk_cell BK245.out 1).trans rfl, (blk_cell BK245.out 2).trans rfl, (blk_cell BK245.out 3).trans rfl⟩ (fun hHeld => ?_)
               clear hK K
               refine norm_ (a' := ?_) ?_ ?_
               rotate_left
               ·show Act.put _ (some 29) _ = _
                simp only [Act.put, List.setIfInBounds_toArray, List.set_cons_zero, List.set_cons_succ, i64_w, i32_w]
                rfl
               exact norm_ (by first | (simp only [putAll, Act.put, List.setIfInBounds_toArray, List.set_cons_zero, List.set_cons_succ]; done) | (simp only [putAll, Act.put, List.setIfInBounds_toArray, List.set_cons_zero, List.set_cons_succ]; rfl)) (hJ2_5_9_24_25 (v251) _ ⟨hHeld, (kdr HO252.out), (blkd BK245.out), (bel HB.out)⟩)
            ·skip
             rintro _ w23 ⟨hS_, h0_, h1_⟩
             have n0_ : Aside0 (w23.heap[gb245]? = some (.cells #[.int .i64 a0_0, .int .i64 a0_1, .int .i64 a0_2, .string a0_3] 102 (0, 0))) := ⟨h0_⟩
             have n1_ : Aside0 (Below w.heap.size w w23) := ⟨h1_⟩
             clear BK245 HB
             clear h0_ h1_
             have BK245 := n0_
             have HB := n1_
             clear n0_ n1_
             have hHeld : C4 w23 gb245 (.int .i64 a0_0) (.int .i64 a0_1) (.int .i64 a0_2) (.string a0_3) := hS_
             refine norm_ (a' := ?_) ?_ ?_
             rotate_left
             ·simp only [putAll, Act.put, List.setIfInBounds_toArray, List.set_cons_zero, List.set_cons_succ]
              rfl
             refine one_ (i := 24) (N := some 28) (bs 28 33554431) rfl rfl (one_of HT_.out (by kernel_rfl)) (by decide) (fun K hK => ?_)
             refine Kd.R_make_step (Kd.int .u8) _ 5 (by rfl) (N := 28) rfl 33 _ _ rfl ji10 rfl rfl Try.underlying33 (.int .u8 0) 1 info5 rfl (by decide) (by omega) 0 (ok := fun _ => True) (okp := fun _ => True) rfl (fun _ hk => hk) trivial (of_decide_eq_true (by assumption)) (Nat.le_trans (Nat.mul_le_mul_right _ (of_decide_eq_true (by assumption) : ji10.toNat ≤ 281474976710656)) (by omega)) (Below.refl _ _) (Nat.le_refl _) ?_
             intro v251 w24 ho25 hb hg_ hnew_
             clear hg_ hnew_
             (first | rw [← Ny250.out] at ho25 | (simp only [Int.reduceToNat] at ho25; rw [← Ny250.out] at ho25))
             have HO252 := Aside0.mk (Kd.R_lower ho25 (below_size (bel HB.out)))
             replace BK245 := Aside0.mk (blk_below (g := gb245) (o := .cells #[.int .i64 a0_0, .int .i64 a0_1, .int .i64 a0_2, .string a0_3] 102 (0, 0)) (blkd BK245.out) hb)
             replace HB := Aside0.mk (below_step (bel HB.out) hb)
             clear hb ho25
             refine hK.out _ _ ⟨(blk_cell BK245.out 0).trans rfl, (blk_cell BK245.out 1).trans rfl, (blk_cell BK245.out 2).trans rfl, (blk_cell BK245.out 3).trans rfl⟩ (fun hHeld => ?_)
             clear hK K
             refine norm_ (a' := ?_) ?_ ?_
             rotate_left
             ·show Act.put _ (some 28) _ = _
              simp only [Act.put, List.setIfInBounds_toArray, List.set_cons_zero, List.set_cons_succ, i64_w, i32_w]
              rfl
             exact norm_ (by first | (simp only [putAll, Act.put, List.setIfInBounds_toArray, List.set_cons_zero, List.set_cons_succ]; done) | (simp only [putAll, Act.put, List.setIfInBounds_toArray, List.set_cons_zero, List.set_cons_succ]; rfl)) (hJ2_5_9_14_24 (v251) _ ⟨hHeld, (kdr HO252.out), (blkd BK245.out), (bel HB.out)⟩)
           ·skip
            rintro v251 w25 ⟨hS_, h0_, h1_, h2_⟩
            have n0_ : Aside0 (Kd.R (Kd.int .u8) 5 w25 w.heap.size (fun _ => True) v251 y250) := ⟨h0_⟩
            have n1_ : Aside0 (w25.heap[gb245]? = some (.cells #[.int .i64 a0_0, .int .i64 a0_1, .int .i64 a0_2, .string a0_3] 102 (0, 0))) := ⟨h1_⟩
            have n2_ : Aside0 (Below w.heap.size w w25) := ⟨h2_⟩
            clear BK245 HB
            clear h0_ h1_ h2_
            have HO252 := n0_
            have BK245 := n1_
            have HB := n2_
            clear n0_ n1_ n2_
            have hHeld : C4 w25 gb245 (.int .i64 a0_0) (.int .i64 a0_1) (.int .i64 a0_2) (.string a0_3) := hS_
            refine norm_ (a' := ?_) ?_ ?_
            rotate_left
            ·simp only [putAll, Act.put, List.setIfInBounds_toArray, List.set_cons_zero, List.set_cons_succ]
             rfl
            refine one_ (i := 14) (N := some 18) (bs 28 66813951) rfl rfl (one_of HT_.out (by kernel_rfl)) (by decide) (fun K hK => ?_)
            refine goes_ Try.func207 (by kernel_rfl) rfl #[.int .i64 (a0_3.size : Int), .int .i64 1] (by rfl) rfl rfl (by (try simp only [List.map_toArray, List.map_cons, List.map_nil]); first | done | rfl | (simp only [List.length_drop, List.length_take]; rfl)) ?_
            with_reducible refine (spec_l6Bytes.calls k (a0_3.size : Int) 1 t249 _ A7.out).mono ?_
            rintro e w26 ⟨rfl, hb⟩
            refine ⟨_, rfl, ?_⟩
            replace HO252 := Aside0.mk (Kd.R_below (kdr HO252.out) hb)
            replace BK245 := Aside0.mk (blk_below (g := gb245) (o := .cells #[.int .i64 a0_0, .int .i64 a0_1, .int .i64 a0_2, .string a0_3] 102 (0, 0)) (blkd BK245.out) hb)
            replace HB := Aside0.mk (below_step (bel HB.out) hb)
            (try clear hb)
            (try clear hb2)
            (try clear hk)
            (try clear hi)
            refine hK.out _ _ ⟨(blk_cell BK245.out 0).trans rfl, (blk_cell BK245.out 1).trans rfl, (blk_cell BK245.out 2).trans rfl, (blk_cell BK245.out 3).trans rfl⟩ (fun hHeld => ?_)
            clear hK K
            refine norm_ (a' := ?_) ?_ ?_
            rotate_left
            ·show Act.put _ (some 18) _ = _
             simp only [Act.put, List.setIfInBounds_toArray, List.set_cons_zero, List.set_cons_succ, i64_w, i32_w]
             rfl
            refine pureS 15 19 (bs 28 66846719) HT_.out (h := ?_)
            refine pureS 18 22 (bs 28 67108863) HT_.out (h := ?_)
            exact norm_ (by first | (simp only [putAll, Act.put, List.setIfInBounds_toArray, List.set_cons_zero, List.set_cons_succ]; done) | (simp only [putAll, Act.put, List.setIfInBounds_toArray, List.set_cons_zero, List.set_cons_succ]; rfl)) (hJ2_5_9_14_24_25 (v251) _ ⟨hHeld, (kdr HO252.out), (blkd BK245.out), (bel HB.out)⟩)
          ·skip
           rintro v251 w25 ⟨hS_, h0_, h1_, h2_⟩
           have n0_ : Aside0 (Kd.R (Kd.int .u8) 5 w25 w.heap.size (fun _ => True) v251 y250) := ⟨h0_⟩
           have n1_ : Aside0 (w25.heap[gb245]? = some (.cells #[.int .i64 a0_0, .int .i64 a0_1, .int .i64 a0_2, .string a0_3] 102 (0, 0))) := ⟨h1_⟩
           have n2_ : Aside0 (Below w.heap.size w w25) := ⟨h2_⟩
           clear BK245 HB
           clear h0_ h1_ h2_
           have HO252 := n0_
           have BK245 := n1_
           have HB := n2_
           clear n0_ n1_ n2_
           have hHeld : C4 w25 gb245 (.int .i64 a0_0) (.int .i64 a0_1) (.int .i64 a0_2) (.string a0_3) := hS_
           refine norm_ (a' := ?_) ?_ ?_
           rotate_left
           ·simp only [putAll, Act.put, List.setIfInBounds_toArray, List.set_cons_zero, List.set_cons_succ]
            rfl
           refine one_ (i := 25) (N := some 29) (bs 28 67108863) rfl rfl (one_of HT_.out (by kernel_rfl)) (by decide) (fun K hK => ?_)
           have hcv26 := own_string (P := Try.prog) Try.underlying33 Try.underlying5 Try.underlying9 (Kd.own_of_R HO252.out)
           refine value_ (w1 := ?_) (v := ?_) (by rfl) rfl ?_ ?_
           rotate_left 2
           ·go_simp
            constructor
            ·rfl
            ·rfl
           clear hcv26
           refine hK.out _ _ ⟨(blk_cell BK245.out 0).trans rfl, (blk_cell BK245.out 1).trans rfl, (blk_cell BK245.out 2).trans rfl, (blk_cell BK245.out 3).trans rfl⟩ (fun hHeld => ?_)
           clear hK K
           refine norm_ (a' := ?_) ?_ ?_
           rotate_left
           ·show Act.put _ (some 29) _ = _
            simp only [Act.put, List.setIfInBounds_toArray, List.set_cons_zero, List.set_cons_succ, i64_w, i32_w]
            rfl
           exact norm_ (by first | (simp only [putAll, Act.put, List.setIfInBounds_toArray, List.set_cons_zero, List.set_cons_succ]; done) | (simp only [putAll, Act.put, List.setIfInBounds_toArray, List.set_cons_zero, List.set_cons_succ]; rfl)) (hJ2_5_9_14_24_25 (v251) _ ⟨hHeld, (kdr HO252.out), (blkd BK245.out), (bel HB.out)⟩)
         rintro v251 w26 ⟨hS_, h0_, h1_, h2_⟩
         have n0_ : Aside0 (Kd.R (Kd.int .u8) 5 w26 w.heap.size (fun _ => True) v251 y250) := ⟨h0_⟩
         have n1_ : Aside0 (w26.heap[gb245]? = some (.cells #[.int .i64 a0_0, .int .i64 a0_1, .int .i64 a0_2, .string a0_3] 102 (0, 0))) := ⟨h1_⟩
         have n2_ : Aside0 (Below w.heap.size w w26) := ⟨h2_⟩
         clear BK245 HB
         clear h0_ h1_ h2_
         have HO252 := n0_
         have BK245 := n1_
         have HB := n2_
         clear n0_ n1_ n2_
         have hHeld : C4 w26 gb245 (.int .i64 a0_0) (.int .i64 a0_1) (.int .i64 a0_2) (.string a0_3) := hS_
         refine norm_ (a' := ?_) ?_ ?_
         rotate_left
         ·simp only [putAll, Act.put, List.setIfInBounds_toArray, List.set_cons_zero, List.set_cons_succ]
          rfl
         refine pureS 26 30 (bs 28 134217727) HT_.out (h := ?_)
         refine pureS 27 3 (bs 28 268435455) HT_.out (h := ?_)
         refine done_ (done_of HT_.out (by kernel_rfl)) ?_
         try go_wp2_with (first | (go_at_call 209; (with_reducible refine (spec_l5On.calls k 0 (((((t246 ++ t247) ++ t248) ++ t249) ++ a0_3) ++ (strOfNums y250)) t253 _ A14.out).mono ?_); rintro e w' ⟨rfl, ⟨nd, rfl⟩⟩) | (go_at_call 208; (with_reducible refine (spec_l6Low.calls k t253 t254 _ A15.out).mono ?_); rintro e w27 ⟨rfl, hb⟩; replace HO252 := Aside0.mk (Kd.R_below (kdr HO252.out) hb); replace BK245 := Aside0.mk (blk_below (g := gb245) (o := .cells #[.int .i64 a0_0, .int .i64 a0_1, .int .i64 a0_2, .string a0_3] 102 (0, 0)) (blkd BK245.out) hb); replace HB := Aside0.mk (below_step (bel HB.out) hb); (try clear hb); (try clear hb2); (try clear hk); (try clear hi)))
         go_ret
         exact ⟨by first | rfl | (simp [errW_none, errW_some] <;> rfl) | (simp only [← hji10]; first | rfl | (simp [errW_none, errW_some] <;> rfl)) | (simp [*, errW_none, errW_some] <;> rfl), (bel HB.out)⟩
        ·rw [if_neg c16] at H
         exact absurd H (by simp)
       ·rw [if_neg c13] at H
        exact absurd H (by simp)
      ·rw [if_neg c12] at H
       exact absurd H (by simp)
     ·rw [if_neg c11] at H
      exact absurd H (by simp)
    ·rw [if_neg c9] at H
     exact absurd H (by simp)
   ·rw [if_neg c8] at H
    exact absurd H (by simp)
  ·rw [if_neg c6] at H
   exact absurd H (by simp)
 ·rw [if_neg c4] at H
  exact absurd H (by simp)

end Go.Proofs.Ytldlldfoaicjcaa.MFnBodies
-- SHRUNK
