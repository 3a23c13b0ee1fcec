/- The machine's side of FnBodies, written by this session's program out of the kit's print of the program, with contracts of this session's own. No conditions beyond those typed. -/
import Derived.Test.YtldlldfoaicjcaaMFnBodiesx0
import Derived.Test.YtldlldfoaicjcaaMFnBodiesx1
import Derived.Test.YtldlldfoaicjcaaMFnBodiesx5
import Derived.Test.YtldlldfoaicjcaaMFnBodiesx8
namespace Go.Proofs.Ytldlldfoaicjcaa.MFnBodies
open Go.RowKit Go.Proofs.YtldlldfoaicjcaaW.PrintWords Go.Proofs.YtldlldfoaicjcaaW.PrintLast Go.Proofs.YtldlldfoaicjcaaW.PrintMore
attribute [local go_sem] max2_int min2_int max_two min_two max_three min_three max_four min_four   -- for this text's walks alone
set_option linter.unusedVariables false
set_option linter.unusedSimpArgs false

/-! ### spec_DrawReadAll: function 46 -/
def spec_DrawReadAll.j0 : Nat → List ByteArray → Bool → List Int → Int → Int → Int → Int → Int → ByteArray → Option (List ByteArray × Int × Int × Int)
 | 0, _, _, _, _, _, _, _, _, _ => none
 | k + 1, x8, x33, x370000, x370001, x370002, x377000, x377001, x377002, x377003 => if x33 = true then ((spec_l1Cur_pick.f x370000 x370001 x370002 (x8.length : Int)).bind fun bt387 => ((spec_l1Cur_sector.f k x370000 bt387.2.1 bt387.2.2).bind fun bt390 => (if 0 ≤ bt387.1 then (if bt387.1 < (x8.length : Int) then ((spec_l1Cur_pick.f x370000 bt390.2.1 bt390.2.2 3).bind fun bt394 => (some ((x8.set (bt387.1 : Int).toNat bt390.1), x377000, x377001, wrap64 ((wrap64 (x377002 + bt394.1)) - 1)))) else (none)) else (none)))) else ((spec_l1Cur_pick.f x370000 x370001 x370002 3).bind fun bt397 => (some (x8, x377000, x377001, wrap64 ((wrap64 (x377002 + bt397.1)) - 1))))
def spec_DrawReadAll.f (k : Nat) (l0 : List Int) : Option (List ByteArray × Int × Int × Int) := (spec_l1Cur_frame.f l0 0 0).bind fun bt370 => ((spec_l1Cur_body.f k l0 bt370.2.2.2.2.1 bt370.2.2.2.2.2).bind fun bt377 => ((spec_FrameAll.f k bt370.1 bt370.2.1 bt370.2.2.1 bt377.1).bind fun bt380 => (if (bt380.1.length : Int) > 0 then ((spec_l1Cur_one.f l0 bt377.2.1 bt377.2.2 3).bind fun bt384 => (spec_DrawReadAll.j0 k bt380.1 bt384.1 l0 bt384.2.1 bt384.2.2 bt370.1 bt370.2.1 bt370.2.2.1 bt370.2.2.2.1)) else (spec_DrawReadAll.j0 k bt380.1 false l0 bt377.2.1 bt377.2.2 bt370.1 bt370.2.1 bt370.2.2.1 bt370.2.2.2.1))))
set_option maxRecDepth 100000 in
theorem spec_DrawReadAll.mono_l : ∀ k, (∀ y0 y1 y2 y3 y4 y5 y6 y7 y8, LeO (spec_DrawReadAll.j0 k y0 y1 y2 y3 y4 y5 y6 y7 y8) (spec_DrawReadAll.j0 (k + 1) y0 y1 y2 y3 y4 y5 y6 y7 y8))
 | 0 => fun _ _ _ _ _ _ _ _ _ r h => by first | (unfold spec_DrawReadAll.j0 at h; cases h; done) | simp [spec_DrawReadAll.j0] at h
 | k + 1 => by
  have ih0 := spec_DrawReadAll.mono_l k
  ·intro y0 y1 y2 y3 y4 y5 y6 y7 y8
   unfold spec_DrawReadAll.j0
   with_reducible repeat' first | exact ih0 _ _ _ _ _ _ _ _ _ | exact spec_FrameAll.mono _ _ _ _ _ | exact spec_l1Cur_body.mono _ _ _ _ | exact spec_l1Cur_sector.mono _ _ _ _ | exact LeO.refl _ | exact LeO.none _ | refine LeO.ite ?_ ?_ | refine LeO.bind ?_ (fun _ => ?_)
theorem spec_DrawReadAll.mono : ∀ a0 k, LeO (spec_DrawReadAll.f k a0) (spec_DrawReadAll.f (k + 1) a0) := by
 intro a0 k
 have ih0 := spec_DrawReadAll.mono_l k
 unfold spec_DrawReadAll.f
 with_reducible repeat' first | exact ih0 _ _ _ _ _ _ _ _ _ | exact spec_FrameAll.mono _ _ _ _ _ | exact spec_l1Cur_body.mono _ _ _ _ | exact spec_l1Cur_sector.mono _ _ _ _ | exact LeO.refl _ | exact LeO.none _ | refine LeO.ite ?_ ?_ | refine LeO.bind ?_ (fun _ => ?_)
def spec_DrawReadAll.T3 : Bool × List (List Nat × List Nat) := (true, [([], []), ([0], [0]), ([], []), ([2], [2]), ([], []), ([4], [4]), ([], []), ([6], [6]), ([1, 3, 5, 7, 7], [1, 3, 5, 7]), ([8], [8]), ([9], [9]), ([9], [9]), ([10, 8, 0, 1, 2, 3, 4, 5, 6, 7, 8, 9, 10], [10]), ([11, 12, 0, 1, 2, 3, 4, 5, 6, 7, 8, 9, 10, 11, 12], [11])])
def spec_DrawReadAll.B3 : List Nat := [0, 1, 0, 4, 0, 16, 0, 64, 255, 511, 1023, 1023, 2047, 8191]
theorem spec_DrawReadAll.tab3 : rtab .any (opsOf Try.f46 3) = spec_DrawReadAll.T3 := by kernel_rfl
theorem spec_DrawReadAll.bits3 : waitsOk spec_DrawReadAll.T3.2 spec_DrawReadAll.B3 = true := by kernel_rfl
def spec_DrawReadAll.T6 : Bool × List (List Nat × List Nat) := (true, [([], []), ([], []), ([1], [1]), ([], []), ([3], [3]), ([], []), ([5], [5]), ([], []), ([7], [7]), ([6, 8], [6, 8]), ([9], [9]), ([0, 8, 0], [0]), ([2, 11, 0, 1, 2, 11], [2]), ([4, 12, 0, 1, 2, 3, 4, 11, 12], [4]), ([10, 13, 0, 1, 2, 3, 4, 5, 6, 7, 8, 9, 10, 11, 12, 13], [10])])
def spec_DrawReadAll.B6 : List Nat := [0, 0, 2, 0, 8, 0, 32, 0, 128, 480, 992, 385, 2439, 6559, 16383]
theorem spec_DrawReadAll.tab6 : rtab .any (opsOf Try.f46 6) = spec_DrawReadAll.T6 := by kernel_rfl
theorem spec_DrawReadAll.bits6 : waitsOk spec_DrawReadAll.T6.2 spec_DrawReadAll.B6 = true := by kernel_rfl
set_option maxHeartbeats 8000000 in
set_option maxRecDepth 100000 in
theorem spec_DrawReadAll.calls (k : Nat) (A0 : Option Addr) (c0 : Nat) (l0 : List Int) (r1 : List ByteArray) (r2 : Int) (r3 : Int) (r4 : Int) (w : World) (hr0 : Kd.C (Kd.int .u8) w A0 l0.length l0) (hc0 : l0.length ≤ c0) (h : spec_DrawReadAll.f k l0 = some (r1, r2, r3, r4)) :
  Calls Try.prog 46 #[.slice A0 l0.length c0] w fun e w' => ∃ v0_ : Value, e = .returned (.tuple #[v0_, .int .i64 r2, .int .i64 r3, .int .i64 r4]) ∧ Kd.R Kd.string 9 w' w.heap.size (fun _ => True) v0_ r1 ∧ Below w.heap.size w w' := by
 have hu93 := Try.underlying93
 have hu102 := Try.underlying102
 have HR0 := Aside0.mk hr0
 have HC0 := Aside0.mk hc0
 clear hr0 hc0
 have HB := Aside0.mk (Below.refl w.heap.size w)
 have H : ((spec_l1Cur_frame.f l0 0 0).bind fun bt370 => ((spec_l1Cur_body.f k l0 bt370.2.2.2.2.1 bt370.2.2.2.2.2).bind fun bt377 => ((spec_FrameAll.f k bt370.1 bt370.2.1 bt370.2.2.1 bt377.1).bind fun bt380 => (if (bt380.1.length : Int) > 0 then ((spec_l1Cur_one.f l0 bt377.2.1 bt377.2.2 3).bind fun bt384 => (spec_DrawReadAll.j0 k bt380.1 bt384.1 l0 bt384.2.1 bt384.2.2 bt370.1 bt370.2.1 bt370.2.2.1 bt370.2.2.2.1)) else (spec_DrawReadAll.j0 k bt380.1 false l0 bt377.2.1 bt377.2.2 bt370.1 bt370.2.1 bt370.2.2.1 bt370.2.2.2.1))))) = some (r1, r2, r3, r4) := h
 clear h
 replace H := Option.bind_eq_some_iff.mp H
 obtain ⟨⟨t370, t371, t372, t373, t374, t375⟩, A20, H⟩ := H
 have A2 := Aside0.mk A20
 clear A20
 replace H := Option.bind_eq_some_iff.mp H
 obtain ⟨⟨t377, t378, t379⟩, A30, H⟩ := H
 have A3 := Aside0.mk A30
 clear A30
 replace H := Option.bind_eq_some_iff.mp H
 obtain ⟨⟨t380, t381⟩, A40, H⟩ := H
 have A4 := Aside0.mk A40
 clear A40
 have HC5 := Aside0.mk H
 clear H
 go_enter Try.func46, Try.ntmps46
 try go_wp2_with (first | ((with_reducible refine gate_dst (N := 12) rfl ?_); refine boxE 12 #[.slice A0 l0.length c0, .int .i64 0, .int .u64 0] 93 ?_; intro gb369 hg w6 hbox hb; have HI369 := Aside0.mk ((⟨_, _, hbox, by rw [hg]; exact (below_size (bez HB.out)), HR0.out⟩ : IsS93 w w6 gb369 l0 0 0)); replace HB := Aside0.mk (below_step (bez HB.out) hb); clear hb hbox hg) | (go_at_call 107; (with_reducible refine (spec_l1Cur_frame.calls gb369 l0 0 0 t370 t371 t372 t373 t374 t375 w _ ?side1 ?side2 A2.out).mono ?_); (case side1 => exact (isS93 HI369.out)); (case side2 => exact (belS93 HB.out HI369.out)); rintro e w7 ⟨rfl, hi, hb, hk⟩; replace HB := Aside0.mk (hb); replace HI369 := Aside0.mk (hi); (try clear hb); (try clear hb2); (try clear hk); (try clear hi)) | ((with_reducible refine gate_dst (N := 7) rfl ?_); refine boxE 7 #[.int .i64 0, .int .i64 0, .int .i64 0, .string (⟨#[]⟩ : ByteArray)] 102 ?_; intro gb376 hg w8 hbox hb; have BK376 := Aside0.mk (hbox); have GW376 := Aside0.mk ((by rw [hg]; exact (below_size (belS93 HB.out HI369.out)) : w.heap.size ≤ gb376)); have GE376 := Aside0.mk ((by rw [hg]; exact (below_size (belS93 HB.out HI369.out)) : w.heap.size ≤ gb376)); replace HB := Aside0.mk (below_step (belS93 HB.out HI369.out) hb); have NB369_376 := Aside0.mk ((by rw [hg]; exact Nat.ne_of_lt (IsS93.lt (show IsS93 w _ gb369 l0 t374 t375 from (isS93 HI369.out))) : gb369 ≠ gb376)); have NB376_369 := Aside0.mk ((by rw [hg]; exact Nat.ne_of_gt (IsS93.lt (show IsS93 w _ gb369 l0 t374 t375 from (isS93 HI369.out))) : gb376 ≠ gb369)); replace HI369 := Aside0.mk (IsS93.below (isS93 HI369.out) hb); clear hb hbox hg; have hnb9 := NB376_369.out; have hnc9 := NB369_376.out; obtain ⟨⟨hcz10_0, hcz10_1, hcz10_2, hcz10_3⟩, hfz10_0, hfz10_1, hfz10_2, hfz10_3⟩ := blk4 BK376.out))
 have n0_ : Aside0 (((((w8.setCell ⟨gb376, 0, none⟩ (.int .i64 t370)).setCell ⟨gb376, 1, none⟩ (.int .i64 t371)).setCell ⟨gb376, 2, none⟩ (.int .i64 t372)).setCell ⟨gb376, 3, none⟩ (.string t373)).heap[gb376]? = some (.cells #[.int .i64 t370, .int .i64 t371, .int .i64 t372, .string t373] 102 (0, 0))) := ⟨by (with_reducible repeat (first | refine blk_drewN ?_ _ | refine blk_drew ?_ | refine blk_alloc ?_ _)); refine blk_put (cs := #[.int .i64 t370, .int .i64 t371, .int .i64 t372, .string (⟨#[]⟩ : ByteArray)]) ?_ 3 _ rfl; (with_reducible repeat (first | refine blk_drewN ?_ _ | refine blk_drew ?_ | refine blk_alloc ?_ _)); refine blk_put (cs := #[.int .i64 t370, .int .i64 t371, .int .i64 0, .string (⟨#[]⟩ : ByteArray)]) ?_ 2 _ rfl; (with_reducible repeat (first | refine blk_drewN ?_ _ | refine blk_drew ?_ | refine blk_alloc ?_ _)); refine blk_put (cs := #[.int .i64 t370, .int .i64 0, .int .i64 0, .string (⟨#[]⟩ : ByteArray)]) ?_ 1 _ rfl; (with_reducible repeat (first | refine blk_drewN ?_ _ | refine blk_drew ?_ | refine blk_alloc ?_ _)); refine blk_put (cs := #[.int .i64 0, .int .i64 0, .int .i64 0, .string (⟨#[]⟩ : ByteArray)]) ?_ 0 _ rfl; (with_reducible repeat (first | refine blk_drewN ?_ _ | refine blk_drew ?_ | refine blk_alloc ?_ _)); exact BK376.out⟩
 have n1_ : Aside0 (IsS93 w ((((w8.setCell ⟨gb376, 0, none⟩ (.int .i64 t370)).setCell ⟨gb376, 1, none⟩ (.int .i64 t371)).setCell ⟨gb376, 2, none⟩ (.int .i64 t372)).setCell ⟨gb376, 3, none⟩ (.string t373)) gb369 l0 t374 t375) := ⟨(isT93 HI369.out)⟩
 have n2_ : Aside0 (Below w.heap.size w ((((w8.setCell ⟨gb376, 0, none⟩ (.int .i64 t370)).setCell ⟨gb376, 1, none⟩ (.int .i64 t371)).setCell ⟨gb376, 2, none⟩ (.int .i64 t372)).setCell ⟨gb376, 3, none⟩ (.string t373))) := ⟨(belT93 HB.out HI369.out)⟩
 (try clear BK376)
 (try clear HI369)
 (try clear HB)
 generalize ((((w8.setCell ⟨gb376, 0, none⟩ (.int .i64 t370)).setCell ⟨gb376, 1, none⟩ (.int .i64 t371)).setCell ⟨gb376, 2, none⟩ (.int .i64 t372)).setCell ⟨gb376, 3, none⟩ (.string t373)) = w11 at n0_ n1_ n2_ ⊢
 have BK376 := n0_
 have HI369 := n1_
 have HB := n2_
 clear n0_ n1_ n2_
 replace BK376 := Aside0.mk (blk_drew BK376.out)
 replace HI369 := Aside0.mk (IsS93.drew HI369.out)
 replace HB := Aside0.mk (below_drew1 HB.out)
 refine start_ (n := 14) (S := fun w' => C4 w' gb376 (.int .i64 t370) (.int .i64 t371) (.int .i64 t372) (.string t373)) (ds := []) (bs 14 0) (by kernel_rfl) rfl rfl ⟨(blk_cell BK376.out 0).trans rfl, (blk_cell BK376.out 1).trans rfl, (blk_cell BK376.out 2).trans rfl, (blk_cell BK376.out 3).trans rfl⟩ (fun hHeld => ?_); refine with_tabW spec_DrawReadAll.tab3 spec_DrawReadAll.bits3 (fun HT_ HW_ => ?_)
 generalize w11.drew = w12 at BK376 HI369 HB hHeld ⊢
 refine pureS 0 16 (bs 14 1) HT_.out (h := ?_)
 refine pureS 2 18 (bs 14 5) HT_.out (h := ?_)
 refine pureS 4 20 (bs 14 21) HT_.out (h := ?_)
 refine pureS 6 22 (bs 14 85) HT_.out (h := ?_)
 refine takeS 1 17 (bs 14 87) HT_.out HW_.out hHeld (h := ?_)
 refine takeS 3 19 (bs 14 95) HT_.out HW_.out hHeld (h := ?_)
 refine takeS 5 21 (bs 14 127) HT_.out HW_.out hHeld (h := ?_)
 refine one_ (i := 7) (N := some 23) (bs 14 255) rfl rfl (one_of HT_.out (by kernel_rfl)) (by decide) (fun K hK => ?_)
 refine goes_ Try.func108 (by kernel_rfl) rfl #[.pointer (some ⟨gb369, 0, none⟩)] (by rfl) rfl rfl (by (try simp only [List.map_toArray, List.map_cons, List.map_nil]); first | done | rfl | (simp only [List.length_drop, List.length_take]; rfl)) ?_
 with_reducible refine (spec_l1Cur_body.calls k gb369 l0 t374 t375 t377 t378 t379 w _ ?side1 ?side2 A3.out).mono ?_
 (case side1 => exact (isT93 HI369.out))
 (case side2 => exact (belT93 HB.out HI369.out))
 rintro e w13 ⟨rfl, hi, hb, hk⟩
 refine ⟨_, rfl, ?_⟩
 replace BK376 := Aside0.mk (KeepBut.blk hk (g' := gb376) (o := .cells #[.int .i64 t370, .int .i64 t371, .int .i64 t372, .string t373] 102 (0, 0)) (blkd BK376.out) NB376_369.out (by simp))
 replace HB := Aside0.mk (hb)
 replace HI369 := Aside0.mk (hi)
 (try clear hb)
 (try clear hb2)
 (try clear hk)
 (try clear hi)
 refine hK.out _ _ ⟨(blk_cell BK376.out 0).trans rfl, (blk_cell BK376.out 1).trans rfl, (blk_cell BK376.out 2).trans rfl, (blk_cell BK376.out 3).trans rfl⟩ (fun hHeld => ?_)
 clear hK K
 refine norm_ (a' := ?_) ?_ ?_
 rotate_left
 ·show Act.put _ (some 23) _ = _
  simp only [Act.put, List.setIfInBounds_toArray, List.set_cons_zero, List.set_cons_succ, i64_w, i32_w]
  rfl
 refine one_ (i := 8) (N := some 24) (bs 14 511) rfl rfl (one_of HT_.out (by kernel_rfl)) (by decide) (fun K hK => ?_)
 refine goes_ Try.func36 (by kernel_rfl) rfl #[.int .i64 t370, .int .i64 t371, .int .i64 t372, .string t377] (by rfl) rfl rfl (by (try simp only [List.map_toArray, List.map_cons, List.map_nil]); first | done | rfl | (simp only [List.length_drop, List.length_take]; rfl)) ?_
 with_reducible refine (spec_FrameAll.calls k t370 t371 t372 t377 t380 t381 _ A4.out).mono ?_
 rintro e w14 ⟨v382, rfl, ho0, hb⟩
 refine ⟨_, rfl, ?_⟩
 have HO383 := Aside0.mk (Kd.R_lower ho0 (below_size (belT93 HB.out HI369.out)))
 replace BK376 := Aside0.mk (blk_below (g := gb376) (o := .cells #[.int .i64 t370, .int .i64 t371, .int .i64 t372, .string t373] 102 (0, 0)) (blkd BK376.out) hb)
 replace HB := Aside0.mk (below_step (belT93 HB.out HI369.out) hb)
 replace HI369 := Aside0.mk (IsS93.below (isT93 HI369.out) hb)
 (try clear hb)
 (try clear hb2)
 (try clear hk)
 (try clear hi)
 (try clear ho0)
 refine hK.out _ _ ⟨(blk_cell BK376.out 0).trans rfl, (blk_cell BK376.out 1).trans rfl, (blk_cell BK376.out 2).trans rfl, (blk_cell BK376.out 3).trans rfl⟩ (fun hHeld => ?_)
 clear hK K
 refine norm_ (a' := ?_) ?_ ?_
 rotate_left
 ·show Act.put _ (some 24) _ = _
  simp only [Act.put, List.setIfInBounds_toArray, List.set_cons_zero, List.set_cons_succ, i64_w, i32_w]
  rfl
 refine pureS 9 15 (bs 14 1023) HT_.out (h := ?_)
 refine pureS 10 25 (bs 14 2047) HT_.out (h := ?_)
 refine pureS 11 26 (bs 14 4095) HT_.out (h := ?_)
 refine pureS 12 8 (bs 14 8191) HT_.out (h := ?_)
 refine pureS 13 9 (bs 14 16383) HT_.out (h := ?_)
 refine done_ (done_of HT_.out (by kernel_rfl)) ?_
 go_upto_region 4 with (fail)
 go_cut [33] (fun v33 wc => ∃ (kq : Nat) (x33_4 : Bool) (x370001_4 : Int) (x370002_4 : Int), v33 = .bool x33_4 ∧ Aside0 (spec_DrawReadAll.j0 kq t380 x33_4 l0 x370001_4 x370002_4 t370 t371 t372 t373 = some (r1, r2, r3, r4)) ∧ Aside0 (kq ≤ k) ∧ Aside0 (Kd.R Kd.string 9 wc w.heap.size (fun _ => True) v382 t380) ∧ Aside0 (wc.heap[gb376]? = some (.cells #[.int .i64 t370, .int .i64 t371, .int .i64 t372, .string t373] 102 (0, 0))) ∧ Aside0 (IsS93 w wc gb369 l0 x370001_4 x370002_4) ∧ Aside0 (Below w.heap.size w wc))
 case first =>
  have H := HC5.out
  clear HC5
  by_cases c15 : (t380.length : Int) > 0
  ·rw [if_pos c15] at H
   have c15b0 := decide_eq_true c15
   have c15b1 : decide (0 < t380.length) = true := decide_eq_true (by omega)
   clear c15
   (first | rw [c15b0] | (simp only [i64_w, i32_w]; rw [c15b0]) | skip)
   replace H := Option.bind_eq_some_iff.mp H
   obtain ⟨⟨t384, t385, t386⟩, A160, H⟩ := H
   have A16 := Aside0.mk A160
   clear A160
   have H' := Aside0.mk H
   clear H
   obtain ⟨Ao17, co17, eo17⟩ := Kd.R_slice HO383.out
   subst eo17
   go_wp2_with (first | (go_at_call 115; (with_reducible refine (spec_l1Cur_one.calls gb369 l0 t378 t379 3 t384 t385 t386 w _ ?side1 ?side2 A16.out).mono ?_); (case side1 => exact (isT93 HI369.out)); (case side2 => exact (belT93 HB.out HI369.out)); rintro e w18 ⟨rfl, hi, hb, hk⟩; replace BK376 := Aside0.mk (KeepBut.blk hk (g' := gb376) (o := .cells #[.int .i64 t370, .int .i64 t371, .int .i64 t372, .string t373] 102 (0, 0)) (blkd BK376.out) NB376_369.out (by simp)); replace HO383 := Aside0.mk (Kd.R_mono (Kd.R_keep (IsS93.apart (show IsS93 w _ gb369 l0 t378 t379 from (isT93 HI369.out)) (kdr HO383.out) (by decide)) hk (fun _ h => h.2)) (fun _ h => h.1)); replace HB := Aside0.mk (hb); replace HI369 := Aside0.mk (hi); (try clear hb); (try clear hb2); (try clear hk); (try clear hi)))
   go_meet
   case rel => exact ⟨_, (t384), (t385), (t386), (by first | rfl | simp [*]), H', ⟨by first | omega | exact Nat.le_refl _⟩, ⟨by (with_reducible repeat (first | apply Kd.R_alloc | apply Kd.R_drewN | apply Kd.R_drew)); exact HO383.out⟩, ⟨by (with_reducible repeat (first | refine blk_drewN ?_ _ | refine blk_drew ?_ | refine blk_alloc ?_ _)); exact BK376.out⟩, ⟨(isT93 HI369.out)⟩, ⟨(belT93 HB.out HI369.out)⟩⟩
  ·rw [if_neg c15] at H
   have c15b0 := decide_eq_false c15
   have c15b1 : decide (0 < t380.length) = false := decide_eq_false (by omega)
   clear c15
   (first | rw [c15b0] | (simp only [i64_w, i32_w]; rw [c15b0]) | skip)
   have H' := Aside0.mk H
   clear H
   obtain ⟨Ao19, co19, eo19⟩ := Kd.R_slice HO383.out
   subst eo19
   go_wp2
   go_meet
   case rel => exact ⟨_, (false), (t378), (t379), (by first | rfl | simp [*]), H', ⟨by first | omega | exact Nat.le_refl _⟩, ⟨by (with_reducible repeat (first | apply Kd.R_alloc | apply Kd.R_drewN | apply Kd.R_drew)); exact HO383.out⟩, ⟨by (with_reducible repeat (first | refine blk_drewN ?_ _ | refine blk_drew ?_ | refine blk_alloc ?_ _)); exact BK376.out⟩, ⟨(isT93 HI369.out)⟩, ⟨(belT93 HB.out HI369.out)⟩⟩
 case rest =>
  clear HC5
  try clear c1; try clear p2; try clear c3; try clear c4; try clear c9; try clear c10; try clear c15; try clear c15b0; try clear c15b1; try clear hcz10_0; try clear hcz10_1; try clear hcz10_2; try clear hcz10_3; try clear hfz10_0; try clear hfz10_1; try clear hfz10_2; try clear hfz10_3
  obtain ⟨kq, x33_4, x370001_4, x370002_4, rfl, HA, HJ4, HO_8, BK376, HI369, HB⟩ := hcut
  cases kq with
  | zero => exact absurd HA.out (by first | (unfold spec_DrawReadAll.j0; exact fun h_ => nomatch h_) | simp [spec_DrawReadAll.j0])
  | succ kj4 =>
   have H := HA.out
   clear HA
   simp only [spec_DrawReadAll.j0] at H
   by_cases c20 : x33_4 = true
   ·subst c20
    have H1 : ((spec_l1Cur_pick.f l0 x370001_4 x370002_4 (t380.length : Int)).bind fun bt387 => ((spec_l1Cur_sector.f kj4 l0 bt387.2.1 bt387.2.2).bind fun bt390 => (if 0 ≤ bt387.1 then (if bt387.1 < (t380.length : Int) then ((spec_l1Cur_pick.f l0 bt390.2.1 bt390.2.2 3).bind fun bt394 => (some ((t380.set (bt387.1 : Int).toNat bt390.1), t370, t371, wrap64 ((wrap64 (t372 + bt394.1)) - 1)))) else (none)) else (none)))) = some (r1, r2, r3, r4) := by rw [if_pos rfl] at H; exact H
    clear H
    have H := H1
    clear H1
    replace H := Option.bind_eq_some_iff.mp H
    obtain ⟨⟨t387, t388, t389⟩, A210, H⟩ := H
    have A21 := Aside0.mk A210
    clear A210
    replace H := Option.bind_eq_some_iff.mp H
    obtain ⟨⟨t390, t391, t392⟩, A220, H⟩ := H
    have A22 := Aside0.mk A220
    clear A220
    by_cases c23 : 0 ≤ t387
    ·rw [if_pos c23] at H
     have c23b0 := decide_eq_true c23
     clear c23
     by_cases c24 : t387 < (t380.length : Int)
     ·rw [if_pos c24] at H
      have c24b0 := decide_eq_true c24
      clear c24
      obtain ⟨y393, hy393⟩ : ∃ y_ : List ByteArray, y_ = (t380.set (t387 : Int).toNat t390) := ⟨_, rfl⟩
      replace H : ((spec_l1Cur_pick.f l0 t391 t392 3).bind fun bt394 => (some (y393, t370, t371, wrap64 ((wrap64 (t372 + bt394.1)) - 1)))) = some (r1, r2, r3, r4) := by first | (rw [hy393]; with_reducible exact H) | (have H2_ := (Option.bind_some _ _).symm.trans H; rw [hy393]; with_reducible exact H2_) | (have H2_ := (Option.bind_some _ _).symm.trans H; with_reducible exact H2_) | with_reducible exact H | (rw [hy393]; exact H) | exact H
      have Ny393 := Aside0.mk hy393
      clear hy393
      replace H := Option.bind_eq_some_iff.mp H
      obtain ⟨⟨t394, t395, t396⟩, A260, H⟩ := H
      have A26 := Aside0.mk A260
      clear A260
      simp only [Option.some.injEq, Prod.mk.injEq] at H
      obtain ⟨rfl, rfl, rfl, rfl⟩ := H
      obtain ⟨Ao27, co27, eo27⟩ := Kd.R_slice HO_8.out
      subst eo27
      try go_wp2_with (first | (go_at_call 90; (with_reducible refine (spec_l1Cur_pick.calls gb369 l0 x370001_4 x370002_4 (t380.length : Int) t387 t388 t389 w _ ?side1 ?side2 A21.out).mono ?_); (case side1 => exact (isT93 HI369.out)); (case side2 => exact (belT93 HB.out HI369.out)); rintro e w28 ⟨rfl, hi, hb, hk⟩; replace HO_8 := Aside0.mk (Kd.R_mono (Kd.R_keep (IsS93.apart (show IsS93 w _ gb369 l0 x370001_4 x370002_4 from (isT93 HI369.out)) (kdr HO_8.out) (by decide)) hk (fun _ h => h.2)) (fun _ h => h.1)); replace BK376 := Aside0.mk (KeepBut.blk hk (g' := gb376) (o := .cells #[.int .i64 t370, .int .i64 t371, .int .i64 t372, .string t373] 102 (0, 0)) (blkd BK376.out) NB376_369.out (by simp)); replace HB := Aside0.mk (hb); replace HI369 := Aside0.mk (hi); (try clear hb); (try clear hb2); (try clear hk); (try clear hi)) | (go_at_call 117; (with_reducible refine (spec_l1Cur_sector.calls kj4 gb369 l0 t388 t389 t390 t391 t392 w _ ?side1 ?side2 A22.out).mono ?_); (case side1 => exact (isT93 HI369.out)); (case side2 => exact (belT93 HB.out HI369.out)); rintro e w29 ⟨rfl, hi, hb, hk⟩; replace HO_8 := Aside0.mk (Kd.R_mono (Kd.R_keep (IsS93.apart (show IsS93 w _ gb369 l0 t388 t389 from (isT93 HI369.out)) (kdr HO_8.out) (by decide)) hk (fun _ h => h.2)) (fun _ h => h.1)); replace BK376 := Aside0.mk (KeepBut.blk hk (g' := gb376) (o := .cells #[.int .i64 t370, .int .i64 t371, .int .i64 t372, .string t373] 102 (0, 0)) (blkd BK376.out) NB376_369.out (by simp)); replace HB := Aside0.mk (hb); replace HI369 := Aside0.mk (hi); (try clear hb); (try clear hb2); (try clear hk); (try clear hi); have p25 : 0 ≤ (t387 : Int) := of_decide_eq_true (by assumption); have q25 : (t387 : Int) < ((t380.length : Int) : Int) := of_decide_eq_true (by assumption); obtain ⟨go25, co25, eo25, gb25, gl25, cl25, HG25⟩ := Kd.R_form HO_8.out (by omega); (first | cases eo25 | (injection eo25 with ea_ en_ ec_; (first | subst ea_ | (injection ea_ with ea_; subst ea_)); subst ec_; clear en_)); have GB25 := Aside0.mk gb25; have GG25 := Aside0.mk HG25; clear gb25 gl25 HG25; obtain ⟨hx25_0, hf25_0⟩ := Kd.R_celln (⟨#[]⟩ : ByteArray) HO_8.out (t387 : Int) p25 q25; replace p25 := eq_true p25; replace q25 := eq_true q25; obtain ⟨hy30_, hz30_⟩ := Kd.R_celln (⟨#[]⟩ : ByteArray) HO_8.out (t387 : Int) (of_decide_eq_true (by assumption)) (of_decide_eq_true (by assumption)); have HP30 := Kd.R_putg HO_8.out (t387 : Int) t390) | ((with_reducible refine gate_store (t := 9) (p := 41) rfl ?_); refine store_event (t := 9) (p := 41) (v := ?vo_w31) (w1 := (w29.setCell ⟨go25, (t387 : Int).toNat, none⟩ (.string t390))) ?hg ?ho ?hn ?hr ?_; (case ho => rfl); (case hg => rfl); (case hn => rfl); (case hr => first | (go_simp; done) | (go_simp; rfl)); intro w31 hw; have hg : w29.grownBy w31 (some go25) := (by rw [hw]; exact HP30.2); have hp_ : Kd.R Kd.string 9 w31 w.heap.size (fun _ => True) (.slice (some ⟨go25, 0, none⟩) t380.length co27) y393 := (by rw [hw, Ny393.out]; exact HP30.1); clear HP30; replace BK376 := Aside0.mk (blk_grown (g := gb376) (o := .cells #[.int .i64 t370, .int .i64 t371, .int .i64 t372, .string t373] 102 (0, 0)) (blkd BK376.out) hg (Kd.R_ne HO_8.out BK376.out (by decide))); replace HI369 := Aside0.mk (IsS93.grown (isT93 HI369.out) hg (IsS93.own_ne HI369.out HO_8.out (by decide))); replace HO_8 := Aside0.mk (hp_); replace HB := Aside0.mk ((by rw [hw]; exact below_set (HB.out) GB25.out : Below w.heap.size w w31)); clear hg hw hp_))
      replace HO_8 := Aside0.mk (Kd.R_drew HO_8.out)
      replace BK376 := Aside0.mk (blk_drew BK376.out)
      replace HI369 := Aside0.mk (IsS93.drew HI369.out)
      replace HB := Aside0.mk (below_drew1 HB.out)
      refine start_ (n := 15) (S := fun w' => C4 w' gb376 (.int .i64 t370) (.int .i64 t371) (.int .i64 t372) (.string t373)) (ds := []) (bs 15 0) (by kernel_rfl) rfl rfl ⟨(blk_cell BK376.out 0).trans rfl, (blk_cell BK376.out 1).trans rfl, (blk_cell BK376.out 2).trans rfl, (blk_cell BK376.out 3).trans rfl⟩ (fun hHeld => ?_); refine with_tabW spec_DrawReadAll.tab6 spec_DrawReadAll.bits6 (fun HT_ HW_ => ?_)
      generalize w31.drew = w32 at HO_8 BK376 HI369 HB hHeld ⊢
      refine pureS 0 42 (bs 15 1) HT_.out (h := ?_)
      refine pureS 1 43 (bs 15 3) HT_.out (h := ?_)
      refine pureS 3 45 (bs 15 11) HT_.out (h := ?_)
      refine pureS 5 47 (bs 15 43) HT_.out (h := ?_)
      refine pureS 7 49 (bs 15 171) HT_.out (h := ?_)
      refine takeS 2 44 (bs 15 175) HT_.out HW_.out hHeld (h := ?_)
      refine takeS 4 46 (bs 15 191) HT_.out HW_.out hHeld (h := ?_)
      refine takeS 6 48 (bs 15 255) HT_.out HW_.out hHeld (h := ?_)
      refine one_ (i := 8) (N := some 50) (bs 15 511) rfl rfl (one_of HT_.out (by kernel_rfl)) (by decide) (fun K hK => ?_)
      refine goes_ Try.func90 (by kernel_rfl) rfl #[.pointer (some ⟨gb369, 0, none⟩), .int .i64 3] (by rfl) rfl rfl (by (try simp only [List.map_toArray, List.map_cons, List.map_nil]); first | done | rfl | (simp only [List.length_drop, List.length_take]; rfl)) ?_
      with_reducible refine (spec_l1Cur_pick.calls gb369 l0 t391 t392 3 t394 t395 t396 w _ ?side1 ?side2 A26.out).mono ?_
      (case side1 => exact (isT93 HI369.out))
      (case side2 => exact (belT93 HB.out HI369.out))
      rintro e w33 ⟨rfl, hi, hb, hk⟩
      refine ⟨_, rfl, ?_⟩
      replace HO_8 := Aside0.mk (Kd.R_mono (Kd.R_keep (IsS93.apart (show IsS93 w _ gb369 l0 t391 t392 from (isT93 HI369.out)) (kdr HO_8.out) (by decide)) hk (fun _ h => h.2)) (fun _ h => h.1))
      replace BK376 := Aside0.mk (KeepBut.blk hk (g' := gb376) (o := .cells #[.int .i64 t370, .int .i64 t371, .int .i64 t372, .string t373] 102 (0, 0)) (blkd BK376.out) NB376_369.out (by simp))
      replace HB := Aside0.mk (hb)
      replace HI369 := Aside0.mk (hi)
      (try clear hb)
      (try clear hb2)
      (try clear hk)
      (try clear hi)
      refine hK.out _ _ ⟨(blk_cell BK376.out 0).trans rfl, (blk_cell BK376.out 1).trans rfl, (blk_cell BK376.out 2).trans rfl, (blk_cell BK376.out 3).trans rfl⟩ (fun hHeld => ?_)
      clear hK K
      refine norm_ (a' := ?_) ?_ ?_
      rotate_left
      ·show Act.put _ (some 50) _ = _
       simp only [Act.put, List.setIfInBounds_toArray, List.set_cons_zero, List.set_cons_succ, i64_w, i32_w]
       rfl
      refine pureS 9 51 (bs 15 1023) HT_.out (h := ?_)
      refine pureS 10 52 (bs 15 2047) HT_.out (h := ?_)
      refine pureS 11 2 (bs 15 4095) HT_.out (h := ?_)
      refine pureS 12 3 (bs 15 8191) HT_.out (h := ?_)
      refine pureS 13 4 (bs 15 16383) HT_.out (h := ?_)
      refine pureS 14 5 (bs 15 32767) HT_.out (h := ?_)
      refine done_ (done_of HT_.out (by kernel_rfl)) ?_
      try go_wp2
      refine bodyPost_ret (results_list (rs := [.tmp 2, .tmp 3, .tmp 4, .tmp 5]) rfl (by simp) (.tmp (.tmp (.tmp (.tmp .nil))))) rfl ?_
      exact ⟨_, by first | rfl | simp [*], by (with_reducible repeat (first | apply Kd.R_alloc | apply Kd.R_drewN | apply Kd.R_drew)); exact HO_8.out, (belT93 HB.out HI369.out)⟩
     ·rw [if_neg c24] at H
      exact absurd H (by simp)
    ·rw [if_neg c23] at H
     exact absurd H (by simp)
   ·replace c20 := Bool.eq_false_iff.mpr c20
    subst c20
    have H1 : ((spec_l1Cur_pick.f l0 x370001_4 x370002_4 3).bind fun bt397 => (some (t380, t370, t371, wrap64 ((wrap64 (t372 + bt397.1)) - 1)))) = some (r1, r2, r3, r4) := by rw [if_neg (show ¬ (false = true) by decide)] at H; exact H
    clear H
    have H := H1
    clear H1
    replace H := Option.bind_eq_some_iff.mp H
    obtain ⟨⟨t397, t398, t399⟩, A340, H⟩ := H
    have A34 := Aside0.mk A340
    clear A340
    simp only [Option.some.injEq, Prod.mk.injEq] at H
    obtain ⟨rfl, rfl, rfl, rfl⟩ := H
    try go_wp2
    replace HO_8 := Aside0.mk (Kd.R_drew HO_8.out)
    replace BK376 := Aside0.mk (blk_drew BK376.out)
    replace HI369 := Aside0.mk (IsS93.drew HI369.out)
    replace HB := Aside0.mk (below_drew1 HB.out)
    refine start_ (n := 15) (S := fun w' => C4 w' gb376 (.int .i64 t370) (.int .i64 t371) (.int .i64 t372) (.string t373)) (ds := []) (bs 15 0) (by kernel_rfl) rfl rfl ⟨(blk_cell BK376.out 0).trans rfl, (blk_cell BK376.out 1).trans rfl, (blk_cell BK376.out 2).trans rfl, (blk_cell BK376.out 3).trans rfl⟩ (fun hHeld => ?_); refine with_tabW spec_DrawReadAll.tab6 spec_DrawReadAll.bits6 (fun HT_ HW_ => ?_)
    generalize wc.drew = w35 at HO_8 BK376 HI369 HB hHeld ⊢
    refine pureS 0 42 (bs 15 1) HT_.out (h := ?_)
    refine pureS 1 43 (bs 15 3) HT_.out (h := ?_)
    refine pureS 3 45 (bs 15 11) HT_.out (h := ?_)
    refine pureS 5 47 (bs 15 43) HT_.out (h := ?_)
    refine pureS 7 49 (bs 15 171) HT_.out (h := ?_)
    refine takeS 2 44 (bs 15 175) HT_.out HW_.out hHeld (h := ?_)
    refine takeS 4 46 (bs 15 191) HT_.out HW_.out hHeld (h := ?_)
    refine takeS 6 48 (bs 15 255) HT_.out HW_.out hHeld (h := ?_)
    refine one_ (i := 8) (N := some 50) (bs 15 511) rfl rfl (one_of HT_.out (by kernel_rfl)) (by decide) (fun K hK => ?_)
    refine goes_ Try.func90 (by kernel_rfl) rfl #[.pointer (some ⟨gb369, 0, none⟩), .int .i64 3] (by rfl) rfl rfl (by (try simp only [List.map_toArray, List.map_cons, List.map_nil]); first | done | rfl | (simp only [List.length_drop, List.length_take]; rfl)) ?_
    with_reducible refine (spec_l1Cur_pick.calls gb369 l0 x370001_4 x370002_4 3 t397 t398 t399 w _ ?side1 ?side2 A34.out).mono ?_
    (case side1 => exact (isT93 HI369.out))
    (case side2 => exact (belT93 HB.out HI369.out))
    rintro e w36 ⟨rfl, hi, hb, hk⟩
    refine ⟨_, rfl, ?_⟩
    replace HO_8 := Aside0.mk (Kd.R_mono (Kd.R_keep (IsS93.apart (show IsS93 w _ gb369 l0 x370001_4 x370002_4 from (isT93 HI369.out)) (kdr HO_8.out) (by decide)) hk (fun _ h => h.2)) (fun _ h => h.1))
    replace BK376 := Aside0.mk (KeepBut.blk hk (g' := gb376) (o := .cells #[.int .i64 t370, .int .i64 t371, .int .i64 t372, .string t373] 102 (0, 0)) (blkd BK376.out) NB376_369.out (by simp))
    replace HB := Aside0.mk (hb)
    replace HI369 := Aside0.mk (hi)
    (try clear hb)
    (try clear hb2)
    (try clear hk)
    (try clear hi)
    refine hK.out _ _ ⟨(blk_cell BK376.out 0).trans rfl, (blk_cell BK376.out 1).trans rfl, (blk_cell BK376.out 2).trans rfl, (blk_cell BK376.out 3).trans rfl⟩ (fun hHeld => ?_)
    clear hK K
    refine norm_ (a' := ?_) ?_ ?_
    rotate_left
    ·show Act.put _ (some 50) _ = _
     simp only [Act.put, List.setIfInBounds_toArray, List.set_cons_zero, List.set_cons_succ, i64_w, i32_w]
     rfl
    refine pureS 9 51 (bs 15 1023) HT_.out (h := ?_)
    refine pureS 10 52 (bs 15 2047) HT_.out (h := ?_)
    refine pureS 11 2 (bs 15 4095) HT_.out (h := ?_)
    refine pureS 12 3 (bs 15 8191) HT_.out (h := ?_)
    refine pureS 13 4 (bs 15 16383) HT_.out (h := ?_)
    refine pureS 14 5 (bs 15 32767) HT_.out (h := ?_)
    refine done_ (done_of HT_.out (by kernel_rfl)) ?_
    try go_wp2
    refine bodyPost_ret (results_list (rs := [.tmp 2, .tmp 3, .tmp 4, .tmp 5]) rfl (by simp) (.tmp (.tmp (.tmp (.tmp .nil))))) rfl ?_
    exact ⟨_, by first | rfl | simp [*], by (with_reducible repeat (first | apply Kd.R_alloc | apply Kd.R_drewN | apply Kd.R_drew)); exact HO_8.out, (belT93 HB.out HI369.out)⟩

/-! ### spec_l6Value: function 212 -/
def spec_l6Value.l0 : Nat → ByteArray → Int → Int → Option (Int)
 | 0, _, _, _ => none
 | k + 1, x0, x3, x4 => if x4 < (x0.size : Int) then (if 0 ≤ x4 then (spec_l6Value.l0 k x0 (Go.bits .or .i64 (wrap64 (x3 * 256)) (wrap64 (bt x0 x4))) (wrap64 (x4 + 1))) else (none)) else (some x3)
def spec_l6Value.f (k : Nat) (a0 : ByteArray) : Option (Int) := spec_l6Value.l0 k a0 0 0
set_option maxRecDepth 100000 in
theorem spec_l6Value.mono_l : ∀ k, (∀ y0 y1 y2, LeO (spec_l6Value.l0 k y0 y1 y2) (spec_l6Value.l0 (k + 1) y0 y1 y2))
 | 0 => fun _ _ _ r h => by first | (unfold spec_l6Value.l0 at h; cases h; done) | simp [spec_l6Value.l0] at h
 | k + 1 => by
  have ih0 := spec_l6Value.mono_l k
  ·intro y0 y1 y2
   unfold spec_l6Value.l0
   with_reducible repeat' first | exact ih0 _ _ _ | exact LeO.refl _ | exact LeO.none _ | refine LeO.ite ?_ ?_ | refine LeO.bind ?_ (fun _ => ?_)
theorem spec_l6Value.mono : ∀ a0 k, LeO (spec_l6Value.f k a0) (spec_l6Value.f (k + 1) a0) := by
 intro a0 k
 have ih0 := spec_l6Value.mono_l k
 unfold spec_l6Value.f
 with_reducible repeat' first | exact ih0 _ _ _ | exact LeO.refl _ | exact LeO.none _ | refine LeO.ite ?_ ?_ | refine LeO.bind ?_ (fun _ => ?_)
set_option maxHeartbeats 8000000 in
set_option maxRecDepth 100000 in
theorem spec_l6Value.calls (k : Nat) (a0 : ByteArray) (r : Int) (w : World) (h : spec_l6Value.f k a0 = some r) :
  Calls Try.prog 212 #[.string a0] w fun e w' => e = .returned (.int .i64 r) ∧ Drawn0 w w' := by
 have H : (spec_l6Value.l0 k a0 0 0) = some r := h
 clear h
 have H' := Aside0.mk H
 clear H
 go_enter Try.func212, Try.ntmps212
 go_wp2
 go_loopg [3, 4] k (fun kq v3 v4 w' => ∃ (x3_1 : Int) (x4_1 : Int), v3 = .int .i64 x3_1 ∧ v4 = .int .i64 x4_1 ∧ Aside0 (spec_l6Value.l0 kq a0 x3_1 x4_1 = some r) ∧ Aside0 (kq ≤ k) ∧ Drawn0 w w')
 case atStart => exact ⟨(0), (0), (by first | rfl | simp [*]), (by first | rfl | simp [*]), H', ⟨Nat.le_refl _⟩, by repeat (first | exact Drawn0.refl _ | apply Drawn0.step)⟩
 case round =>
  clear H'
  obtain ⟨x3_1, x4_1, rfl, rfl, HA, HK1, ⟨m1, rfl⟩⟩ := hrel
  cases gk with
  | zero => exact absurd HA.out (by first | (unfold spec_l6Value.l0; exact fun h_ => nomatch h_) | simp [spec_l6Value.l0])
  | succ k1 =>
   have H := HA.out
   clear HA
   simp only [spec_l6Value.l0] at H
   by_cases c2 : x4_1 < (a0.size : Int)
   ·rw [if_pos c2] at H
    have c2b0 := decide_eq_true c2
    clear c2
    by_cases c3 : 0 ≤ x4_1
    ·rw [if_pos c3] at H
     have c3b0 := decide_eq_true c3
     clear c3
     have H' := Aside0.mk H
     clear H
     have p4 : 0 ≤ (x4_1 : Int) := of_decide_eq_true (by assumption)
     have q4 : x4_1 < (a0.size : Int) := of_decide_eq_true (by assumption)
     have hx4 := bt_at a0 x4_1
     replace p4 := eq_true p4
     replace q4 := eq_true q4
     go_wp2
     go_roundg k1
     case measure => have := HK1.out; omega
     case rel => exact ⟨(Go.bits .or .i64 (wrap64 (x3_1 * 256)) (wrap64 (bt a0 x4_1))), (wrap64 (x4_1 + 1)), (by first | rfl | simp [*]), (by first | rfl | simp [*]), H', ⟨by have := HK1.out; omega⟩, by repeat (first | exact Drawn0.refl _ | apply Drawn0.step)⟩
    ·rw [if_neg c3] at H
     exact absurd H (by simp)
   ·rw [if_neg c2] at H
    have c2b0 := decide_eq_false c2
    clear c2
    obtain rfl := Option.some.inj H
    go_wp2
    go_ret
    exact ⟨by first | rfl | simp [*], by repeat (first | exact Drawn0.refl _ | apply Drawn0.step)⟩

end Go.Proofs.Ytldlldfoaicjcaa.MFnBodies
-- SHRUNK
