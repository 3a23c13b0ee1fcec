/- The machine's side of FnBodies, written by this session's program out of the kit's print of the program, with contracts of this session's own. No conditions beyond those typed. -/
import Derived.Test.YtldlldfoaicjcaaMFnBodiesx0
import Derived.Test.YtldlldfoaicjcaaMFnBodiesx1
import Derived.Test.YtldlldfoaicjcaaMFnBodiesx5
namespace Go.Proofs.Ytldlldfoaicjcaa.MFnBodies
open Go.RowKit Go.Proofs.YtldlldfoaicjcaaW.PrintWords Go.Proofs.YtldlldfoaicjcaaW.PrintLast Go.Proofs.YtldlldfoaicjcaaW.PrintMore
attribute [local go_sem] max2_int min2_int max_two min_two max_three min_three max_four min_four   -- for this text's walks alone
set_option linter.unusedVariables false
set_option linter.unusedSimpArgs false

/-! ### spec_l1Cur_spoilt: function 181 -/
mutual
def spec_l1Cur_spoilt.l0 : Nat → ByteArray → ByteArray → Int → List Int → Int → Int → Option (ByteArray × Int × Int)
 | 0, _, _, _, _, _, _ => none
 | k + 1, x1, x2, x7, x1000, x1001, x1002 => if x7 > 0 then (spec_l1Cur_spoilt.j1 k x1 x2 x7 (decide ((x1.size : Int) > 0)) x1000 x1001 x1002) else (spec_l1Cur_spoilt.j1 k x1 x2 x7 false x1000 x1001 x1002)
def spec_l1Cur_spoilt.j1 : Nat → ByteArray → ByteArray → Int → Bool → List Int → Int → Int → Option (ByteArray × Int × Int)
 | 0, _, _, _, _, _, _, _ => none
 | k + 1, x1, x2, x7, x18, x1000, x1001, x1002 => if x18 = true then ((spec_l1Cur_pick.f x1000 x1001 x1002 (x1.size : Int)).bind fun bt343 => ((spec_l1Cur_pick.f x1000 bt343.2.1 bt343.2.2 (x2.size : Int)).bind fun bt346 => (if 0 ≤ bt346.1 then (if bt346.1 < (x2.size : Int) then ((some (([bt x2 bt346.1] : List Int) : List Int)).bind fun y349 => ((spec_l1Cur_pick.f x1000 bt346.2.1 bt346.2.2 3).bind fun bt352 => (if bt352.1 = 0 then (if 0 ≤ bt343.1 then (if bt343.1 ≤ (x1.size : Int) then (if (x1.extract 0 (bt343.1 : Int).toNat).size + (strOfNums y349).size ≤ 9223372036854775807 then (if ((x1.extract 0 (bt343.1 : Int).toNat) ++ (strOfNums y349)).size + (x1.extract (bt343.1 : Int).toNat x1.size).size ≤ 9223372036854775807 then (spec_l1Cur_spoilt.l0 k (((x1.extract 0 (bt343.1 : Int).toNat) ++ (strOfNums y349)) ++ (x1.extract (bt343.1 : Int).toNat x1.size)) x2 (wrap64 (x7 - 1)) x1000 bt352.2.1 bt352.2.2) else (none)) else (none)) else (none)) else (none)) else (if bt352.1 = 1 then (if 0 ≤ bt343.1 then (if bt343.1 ≤ (x1.size : Int) then (if (x1.extract 0 (bt343.1 : Int).toNat).size + (strOfNums y349).size ≤ 9223372036854775807 then (if 0 ≤ (wrap64 (bt343.1 + 1)) then (if (wrap64 (bt343.1 + 1)) ≤ (x1.size : Int) then (if ((x1.extract 0 (bt343.1 : Int).toNat) ++ (strOfNums y349)).size + (x1.extract ((wrap64 (bt343.1 + 1)) : Int).toNat x1.size).size ≤ 9223372036854775807 then (spec_l1Cur_spoilt.l0 k (((x1.extract 0 (bt343.1 : Int).toNat) ++ (strOfNums y349)) ++ (x1.extract ((wrap64 (bt343.1 + 1)) : Int).toNat x1.size)) x2 (wrap64 (x7 - 1)) x1000 bt352.2.1 bt352.2.2) else (none)) else (none)) else (none)) else (none)) else (none)) else (none)) else (if 0 ≤ bt343.1 then (if bt343.1 ≤ (x1.size : Int) then (if 0 ≤ (wrap64 (bt343.1 + 1)) then (if (wrap64 (bt343.1 + 1)) ≤ (x1.size : Int) then (if (x1.extract 0 (bt343.1 : Int).toNat).size + (x1.extract ((wrap64 (bt343.1 + 1)) : Int).toNat x1.size).size ≤ 9223372036854775807 then (spec_l1Cur_spoilt.l0 k ((x1.extract 0 (bt343.1 : Int).toNat) ++ (x1.extract ((wrap64 (bt343.1 + 1)) : Int).toNat x1.size)) x2 (wrap64 (x7 - 1)) x1000 bt352.2.1 bt352.2.2) else (none)) else (none)) else (none)) else (none)) else (none)))))) else (none)) else (none)))) else (some (x1, x1001, x1002))
end
def spec_l1Cur_spoilt.f (k : Nat) (s0_0 : List Int) (s0_1 : Int) (s0_2 : Int) (a1 : ByteArray) (a2 : ByteArray) : Option (ByteArray × Int × Int) := (spec_l1Cur_pick.f s0_0 s0_1 s0_2 3).bind fun bt340 => (spec_l1Cur_spoilt.l0 k a1 a2 bt340.1 s0_0 bt340.2.1 bt340.2.2)
set_option maxRecDepth 100000 in
theorem spec_l1Cur_spoilt.mono_l : ∀ k, (∀ y0 y1 y2 y3 y4 y5, LeO (spec_l1Cur_spoilt.l0 k y0 y1 y2 y3 y4 y5) (spec_l1Cur_spoilt.l0 (k + 1) y0 y1 y2 y3 y4 y5)) ∧ (∀ y0 y1 y2 y3 y4 y5 y6, LeO (spec_l1Cur_spoilt.j1 k y0 y1 y2 y3 y4 y5 y6) (spec_l1Cur_spoilt.j1 (k + 1) y0 y1 y2 y3 y4 y5 y6))
 | 0 => ⟨fun _ _ _ _ _ _ r h => by first | (unfold spec_l1Cur_spoilt.l0 at h; cases h; done) | simp [spec_l1Cur_spoilt.l0] at h, fun _ _ _ _ _ _ _ r h => by first | (unfold spec_l1Cur_spoilt.j1 at h; cases h; done) | simp [spec_l1Cur_spoilt.j1] at h⟩
 | k + 1 => by
  obtain ⟨ih0, ih1⟩ := spec_l1Cur_spoilt.mono_l k
  refine ⟨?_, ?_⟩
  ·intro y0 y1 y2 y3 y4 y5
   unfold spec_l1Cur_spoilt.l0
   with_reducible repeat' first | exact ih0 _ _ _ _ _ _ | exact ih1 _ _ _ _ _ _ _ | exact LeO.refl _ | exact LeO.none _ | refine LeO.ite ?_ ?_ | refine LeO.bind ?_ (fun _ => ?_)
  ·intro y0 y1 y2 y3 y4 y5 y6
   unfold spec_l1Cur_spoilt.j1
   with_reducible repeat' first | exact ih0 _ _ _ _ _ _ | exact ih1 _ _ _ _ _ _ _ | exact LeO.refl _ | exact LeO.none _ | refine LeO.ite ?_ ?_ | refine LeO.bind ?_ (fun _ => ?_)
theorem spec_l1Cur_spoilt.mono : ∀ a0 a1 a2 a3 a4 k, LeO (spec_l1Cur_spoilt.f k a0 a1 a2 a3 a4) (spec_l1Cur_spoilt.f (k + 1) a0 a1 a2 a3 a4) := by
 intro a0 a1 a2 a3 a4 k
 obtain ⟨ih0, ih1⟩ := spec_l1Cur_spoilt.mono_l k
 unfold spec_l1Cur_spoilt.f
 with_reducible repeat' first | exact ih0 _ _ _ _ _ _ | exact ih1 _ _ _ _ _ _ _ | exact LeO.refl _ | exact LeO.none _ | refine LeO.ite ?_ ?_ | refine LeO.bind ?_ (fun _ => ?_)
set_option maxHeartbeats 8000000 in
set_option maxRecDepth 100000 in
theorem spec_l1Cur_spoilt.calls (k : Nat) (g : Nat) (s0_0 : List Int) (s0_1 : Int) (s0_2 : Int) (a1 : ByteArray) (a2 : ByteArray) (r1 : ByteArray) (r2 : Int) (r3 : Int) (w0 w : World) (hI : IsS93 w0 w g s0_0 s0_1 s0_2) (hB : Below w0.heap.size w0 w) (h : spec_l1Cur_spoilt.f k s0_0 s0_1 s0_2 a1 a2 = some (r1, r2, r3)) :
  Calls Try.prog 181 #[.pointer (some ⟨g, 0, none⟩), .string a1, .string a2] w fun e w' => e = .returned (.string r1) ∧ IsS93 w0 w' g s0_0 r2 r3 ∧ Below w0.heap.size w0 w' ∧ KeepBut w w' g none := by
 have HI0 := Aside0.mk hI
 have HK := Aside0.mk (KeepBut.refl w g none)
 have HL := Aside0.mk hB.size
 clear hI
 have HW0 := Aside0.mk hB.size
 have HB := Aside0.mk hB
 clear hB
 have H : ((spec_l1Cur_pick.f s0_0 s0_1 s0_2 3).bind fun bt340 => (spec_l1Cur_spoilt.l0 k a1 a2 bt340.1 s0_0 bt340.2.1 bt340.2.2)) = some (r1, r2, r3) := h
 clear h
 replace H := Option.bind_eq_some_iff.mp H
 obtain ⟨⟨t340, t341, t342⟩, A40, H⟩ := H
 have A4 := Aside0.mk A40
 clear A40
 have H' := Aside0.mk H
 clear H
 go_enter Try.func181, Try.ntmps181
 go_wp2_with (first | (go_at_call 90; (with_reducible refine (spec_l1Cur_pick.calls g s0_0 s0_1 s0_2 3 t340 t341 t342 w0 _ ?side1 ?side2 A4.out).mono ?_); (case side1 => exact (isS93 HI0.out)); (case side2 => exact (belS93 HB.out HI0.out)); rintro e w5 ⟨rfl, hi, hb, hk⟩; replace HK := Aside0.mk (KeepBut.trans (kez HK.out) hk (.inl rfl)); replace HB := Aside0.mk (hb); replace HI0 := Aside0.mk (hi); (try clear hb); (try clear hb2); (try clear hk); (try clear hi)))
 repeat (go_quiet (first | (go_at_call 90; (with_reducible refine (spec_l1Cur_pick.calls g s0_0 s0_1 s0_2 3 t340 t341 t342 w0 _ ?side1 ?side2 A4.out).mono ?_); (case side1 => exact (isS93 HI0.out)); (case side2 => exact (belS93 HB.out HI0.out)); rintro e w5 ⟨rfl, hi, hb, hk⟩; replace HK := Aside0.mk (KeepBut.trans (kez HK.out) hk (.inl rfl)); replace HB := Aside0.mk (hb); replace HI0 := Aside0.mk (hi); (try clear hb); (try clear hb2); (try clear hk); (try clear hi))); try go_wp2_with (first | (go_at_call 90; (with_reducible refine (spec_l1Cur_pick.calls g s0_0 s0_1 s0_2 3 t340 t341 t342 w0 _ ?side1 ?side2 A4.out).mono ?_); (case side1 => exact (isS93 HI0.out)); (case side2 => exact (belS93 HB.out HI0.out)); rintro e w5 ⟨rfl, hi, hb, hk⟩; replace HK := Aside0.mk (KeepBut.trans (kez HK.out) hk (.inl rfl)); replace HB := Aside0.mk (hb); replace HI0 := Aside0.mk (hi); (try clear hb); (try clear hb2); (try clear hk); (try clear hi))))
 go_loopg [1, 7] k (fun kq v1 v7 w' => ∃ (x1_1 : ByteArray) (x7_1 : Int) (x1001_1 : Int) (x1002_1 : Int), v1 = .string x1_1 ∧ v7 = .int .i64 x7_1 ∧ Aside0 (spec_l1Cur_spoilt.l0 kq x1_1 a2 x7_1 s0_0 x1001_1 x1002_1 = some (r1, r2, r3)) ∧ Aside0 (kq ≤ k) ∧ Aside0 (IsS93 w0 w' g s0_0 x1001_1 x1002_1) ∧ Aside0 (KeepBut w w' g none) ∧ Aside0 (Below w0.heap.size w0 w'))
 case atStart => exact ⟨(a1), (t340), (t341), (t342), (by first | rfl | simp [*]), (by first | rfl | simp [*]), H', ⟨Nat.le_refl _⟩, ⟨(isS93 HI0.out)⟩, ⟨(kez HK.out)⟩, ⟨(belS93 HB.out HI0.out)⟩⟩
 case round =>
  clear H'
  try clear c1; try clear p2
  obtain ⟨x1_1, x7_1, x1001_1, x1002_1, rfl, rfl, HA, HK1, HI0, HK, HB⟩ := hrel
  cases gk with
  | zero => exact absurd HA.out (by first | (unfold spec_l1Cur_spoilt.l0; exact fun h_ => nomatch h_) | simp [spec_l1Cur_spoilt.l0])
  | succ k1 =>
   have H := HA.out
   clear HA
   simp only [spec_l1Cur_spoilt.l0] at H
   have HC6 := Aside0.mk H
   clear H
   go_upto_region 2 with (fail)
   repeat (go_quiet (fail); go_upto_region 2 with (fail))
   go_cut [18] (fun v18 wc => ∃ (kq : Nat) (x18_5 : Bool), v18 = .bool x18_5 ∧ Aside0 (spec_l1Cur_spoilt.j1 kq x1_1 a2 x7_1 x18_5 s0_0 x1001_1 x1002_1 = some (r1, r2, r3)) ∧ Aside0 (kq ≤ k1) ∧ Aside0 (IsS93 w0 wc g s0_0 x1001_1 x1002_1) ∧ Aside0 (KeepBut w wc g none) ∧ Aside0 (Below w0.heap.size w0 wc))
   case first =>
    have H := HC6.out
    clear HC6
    by_cases c7 : x7_1 > 0
    ·rw [if_pos c7] at H
     have c7b0 := decide_eq_true c7
     clear c7
     (first | rw [c7b0] | (simp only [i64_w, i32_w]; rw [c7b0]) | skip)
     have H' := Aside0.mk H
     clear H
     go_wp2
     repeat (go_quiet (fail); try go_wp2)
     go_meet
     case rel => exact ⟨_, (decide ((x1_1.size : Int) > 0)), (by first | rfl | simp [*]), H', ⟨by have := HK1.out; first | omega | exact Nat.le_refl _⟩, ⟨(isS93 HI0.out)⟩, ⟨(kez HK.out)⟩, ⟨(belS93 HB.out HI0.out)⟩⟩
    ·rw [if_neg c7] at H
     have c7b0 := decide_eq_false c7
     clear c7
     (first | rw [c7b0] | (simp only [i64_w, i32_w]; rw [c7b0]) | skip)
     have H' := Aside0.mk H
     clear H
     go_wp2
     repeat (go_quiet (fail); try go_wp2)
     go_meet
     case rel => exact ⟨_, (false), (by first | rfl | simp [*]), H', ⟨by have := HK1.out; first | omega | exact Nat.le_refl _⟩, ⟨(isS93 HI0.out)⟩, ⟨(kez HK.out)⟩, ⟨(belS93 HB.out HI0.out)⟩⟩
   case rest =>
    clear HC6
    try clear c1; try clear p2; try clear c7; try clear c7b0; try clear p2
    obtain ⟨kq, x18_5, rfl, HA, HJ5, HI0, HK, HB⟩ := hcut
    cases kq with
    | zero => exact absurd HA.out (by first | (unfold spec_l1Cur_spoilt.j1; exact fun h_ => nomatch h_) | simp [spec_l1Cur_spoilt.j1])
    | succ kj5 =>
     have H := HA.out
     clear HA
     simp only [spec_l1Cur_spoilt.j1] at H
     by_cases c8 : x18_5 = true
     ·subst c8
      have H1 : ((spec_l1Cur_pick.f s0_0 x1001_1 x1002_1 (x1_1.size : Int)).bind fun bt343 => ((spec_l1Cur_pick.f s0_0 bt343.2.1 bt343.2.2 (a2.size : Int)).bind fun bt346 => (if 0 ≤ bt346.1 then (if bt346.1 < (a2.size : Int) then ((some (([bt a2 bt346.1] : List Int) : List Int)).bind fun y349 => ((spec_l1Cur_pick.f s0_0 bt346.2.1 bt346.2.2 3).bind fun bt352 => (if bt352.1 = 0 then (if 0 ≤ bt343.1 then (if bt343.1 ≤ (x1_1.size : Int) then (if (x1_1.extract 0 (bt343.1 : Int).toNat).size + (strOfNums y349).size ≤ 9223372036854775807 then (if ((x1_1.extract 0 (bt343.1 : Int).toNat) ++ (strOfNums y349)).size + (x1_1.extract (bt343.1 : Int).toNat x1_1.size).size ≤ 9223372036854775807 then (spec_l1Cur_spoilt.l0 kj5 (((x1_1.extract 0 (bt343.1 : Int).toNat) ++ (strOfNums y349)) ++ (x1_1.extract (bt343.1 : Int).toNat x1_1.size)) a2 (wrap64 (x7_1 - 1)) s0_0 bt352.2.1 bt352.2.2) else (none)) else (none)) else (none)) else (none)) else (if bt352.1 = 1 then (if 0 ≤ bt343.1 then (if bt343.1 ≤ (x1_1.size : Int) then (if (x1_1.extract 0 (bt343.1 : Int).toNat).size + (strOfNums y349).size ≤ 9223372036854775807 then (if 0 ≤ (wrap64 (bt343.1 + 1)) then (if (wrap64 (bt343.1 + 1)) ≤ (x1_1.size : Int) then (if ((x1_1.extract 0 (bt343.1 : Int).toNat) ++ (strOfNums y349)).size + (x1_1.extract ((wrap64 (bt343.1 + 1)) : Int).toNat x1_1.size).size ≤ 9223372036854775807 then (spec_l1Cur_spoilt.l0 kj5 (((x1_1.extract 0 (bt343.1 : Int).toNat) ++ (strOfNums y349)) ++ (x1_1.extract ((wrap64 (bt343.1 + 1)) : Int).toNat x1_1.size)) a2 (wrap64 (x7_1 - 1)) s0_0 bt352.2.1 bt352.2.2) else (none)) else (none)) else (none)) else (none)) else (none)) else (none)) else (if 0 ≤ bt343.1 then (if bt343.1 ≤ (x1_1.size : Int) then (if 0 ≤ (wrap64 (bt343.1 + 1)) then (if (wrap64 (bt343.1 + 1)) ≤ (x1_1.size : Int) then (if (x1_1.extract 0 (bt343.1 : Int).toNat).size + (x1_1.extract ((wrap64 (bt343.1 + 1)) : Int).toNat x1_1.size).size ≤ 9223372036854775807 then (spec_l1Cur_spoilt.l0 kj5 ((x1_1.extract 0 (bt343.1 : Int).toNat) ++ (x1_1.extract ((wrap64 (bt343.1 + 1)) : Int).toNat x1_1.size)) a2 (wrap64 (x7_1 - 1)) s0_0 bt352.2.1 bt352.2.2) else (none)) else (none)) else (none)) else (none)) else (none)))))) else (none)) else (none)))) = some (r1, r2, r3) := by rw [if_pos rfl] at H; exact H
      clear H
      have H := H1
      clear H1
      replace H := Option.bind_eq_some_iff.mp H
      obtain ⟨⟨t343, t344, t345⟩, A90, H⟩ := H
      have A9 := Aside0.mk A90
      clear A90
      replace H := Option.bind_eq_some_iff.mp H
      obtain ⟨⟨t346, t347, t348⟩, A100, H⟩ := H
      have A10 := Aside0.mk A100
      clear A100
      by_cases c11 : 0 ≤ t346
      ·rw [if_pos c11] at H
       have c11b0 := decide_eq_true c11
       clear c11
       by_cases c12 : t346 < (a2.size : Int)
       ·rw [if_pos c12] at H
        have c12b0 := decide_eq_true c12
        clear c12
        obtain ⟨y349, hy349⟩ : ∃ y_ : List Int, y_ = (([bt a2 t346] : List Int)) := ⟨_, rfl⟩
        replace H : ((spec_l1Cur_pick.f s0_0 t347 t348 3).bind fun bt352 => (if bt352.1 = 0 then (if 0 ≤ t343 then (if t343 ≤ (x1_1.size : Int) then (if (x1_1.extract 0 (t343 : Int).toNat).size + (strOfNums y349).size ≤ 9223372036854775807 then (if ((x1_1.extract 0 (t343 : Int).toNat) ++ (strOfNums y349)).size + (x1_1.extract (t343 : Int).toNat x1_1.size).size ≤ 9223372036854775807 then (spec_l1Cur_spoilt.l0 kj5 (((x1_1.extract 0 (t343 : Int).toNat) ++ (strOfNums y349)) ++ (x1_1.extract (t343 : Int).toNat x1_1.size)) a2 (wrap64 (x7_1 - 1)) s0_0 bt352.2.1 bt352.2.2) else (none)) else (none)) else (none)) else (none)) else (if bt352.1 = 1 then (if 0 ≤ t343 then (if t343 ≤ (x1_1.size : Int) then (if (x1_1.extract 0 (t343 : Int).toNat).size + (strOfNums y349).size ≤ 9223372036854775807 then (if 0 ≤ (wrap64 (t343 + 1)) then (if (wrap64 (t343 + 1)) ≤ (x1_1.size : Int) then (if ((x1_1.extract 0 (t343 : Int).toNat) ++ (strOfNums y349)).size + (x1_1.extract ((wrap64 (t343 + 1)) : Int).toNat x1_1.size).size ≤ 9223372036854775807 then (spec_l1Cur_spoilt.l0 kj5 (((x1_1.extract 0 (t343 : Int).toNat) ++ (strOfNums y349)) ++ (x1_1.extract ((wrap64 (t343 + 1)) : Int).toNat x1_1.size)) a2 (wrap64 (x7_1 - 1)) s0_0 bt352.2.1 bt352.2.2) else (none)) else (none)) else (none)) else (none)) else (none)) else (none)) else (if 0 ≤ t343 then (if t343 ≤ (x1_1.size : Int) then (if 0 ≤ (wrap64 (t343 + 1)) then (if (wrap64 (t343 + 1)) ≤ (x1_1.size : Int) then (if (x1_1.extract 0 (t343 : Int).toNat).size + (x1_1.extract ((wrap64 (t343 + 1)) : Int).toNat x1_1.size).size ≤ 9223372036854775807 then (spec_l1Cur_spoilt.l0 kj5 ((x1_1.extract 0 (t343 : Int).toNat) ++ (x1_1.extract ((wrap64 (t343 + 1)) : Int).toNat x1_1.size)) a2 (wrap64 (x7_1 - 1)) s0_0 bt352.2.1 bt352.2.2) else (none)) else (none)) else (none)) else (none)) else (none))))) = some (r1, r2, r3) := by first | (rw [hy349]; with_reducible exact H) | (have H2_ := (Option.bind_some _ _).symm.trans H; rw [hy349]; with_reducible exact H2_) | (have H2_ := (Option.bind_some _ _).symm.trans H; with_reducible exact H2_) | with_reducible exact H | (rw [hy349]; exact H) | exact H
        have Ny349 := Aside0.mk hy349
        clear hy349
        replace H := Option.bind_eq_some_iff.mp H
        obtain ⟨⟨t352, t353, t354⟩, A140, H⟩ := H
        have A14 := Aside0.mk A140
        clear A140
        by_cases c15 : t352 = 0
        ·rw [if_pos c15] at H
         have c15b0 : (t352 == 0) = true := beq_iff_eq.mpr c15
         have c15b1 : (t352 != 0) = false := bne_eq_false_iff_eq.mpr c15
         clear c15
         by_cases c16 : 0 ≤ t343
         ·rw [if_pos c16] at H
          have c16b0 := eq_true c16
          have c16b1 := decide_eq_true c16
          clear c16
          by_cases c17 : t343 ≤ (x1_1.size : Int)
          ·rw [if_pos c17] at H
           have c17b0 := eq_true c17
           have c17b1 := decide_eq_true c17
           clear c17
           by_cases c18 : (x1_1.extract 0 (t343 : Int).toNat).size + (strOfNums y349).size ≤ 9223372036854775807
           ·rw [if_pos c18] at H
            have c18b0 := eq_true c18
            have c18b1 := decide_eq_true c18
            try have c18b2 : (9223372036854775807 < (x1_1.extract 0 (t343 : Int).toNat).size + (strOfNums y349).size) = False := eq_false (Nat.not_lt.2 c18)
            have c19b0 := eq_true (of_decide_eq_true (by assumption) : 0 ≤ t343)
            have c20b0 := eq_true (of_decide_eq_true (by assumption) : t343 ≤ (x1_1.size : Int))
            by_cases c21 : ((x1_1.extract 0 (t343 : Int).toNat) ++ (strOfNums y349)).size + (x1_1.extract (t343 : Int).toNat x1_1.size).size ≤ 9223372036854775807
            ·rw [if_pos c21] at H
             have c21b0 := eq_true c21
             have c21b1 := decide_eq_true c21
             try have c21bz : (9223372036854775807 < (x1_1.extract 0 (t343 : Int).toNat).size + (strOfNums y349).size + (x1_1.extract (t343 : Int).toNat x1_1.size).size) = False := eq_false (by have hz_ := c21; simp only [ByteArray.size_append] at hz_; omega)
             try have c21b2 : (9223372036854775807 < ((x1_1.extract 0 (t343 : Int).toNat) ++ (strOfNums y349)).size + (x1_1.extract (t343 : Int).toNat x1_1.size).size) = False := eq_false (Nat.not_lt.2 c21)
             have H' := Aside0.mk H
             clear H
             go_wp2_with (first | (go_at_call 90; (with_reducible refine (spec_l1Cur_pick.calls g s0_0 x1001_1 x1002_1 (x1_1.size : Int) t343 t344 t345 w0 _ ?side1 ?side2 A9.out).mono ?_); (case side1 => exact (isS93 HI0.out)); (case side2 => exact (belS93 HB.out HI0.out)); rintro e w22 ⟨rfl, hi, hb, hk⟩; replace HK := Aside0.mk (KeepBut.trans (kez HK.out) hk (.inl rfl)); replace HB := Aside0.mk (hb); replace HI0 := Aside0.mk (hi); (try clear hb); (try clear hb2); (try clear hk); (try clear hi)) | (go_at_call 90; (with_reducible refine (spec_l1Cur_pick.calls g s0_0 t344 t345 (a2.size : Int) t346 t347 t348 w0 _ ?side1 ?side2 A10.out).mono ?_); (case side1 => exact (isS93 HI0.out)); (case side2 => exact (belS93 HB.out HI0.out)); rintro e w23 ⟨rfl, hi, hb, hk⟩; replace HK := Aside0.mk (KeepBut.trans (kez HK.out) hk (.inl rfl)); replace HB := Aside0.mk (hb); replace HI0 := Aside0.mk (hi); (try clear hb); (try clear hb2); (try clear hk); (try clear hi); have p13 : 0 ≤ (t346 : Int) := of_decide_eq_true (by assumption); have q13 : t346 < (a2.size : Int) := of_decide_eq_true (by assumption); have hx13 := bt_at a2 t346; replace p13 := eq_true p13; replace q13 := eq_true q13) | ((with_reducible refine gate_dst (N := 31) rfl ?_); (try (refine gate_guard (by rfl) ?_; dsimp only)); refine Kd.R_lit (Kd.int .u8) _ 5 ?hg (N := 31) ?hd (xs := ([bt a2 t346] : List Int)) (inner := [.int .u8 (bt a2 t346)]) (ok := fun _ => True) (okp := fun _ => True) ?hr ?hp (fun _ hk => hk) trivial (Below.refl _ _) (Nat.le_refl _) (by simp) ?_; (case hd => rfl); (case hg => rfl); (case hr => first | (go_simp; done) | (go_simp; rfl)); (case hp => exact (Reps.one (show Kd.M (Kd.int .u8) _ _ _ (bt a2 t346) [.int .u8 (bt a2 t346)] from rfl) (Reps.none _ _))); intro v350 w24 ho25 hb hg_ hnew_; clear hg_ hnew_; (first | rw [← Ny349.out] at ho25 | (simp only [Int.reduceToNat] at ho25; rw [← Ny349.out] at ho25)); have HO351 := Aside0.mk (Kd.R_lower ho25 (keep_size (w := w) (g := g) (row := none) (kez HK.out))); replace HK := Aside0.mk (KeepBut.trans (kez HK.out) (KeepBut.of_below hb g none) (.inl rfl)); replace HB := Aside0.mk (below_step (belS93 HB.out HI0.out) hb); replace HI0 := Aside0.mk (IsS93.below (isS93 HI0.out) hb); clear hb ho25; have hcv26 := own_string (P := Try.prog) Try.underlying33 Try.underlying5 Try.underlying9 (Kd.own_of_R HO351.out)) | (go_at_call 90; (with_reducible refine (spec_l1Cur_pick.calls g s0_0 t347 t348 3 t352 t353 t354 w0 _ ?side1 ?side2 A14.out).mono ?_); (case side1 => exact (isS93 HI0.out)); (case side2 => exact (belS93 HB.out HI0.out)); rintro e w27 ⟨rfl, hi, hb, hk⟩; replace HO351 := Aside0.mk (Kd.R_mono (Kd.R_keep (IsS93.apart (show IsS93 w0 _ g s0_0 t347 t348 from (isS93 HI0.out)) (kdr HO351.out) (by decide)) hk (fun _ h => h.2)) (fun _ h => h.1)); replace HK := Aside0.mk (KeepBut.trans (kez HK.out) hk (.inl rfl)); replace HB := Aside0.mk (hb); replace HI0 := Aside0.mk (hi); (try clear hb); (try clear hb2); (try clear hk); (try clear hi)))
             repeat (go_quiet (first | (go_at_call 90; (with_reducible refine (spec_l1Cur_pick.calls g s0_0 x1001_1 x1002_1 (x1_1.size : Int) t343 t344 t345 w0 _ ?side1 ?side2 A9.out).mono ?_); (case side1 => exact (isS93 HI0.out)); (case side2 => exact (belS93 HB.out HI0.out)); rintro e w22 ⟨rfl, hi, hb, hk⟩; replace HK := Aside0.mk (KeepBut.trans (kez HK.out) hk (.inl rfl)); replace HB := Aside0.mk (hb); replace HI0 := Aside0.mk (hi); (try clear hb); (try clear hb2); (try clear hk); (try clear hi)) | (go_at_call 90; (with_reducible refine (spec_l1Cur_pick.calls g s0_0 t344 t345 (a2.size : Int) t346 t347 t348 w0 _ ?side1 ?side2 A10.out).mono ?_); (case side1 => exact (isS93 HI0.out)); (case side2 => exact (belS93 HB.out HI0.out)); rintro e w23 ⟨rfl, hi, hb, hk⟩; replace HK := Aside0.mk (KeepBut.trans (kez HK.out) hk (.inl rfl)); replace HB := Aside0.mk (hb); replace HI0 := Aside0.mk (hi); (try clear hb); (try clear hb2); (try clear hk); (try clear hi); have p13 : 0 ≤ (t346 : Int) := of_decide_eq_true (by assumption); have q13 : t346 < (a2.size : Int) := of_decide_eq_true (by assumption); have hx13 := bt_at a2 t346; replace p13 := eq_true p13; replace q13 := eq_true q13) | ((with_reducible refine gate_dst (N := 31) rfl ?_); (try (refine gate_guard (by rfl) ?_; dsimp only)); refine Kd.R_lit (Kd.int .u8) _ 5 ?hg (N := 31) ?hd (xs := ([bt a2 t346] : List Int)) (inner := [.int .u8 (bt a2 t346)]) (ok := fun _ => True) (okp := fun _ => True) ?hr ?hp (fun _ hk => hk) trivial (Below.refl _ _) (Nat.le_refl _) (by simp) ?_; (case hd => rfl); (case hg => rfl); (case hr => first | (go_simp; done) | (go_simp; rfl)); (case hp => exact (Reps.one (show Kd.M (Kd.int .u8) _ _ _ (bt a2 t346) [.int .u8 (bt a2 t346)] from rfl) (Reps.none _ _))); intro v350 w24 ho25 hb hg_ hnew_; clear hg_ hnew_; (first | rw [← Ny349.out] at ho25 | (simp only [Int.reduceToNat] at ho25; rw [← Ny349.out] at ho25)); have HO351 := Aside0.mk (Kd.R_lower ho25 (keep_size (w := w) (g := g) (row := none) (kez HK.out))); replace HK := Aside0.mk (KeepBut.trans (kez HK.out) (KeepBut.of_below hb g none) (.inl rfl)); replace HB := Aside0.mk (below_step (belS93 HB.out HI0.out) hb); replace HI0 := Aside0.mk (IsS93.below (isS93 HI0.out) hb); clear hb ho25; have hcv26 := own_string (P := Try.prog) Try.underlying33 Try.underlying5 Try.underlying9 (Kd.own_of_R HO351.out)) | (go_at_call 90; (with_reducible refine (spec_l1Cur_pick.calls g s0_0 t347 t348 3 t352 t353 t354 w0 _ ?side1 ?side2 A14.out).mono ?_); (case side1 => exact (isS93 HI0.out)); (case side2 => exact (belS93 HB.out HI0.out)); rintro e w27 ⟨rfl, hi, hb, hk⟩; replace HO351 := Aside0.mk (Kd.R_mono (Kd.R_keep (IsS93.apart (show IsS93 w0 _ g s0_0 t347 t348 from (isS93 HI0.out)) (kdr HO351.out) (by decide)) hk (fun _ h => h.2)) (fun _ h => h.1)); replace HK := Aside0.mk (KeepBut.trans (kez HK.out) hk (.inl rfl)); replace HB := Aside0.mk (hb); replace HI0 := Aside0.mk (hi); (try clear hb); (try clear hb2); (try clear hk); (try clear hi))); try go_wp2_with (first | (go_at_call 90; (with_reducible refine (spec_l1Cur_pick.calls g s0_0 x1001_1 x1002_1 (x1_1.size : Int) t343 t344 t345 w0 _ ?side1 ?side2 A9.out).mono ?_); (case side1 => exact (isS93 HI0.out)); (case side2 => exact (belS93 HB.out HI0.out)); rintro e w22 ⟨rfl, hi, hb, hk⟩; replace HK := Aside0.mk (KeepBut.trans (kez HK.out) hk (.inl rfl)); replace HB := Aside0.mk (hb); replace HI0 := Aside0.mk (hi); (try clear hb); (try clear hb2); (try clear hk); (try clear hi)) | (go_at_call 90; (with_reducible refine (spec_l1Cur_pick.calls g s0_0 t344 t345 (a2.size : Int) t346 t347 t348 w0 _ ?side1 ?side2 A10.out).mono ?_); (case side1 => exact (isS93 HI0.out)); (case side2 => exact (belS93 HB.out HI0.out)); rintro e w23 ⟨rfl, hi, hb, hk⟩; replace HK := Aside0.mk (KeepBut.trans (kez HK.out) hk (.inl rfl)); replace HB := Aside0.mk (hb); replace HI0 := Aside0.mk (hi); (try clear hb); (try clear hb2); (try clear hk); (try clear hi); have p13 : 0 ≤ (t346 : Int) := of_decide_eq_true (by assumption); have q13 : t346 < (a2.size : Int) := of_decide_eq_true (by assumption); have hx13 := bt_at a2 t346; replace p13 := eq_true p13; replace q13 := eq_true q13) | ((with_reducible refine gate_dst (N := 31) rfl ?_); (try (refine gate_guard (by rfl) ?_; dsimp only)); refine Kd.R_lit (Kd.int .u8) _ 5 ?hg (N := 31) ?hd (xs := ([bt a2 t346] : List Int)) (inner := [.int .u8 (bt a2 t346)]) (ok := fun _ => True) (okp := fun _ => True) ?hr ?hp (fun _ hk => hk) trivial (Below.refl _ _) (Nat.le_refl _) (by simp) ?_; (case hd => rfl); (case hg => rfl); (case hr => first | (go_simp; done) | (go_simp; rfl)); (case hp => exact (Reps.one (show Kd.M (Kd.int .u8) _ _ _ (bt a2 t346) [.int .u8 (bt a2 t346)] from rfl) (Reps.none _ _))); intro v350 w24 ho25 hb hg_ hnew_; clear hg_ hnew_; (first | rw [← Ny349.out] at ho25 | (simp only [Int.reduceToNat] at ho25; rw [← Ny349.out] at ho25)); have HO351 := Aside0.mk (Kd.R_lower ho25 (keep_size (w := w) (g := g) (row := none) (kez HK.out))); replace HK := Aside0.mk (KeepBut.trans (kez HK.out) (KeepBut.of_below hb g none) (.inl rfl)); replace HB := Aside0.mk (below_step (belS93 HB.out HI0.out) hb); replace HI0 := Aside0.mk (IsS93.below (isS93 HI0.out) hb); clear hb ho25; have hcv26 := own_string (P := Try.prog) Try.underlying33 Try.underlying5 Try.underlying9 (Kd.own_of_R HO351.out)) | (go_at_call 90; (with_reducible refine (spec_l1Cur_pick.calls g s0_0 t347 t348 3 t352 t353 t354 w0 _ ?side1 ?side2 A14.out).mono ?_); (case side1 => exact (isS93 HI0.out)); (case side2 => exact (belS93 HB.out HI0.out)); rintro e w27 ⟨rfl, hi, hb, hk⟩; replace HO351 := Aside0.mk (Kd.R_mono (Kd.R_keep (IsS93.apart (show IsS93 w0 _ g s0_0 t347 t348 from (isS93 HI0.out)) (kdr HO351.out) (by decide)) hk (fun _ h => h.2)) (fun _ h => h.1)); replace HK := Aside0.mk (KeepBut.trans (kez HK.out) hk (.inl rfl)); replace HB := Aside0.mk (hb); replace HI0 := Aside0.mk (hi); (try clear hb); (try clear hb2); (try clear hk); (try clear hi))))
             go_roundg kj5
             case measure => have := HK1.out; have := HJ5.out; omega
             case rel => exact ⟨(((x1_1.extract 0 (t343 : Int).toNat) ++ (strOfNums y349)) ++ (x1_1.extract (t343 : Int).toNat x1_1.size)), (wrap64 (x7_1 - 1)), (t353), (t354), (by first | rfl | simp [*]), (by first | rfl | simp [*]), H', ⟨by have := HK1.out; have := HJ5.out; omega⟩, ⟨(isS93 HI0.out)⟩, ⟨(kez HK.out)⟩, ⟨(belS93 HB.out HI0.out)⟩⟩
            ·rw [if_neg c21] at H
             exact absurd H (by simp)
           ·rw [if_neg c18] at H
            exact absurd H (by simp)
          ·rw [if_neg c17] at H
           exact absurd H (by simp)
         ·rw [if_neg c16] at H
          exact absurd H (by simp)
        ·rw [if_neg c15] at H
         have c15b0 : (t352 == 0) = false := beq_eq_false_iff_ne.mpr c15
         have c15b1 : (t352 != 0) = true := bne_iff_ne.mpr c15
         by_cases c28 : t352 = 1
         ·rw [if_pos c28] at H
          have c28b0 : (t352 == 1) = true := beq_iff_eq.mpr c28
          have c28b1 : (t352 != 1) = false := bne_eq_false_iff_eq.mpr c28
          clear c28
          by_cases c29 : 0 ≤ t343
          ·rw [if_pos c29] at H
           have c29b0 := eq_true c29
           have c29b1 := decide_eq_true c29
           clear c29
           by_cases c30 : t343 ≤ (x1_1.size : Int)
           ·rw [if_pos c30] at H
            have c30b0 := eq_true c30
            have c30b1 := decide_eq_true c30
            clear c30
            by_cases c31 : (x1_1.extract 0 (t343 : Int).toNat).size + (strOfNums y349).size ≤ 9223372036854775807
            ·rw [if_pos c31] at H
             have c31b0 := eq_true c31
             have c31b1 := decide_eq_true c31
             try have c31b2 : (9223372036854775807 < (x1_1.extract 0 (t343 : Int).toNat).size + (strOfNums y349).size) = False := eq_false (Nat.not_lt.2 c31)
             obtain ⟨ji32, hji32⟩ : ∃ j_ : Int, (wrap64 (t343 + 1)) = j_ := ⟨_, rfl⟩
             replace H : (if 0 ≤ (ji32) then (if (ji32) ≤ (x1_1.size : Int) then (if ((x1_1.extract 0 (t343 : Int).toNat) ++ (strOfNums y349)).size + (x1_1.extract ((ji32) : Int).toNat x1_1.size).size ≤ 9223372036854775807 then (spec_l1Cur_spoilt.l0 kj5 (((x1_1.extract 0 (t343 : Int).toNat) ++ (strOfNums y349)) ++ (x1_1.extract ((ji32) : Int).toNat x1_1.size)) a2 (wrap64 (x7_1 - 1)) s0_0 t353 t354) else (none)) else (none)) else (none)) = some (r1, r2, r3) := by first | (rw [hji32] at H; exact H) | (simp only [hji32] at H ⊢; exact H)
             (try rw [hji32] at A9)
             (try rw [hji32] at A10)
             (try rw [hji32] at A14)
             have hji32w : (IntKind.i64.wrap (t343 + 1)) = ji32 := (i64_w _).trans hji32
             by_cases c33 : 0 ≤ (ji32)
             ·rw [if_pos c33] at H
              have c33b0 := eq_true c33
              have c33b1 := decide_eq_true c33
              clear c33
              by_cases c34 : (ji32) ≤ (x1_1.size : Int)
              ·rw [if_pos c34] at H
               have c34b0 := eq_true c34
               have c34b1 := decide_eq_true c34
               clear c34
               by_cases c35 : ((x1_1.extract 0 (t343 : Int).toNat) ++ (strOfNums y349)).size + (x1_1.extract ((ji32) : Int).toNat x1_1.size).size ≤ 9223372036854775807
               ·rw [if_pos c35] at H
                have c35b0 := eq_true c35
                have c35b1 := decide_eq_true c35
                try have c35bz : (9223372036854775807 < (x1_1.extract 0 (t343 : Int).toNat).size + (strOfNums y349).size + (x1_1.extract ((ji32) : Int).toNat x1_1.size).size) = False := eq_false (by have hz_ := c35; simp only [ByteArray.size_append] at hz_; omega)
                try have c35b2 : (9223372036854775807 < ((x1_1.extract 0 (t343 : Int).toNat) ++ (strOfNums y349)).size + (x1_1.extract ((ji32) : Int).toNat x1_1.size).size) = False := eq_false (Nat.not_lt.2 c35)
                have H' := Aside0.mk H
                clear H
                go_wp2_with (first | (go_at_call 90; (with_reducible refine (spec_l1Cur_pick.calls g s0_0 x1001_1 x1002_1 (x1_1.size : Int) t343 t344 t345 w0 _ ?side1 ?side2 A9.out).mono ?_); (case side1 => exact (isS93 HI0.out)); (case side2 => exact (belS93 HB.out HI0.out)); rintro e w36 ⟨rfl, hi, hb, hk⟩; replace HK := Aside0.mk (KeepBut.trans (kez HK.out) hk (.inl rfl)); replace HB := Aside0.mk (hb); replace HI0 := Aside0.mk (hi); (try clear hb); (try clear hb2); (try clear hk); (try clear hi)) | (go_at_call 90; (with_reducible refine (spec_l1Cur_pick.calls g s0_0 t344 t345 (a2.size : Int) t346 t347 t348 w0 _ ?side1 ?side2 A10.out).mono ?_); (case side1 => exact (isS93 HI0.out)); (case side2 => exact (belS93 HB.out HI0.out)); rintro e w37 ⟨rfl, hi, hb, hk⟩; replace HK := Aside0.mk (KeepBut.trans (kez HK.out) hk (.inl rfl)); replace HB := Aside0.mk (hb); replace HI0 := Aside0.mk (hi); (try clear hb); (try clear hb2); (try clear hk); (try clear hi); have p13 : 0 ≤ (t346 : Int) := of_decide_eq_true (by assumption); have q13 : t346 < (a2.size : Int) := of_decide_eq_true (by assumption); have hx13 := bt_at a2 t346; replace p13 := eq_true p13; replace q13 := eq_true q13) | ((with_reducible refine gate_dst (N := 31) rfl ?_); (try (refine gate_guard (by rfl) ?_; dsimp only)); refine Kd.R_lit (Kd.int .u8) _ 5 ?hg (N := 31) ?hd (xs := ([bt a2 t346] : List Int)) (inner := [.int .u8 (bt a2 t346)]) (ok := fun _ => True) (okp := fun _ => True) ?hr ?hp (fun _ hk => hk) trivial (Below.refl _ _) (Nat.le_refl _) (by simp) ?_; (case hd => rfl); (case hg => rfl); (case hr => first | (go_simp; done) | (go_simp; rfl)); (case hp => exact (Reps.one (show Kd.M (Kd.int .u8) _ _ _ (bt a2 t346) [.int .u8 (bt a2 t346)] from rfl) (Reps.none _ _))); intro v350 w38 ho39 hb hg_ hnew_; clear hg_ hnew_; (first | rw [← Ny349.out] at ho39 | (simp only [Int.reduceToNat] at ho39; rw [← Ny349.out] at ho39)); have HO351 := Aside0.mk (Kd.R_lower ho39 (keep_size (w := w) (g := g) (row := none) (kez HK.out))); replace HK := Aside0.mk (KeepBut.trans (kez HK.out) (KeepBut.of_below hb g none) (.inl rfl)); replace HB := Aside0.mk (below_step (belS93 HB.out HI0.out) hb); replace HI0 := Aside0.mk (IsS93.below (isS93 HI0.out) hb); clear hb ho39; have hcv40 := own_string (P := Try.prog) Try.underlying33 Try.underlying5 Try.underlying9 (Kd.own_of_R HO351.out)) | (go_at_call 90; (with_reducible refine (spec_l1Cur_pick.calls g s0_0 t347 t348 3 t352 t353 t354 w0 _ ?side1 ?side2 A14.out).mono ?_); (case side1 => exact (isS93 HI0.out)); (case side2 => exact (belS93 HB.out HI0.out)); rintro e w41 ⟨rfl, hi, hb, hk⟩; replace HO351 := Aside0.mk (Kd.R_mono (Kd.R_keep (IsS93.apart (show IsS93 w0 _ g s0_0 t347 t348 from (isS93 HI0.out)) (kdr HO351.out) (by decide)) hk (fun _ h => h.2)) (fun _ h => h.1)); replace HK := Aside0.mk (KeepBut.trans (kez HK.out) hk (.inl rfl)); replace HB := Aside0.mk (hb); replace HI0 := Aside0.mk (hi); (try clear hb); (try clear hb2); (try clear hk); (try clear hi)))
                repeat (go_quiet (first | (go_at_call 90; (with_reducible refine (spec_l1Cur_pick.calls g s0_0 x1001_1 x1002_1 (x1_1.size : Int) t343 t344 t345 w0 _ ?side1 ?side2 A9.out).mono ?_); (case side1 => exact (isS93 HI0.out)); (case side2 => exact (belS93 HB.out HI0.out)); rintro e w36 ⟨rfl, hi, hb, hk⟩; replace HK := Aside0.mk (KeepBut.trans (kez HK.out) hk (.inl rfl)); replace HB := Aside0.mk (hb); replace HI0 := Aside0.mk (hi); (try clear hb); (try clear hb2); (try clear hk); (try clear hi)) | (go_at_call 90; (with_reducible refine (spec_l1Cur_pick.calls g s0_0 t344 t345 (a2.size : Int) t346 t347 t348 w0 _ ?side1 ?side2 A10.out).mono ?_); (case side1 => exact (isS93 HI0.out)); (case side2 => exact (belS93 HB.out HI0.out)); rintro e w37 ⟨rfl, hi, hb, hk⟩; replace HK := Aside0.mk (KeepBut.trans (kez HK.out) hk (.inl rfl)); replace HB := Aside0.mk (hb); replace HI0 := Aside0.mk (hi); (try clear hb); (try clear hb2); (try clear hk); (try clear hi); have p13 : 0 ≤ (t346 : Int) := of_decide_eq_true (by assumption); have q13 : t346 < (a2.size : Int) := of_decide_eq_true (by assumption); have hx13 := bt_at a2 t346; replace p13 := eq_true p13; replace q13 := eq_true q13) | ((with_reducible refine gate_dst (N := 31) rfl ?_); (try (refine gate_guard (by rfl) ?_; dsimp only)); refine Kd.R_lit (Kd.int .u8) _ 5 ?hg (N := 31) ?hd (xs := ([bt a2 t346] : List Int)) (inner := [.int .u8 (bt a2 t346)]) (ok := fun _ => True) (okp := fun _ => True) ?hr ?hp (fun _ hk => hk) trivial (Below.refl _ _) (Nat.le_refl _) (by simp) ?_; (case hd => rfl); (case hg => rfl); (case hr => first | (go_simp; done) | (go_simp; rfl)); (case hp => exact (Reps.one (show Kd.M (Kd.int .u8) _ _ _ (bt a2 t346) [.int .u8 (bt a2 t346)] from rfl) (Reps.none _ _))); intro v350 w38 ho39 hb hg_ hnew_; clear hg_ hnew_; (first | rw [← Ny349.out] at ho39 | (simp only [Int.reduceToNat] at ho39; rw [← Ny349.out] at ho39)); have HO351 := Aside0.mk (Kd.R_lower ho39 (keep_size (w := w) (g := g) (row := none) (kez HK.out))); replace HK := Aside0.mk (KeepBut.trans (kez HK.out) (KeepBut.of_below hb g none) (.inl rfl)); replace HB := Aside0.mk (below_step (belS93 HB.out HI0.out) hb); replace HI0 := Aside0.mk (IsS93.below (isS93 HI0.out) hb); clear hb ho39; have hcv40 := own_string (P := Try.prog) Try.underlying33 Try.underlying5 Try.underlying9 (Kd.own_of_R HO351.out)) | (go_at_call 90; (with_reducible refine (spec_l1Cur_pick.calls g s0_0 t347 t348 3 t352 t353 t354 w0 _ ?side1 ?side2 A14.out).mono ?_); (case side1 => exact (isS93 HI0.out)); (case side2 => exact (belS93 HB.out HI0.out)); rintro e w41 ⟨rfl, hi, hb, hk⟩; replace HO351 := Aside0.mk (Kd.R_mono (Kd.R_keep (IsS93.apart (show IsS93 w0 _ g s0_0 t347 t348 from (isS93 HI0.out)) (kdr HO351.out) (by decide)) hk (fun _ h => h.2)) (fun _ h => h.1)); replace HK := Aside0.mk (KeepBut.trans (kez HK.out) hk (.inl rfl)); replace HB := Aside0.mk (hb); replace HI0 := Aside0.mk (hi); (try clear hb); (try clear hb2); (try clear hk); (try clear hi))); try go_wp2_with (first | (go_at_call 90; (with_reducible refine (spec_l1Cur_pick.calls g s0_0 x1001_1 x1002_1 (x1_1.size : Int) t343 t344 t345 w0 _ ?side1 ?side2 A9.out).mono ?_); (case side1 => exact (isS93 HI0.out)); (case side2 => exact (belS93 HB.out HI0.out)); rintro e w36 ⟨rfl, hi, hb, hk⟩; replace HK := Aside0.mk (KeepBut.trans (kez HK.out) hk (.inl rfl)); replace HB := Aside0.mk (hb); replace HI0 := Aside0.mk (hi); (try clear hb); (try clear hb2); (try clear hk); (try clear hi)) | (go_at_call 90; (with_reducible refine (spec_l1Cur_pick.calls g s0_0 t344 t345 (a2.size : Int) t346 t347 t348 w0 _ ?side1 ?side2 A10.out).mono ?_); (case side1 => exact (isS93 HI0.out)); (case side2 => exact (belS93 HB.out HI0.out)); rintro e w37 ⟨rfl, hi, hb, hk⟩; replace HK := Aside0.mk (KeepBut.trans (kez HK.out) hk (.inl rfl)); replace HB := Aside0.mk (hb); replace HI0 := Aside0.mk (hi); (try clear hb); (try clear hb2); (try clear hk); (try clear hi); have p13 : 0 ≤ (t346 : Int) := of_decide_eq_true (by assumption); have q13 : t346 < (a2.size : Int) := of_decide_eq_true (by assumption); have hx13 := bt_at a2 t346; replace p13 := eq_true p13; replace q13 := eq_true q13) | ((with_reducible refine gate_dst (N := 31) rfl ?_); (try (refine gate_guard (by rfl) ?_; dsimp only)); refine Kd.R_lit (Kd.int .u8) _ 5 ?hg (N := 31) ?hd (xs := ([bt a2 t346] : List Int)) (inner := [.int .u8 (bt a2 t346)]) (ok := fun _ => True) (okp := fun _ => True) ?hr ?hp (fun _ hk => hk) trivial (Below.refl _ _) (Nat.le_refl _) (by simp) ?_; (case hd => rfl); (case hg => rfl); (case hr => first | (go_simp; done) | (go_simp; rfl)); (case hp => exact (Reps.one (show Kd.M (Kd.int .u8) _ _ _ (bt a2 t346) [.int .u8 (bt a2 t346)] from rfl) (Reps.none _ _))); intro v350 w38 ho39 hb hg_ hnew_; clear hg_ hnew_; (first | rw [← Ny349.out] at ho39 | (simp only [Int.reduceToNat] at ho39; rw [← Ny349.out] at ho39)); have HO351 := Aside0.mk (Kd.R_lower ho39 (keep_size (w := w) (g := g) (row := none) (kez HK.out))); replace HK := Aside0.mk (KeepBut.trans (kez HK.out) (KeepBut.of_below hb g none) (.inl rfl)); replace HB := Aside0.mk (below_step (belS93 HB.out HI0.out) hb); replace HI0 := Aside0.mk (IsS93.below (isS93 HI0.out) hb); clear hb ho39; have hcv40 := own_string (P := Try.prog) Try.underlying33 Try.underlying5 Try.underlying9 (Kd.own_of_R HO351.out)) | (go_at_call 90; (with_reducible refine (spec_l1Cur_pick.calls g s0_0 t347 t348 3 t352 t353 t354 w0 _ ?side1 ?side2 A14.out).mono ?_); (case side1 => exact (isS93 HI0.out)); (case side2 => exact (belS93 HB.out HI0.out)); rintro e w41 ⟨rfl, hi, hb, hk⟩; replace HO351 := Aside0.mk (Kd.R_mono (Kd.R_keep (IsS93.apart (show IsS93 w0 _ g s0_0 t347 t348 from (isS93 HI0.out)) (kdr HO351.out) (by decide)) hk (fun _ h => h.2)) (fun _ h => h.1)); replace HK := Aside0.mk (KeepBut.trans (kez HK.out) hk (.inl rfl)); replace HB := Aside0.mk (hb); replace HI0 := Aside0.mk (hi); (try clear hb); (try clear hb2); (try clear hk); (try clear hi))))
                go_roundg kj5
                case measure => have := HK1.out; have := HJ5.out; omega
                case rel => exact ⟨(((x1_1.extract 0 (t343 : Int).toNat) ++ (strOfNums y349)) ++ (x1_1.extract ((ji32) : Int).toNat x1_1.size)), (wrap64 (x7_1 - 1)), (t353), (t354), (by first | rfl | (simp; done) | (simp only [← hji32] <;> (first | rfl | simp)) | (simp [*]; done)), (by first | rfl | simp [*]), H', ⟨by have := HK1.out; have := HJ5.out; omega⟩, ⟨(isS93 HI0.out)⟩, ⟨(kez HK.out)⟩, ⟨(belS93 HB.out HI0.out)⟩⟩
               ·rw [if_neg c35] at H
                exact absurd H (by simp)
              ·rw [if_neg c34] at H
               exact absurd H (by simp)
             ·rw [if_neg c33] at H
              exact absurd H (by simp)
            ·rw [if_neg c31] at H
             exact absurd H (by simp)
           ·rw [if_neg c30] at H
            exact absurd H (by simp)
          ·rw [if_neg c29] at H
           exact absurd H (by simp)
         ·rw [if_neg c28] at H
          have c28b0 : (t352 == 1) = false := beq_eq_false_iff_ne.mpr c28
          have c28b1 : (t352 != 1) = true := bne_iff_ne.mpr c28
          by_cases c42 : 0 ≤ t343
          ·rw [if_pos c42] at H
           have c42b0 := eq_true c42
           have c42b1 := decide_eq_true c42
           clear c42
           by_cases c43 : t343 ≤ (x1_1.size : Int)
           ·rw [if_pos c43] at H
            have c43b0 := eq_true c43
            have c43b1 := decide_eq_true c43
            clear c43
            obtain ⟨ji44, hji44⟩ : ∃ j_ : Int, (wrap64 (t343 + 1)) = j_ := ⟨_, rfl⟩
            replace H : (if 0 ≤ (ji44) then (if (ji44) ≤ (x1_1.size : Int) then (if (x1_1.extract 0 (t343 : Int).toNat).size + (x1_1.extract ((ji44) : Int).toNat x1_1.size).size ≤ 9223372036854775807 then (spec_l1Cur_spoilt.l0 kj5 ((x1_1.extract 0 (t343 : Int).toNat) ++ (x1_1.extract ((ji44) : Int).toNat x1_1.size)) a2 (wrap64 (x7_1 - 1)) s0_0 t353 t354) else (none)) else (none)) else (none)) = some (r1, r2, r3) := by first | (rw [hji44] at H; exact H) | (simp only [hji44] at H ⊢; exact H)
            (try rw [hji44] at A9)
            (try rw [hji44] at A10)
            (try rw [hji44] at A14)
            have hji44w : (IntKind.i64.wrap (t343 + 1)) = ji44 := (i64_w _).trans hji44
            by_cases c45 : 0 ≤ (ji44)
            ·rw [if_pos c45] at H
             have c45b0 := eq_true c45
             have c45b1 := decide_eq_true c45
             clear c45
             by_cases c46 : (ji44) ≤ (x1_1.size : Int)
             ·rw [if_pos c46] at H
              have c46b0 := eq_true c46
              have c46b1 := decide_eq_true c46
              clear c46
              by_cases c47 : (x1_1.extract 0 (t343 : Int).toNat).size + (x1_1.extract ((ji44) : Int).toNat x1_1.size).size ≤ 9223372036854775807
              ·rw [if_pos c47] at H
               have c47b0 := eq_true c47
               have c47b1 := decide_eq_true c47
               try have c47b2 : (9223372036854775807 < (x1_1.extract 0 (t343 : Int).toNat).size + (x1_1.extract ((ji44) : Int).toNat x1_1.size).size) = False := eq_false (Nat.not_lt.2 c47)
               have H' := Aside0.mk H
               clear H
               go_wp2_with (first | (go_at_call 90; (with_reducible refine (spec_l1Cur_pick.calls g s0_0 x1001_1 x1002_1 (x1_1.size : Int) t343 t344 t345 w0 _ ?side1 ?side2 A9.out).mono ?_); (case side1 => exact (isS93 HI0.out)); (case side2 => exact (belS93 HB.out HI0.out)); rintro e w48 ⟨rfl, hi, hb, hk⟩; replace HK := Aside0.mk (KeepBut.trans (kez HK.out) hk (.inl rfl)); replace HB := Aside0.mk (hb); replace HI0 := Aside0.mk (hi); (try clear hb); (try clear hb2); (try clear hk); (try clear hi)) | (go_at_call 90; (with_reducible refine (spec_l1Cur_pick.calls g s0_0 t344 t345 (a2.size : Int) t346 t347 t348 w0 _ ?side1 ?side2 A10.out).mono ?_); (case side1 => exact (isS93 HI0.out)); (case side2 => exact (belS93 HB.out HI0.out)); rintro e w49 ⟨rfl, hi, hb, hk⟩; replace HK := Aside0.mk (KeepBut.trans (kez HK.out) hk (.inl rfl)); replace HB := Aside0.mk (hb); replace HI0 := Aside0.mk (hi); (try clear hb); (try clear hb2); (try clear hk); (try clear hi); have p13 : 0 ≤ (t346 : Int) := of_decide_eq_true (by assumption); have q13 : t346 < (a2.size : Int) := of_decide_eq_true (by assumption); have hx13 := bt_at a2 t346; replace p13 := eq_true p13; replace q13 := eq_true q13) | ((with_reducible refine gate_dst (N := 31) rfl ?_); (try (refine gate_guard (by rfl) ?_; dsimp only)); refine Kd.R_lit (Kd.int .u8) _ 5 ?hg (N := 31) ?hd (xs := ([bt a2 t346] : List Int)) (inner := [.int .u8 (bt a2 t346)]) (ok := fun _ => True) (okp := fun _ => True) ?hr ?hp (fun _ hk => hk) trivial (Below.refl _ _) (Nat.le_refl _) (by simp) ?_; (case hd => rfl); (case hg => rfl); (case hr => first | (go_simp; done) | (go_simp; rfl)); (case hp => exact (Reps.one (show Kd.M (Kd.int .u8) _ _ _ (bt a2 t346) [.int .u8 (bt a2 t346)] from rfl) (Reps.none _ _))); intro v350 w50 ho51 hb hg_ hnew_; clear hg_ hnew_; (first | rw [← Ny349.out] at ho51 | (simp only [Int.reduceToNat] at ho51; rw [← Ny349.out] at ho51)); have HO351 := Aside0.mk (Kd.R_lower ho51 (keep_size (w := w) (g := g) (row := none) (kez HK.out))); replace HK := Aside0.mk (KeepBut.trans (kez HK.out) (KeepBut.of_below hb g none) (.inl rfl)); replace HB := Aside0.mk (below_step (belS93 HB.out HI0.out) hb); replace HI0 := Aside0.mk (IsS93.below (isS93 HI0.out) hb); clear hb ho51; have hcv52 := own_string (P := Try.prog) Try.underlying33 Try.underlying5 Try.underlying9 (Kd.own_of_R HO351.out)) | (go_at_call 90; (with_reducible refine (spec_l1Cur_pick.calls g s0_0 t347 t348 3 t352 t353 t354 w0 _ ?side1 ?side2 A14.out).mono ?_); (case side1 => exact (isS93 HI0.out)); (case side2 => exact (belS93 HB.out HI0.out)); rintro e w53 ⟨rfl, hi, hb, hk⟩; replace HO351 := Aside0.mk (Kd.R_mono (Kd.R_keep (IsS93.apart (show IsS93 w0 _ g s0_0 t347 t348 from (isS93 HI0.out)) (kdr HO351.out) (by decide)) hk (fun _ h => h.2)) (fun _ h => h.1)); replace HK := Aside0.mk (KeepBut.trans (kez HK.out) hk (.inl rfl)); replace HB := Aside0.mk (hb); replace HI0 := Aside0.mk (hi); (try clear hb); (try clear hb2); (try clear hk); (try clear hi)))
               repeat (go_quiet (first | (go_at_call 90; (with_reducible refine (spec_l1Cur_pick.calls g s0_0 x1001_1 x1002_1 (x1_1.size : Int) t343 t344 t345 w0 _ ?side1 ?side2 A9.out).mono ?_); (case side1 => exact (isS93 HI0.out)); (case side2 => exact (belS93 HB.out HI0.out)); rintro e w48 ⟨rfl, hi, hb, hk⟩; replace HK := Aside0.mk (KeepBut.trans (kez HK.out) hk (.inl rfl)); replace HB := Aside0.mk (hb); replace HI0 := Aside0.mk (hi); (try clear hb); (try clear hb2); (try clear hk); (try clear hi)) | (go_at_call 90; (with_reducible refine (spec_l1Cur_pick.calls g s0_0 t344 t345 (a2.size : Int) t346 t347 t348 w0 _ ?side1 ?side2 A10.out).mono ?_); (case side1 => exact (isS93 HI0.out)); (case side2 => exact (belS93 HB.out HI0.out)); rintro e w49 ⟨rfl, hi, hb, hk⟩; replace HK := Aside0.mk (KeepBut.trans (kez HK.out) hk (.inl rfl)); replace HB := Aside0.mk (hb); replace HI0 := Aside0.mk (hi); (try clear hb); (try clear hb2); (try clear hk); (try clear hi); have p13 : 0 ≤ (t346 : Int) := of_decide_eq_true (by assumption); have q13 : t346 < (a2.size : Int) := of_decide_eq_true (by assumption); have hx13 := bt_at a2 t346; replace p13 := eq_true p13; replace q13 := eq_true q13) | ((with_reducible refine gate_dst (N := 31) rfl ?_); (try (refine gate_guard (by rfl) ?_; dsimp only)); refine Kd.R_lit (Kd.int .u8) _ 5 ?hg (N := 31) ?hd (xs := ([bt a2 t346] : List Int)) (inner := [.int .u8 (bt a2 t346)]) (ok := fun _ => True) (okp := fun _ => True) ?hr ?hp (fun _ hk => hk) trivial (Below.refl _ _) (Nat.le_refl _) (by simp) ?_; (case hd => rfl); (case hg => rfl); (case hr => first | (go_simp; done) | (go_simp; rfl)); (case hp => exact (Reps.one (show Kd.M (Kd.int .u8) _ _ _ (bt a2 t346) [.int .u8 (bt a2 t346)] from rfl) (Reps.none _ _))); intro v350 w50 ho51 hb hg_ hnew_; clear hg_ hnew_; (first | rw [← Ny349.out] at ho51 | (simp only [Int.reduceToNat] at ho51; rw [← Ny349.out] at ho51)); have HO351 := Aside0.mk (Kd.R_lower ho51 (keep_size (w := w) (g := g) (row := none) (kez HK.out))); replace HK := Aside0.mk (KeepBut.trans (kez HK.out) (KeepBut.of_below hb g none) (.inl rfl)); replace HB := Aside0.mk (below_step (belS93 HB.out HI0.out) hb); replace HI0 := Aside0.mk (IsS93.below (isS93 HI0.out) hb); clear hb ho51; have hcv52 := own_string (P := Try.prog) Try.underlying33 Try.underlying5 Try.underlying9 (Kd.own_of_R HO351.out)) | (go_at_call 90; (with_reducible refine (spec_l1Cur_pick.calls g s0_0 t347 t348 3 t352 t353 t354 w0 _ ?side1 ?side2 A14.out).mono ?_); (case side1 => exact (isS93 HI0.out)); (case side2 => exact (belS93 HB.out HI0.out)); rintro e w53 ⟨rfl, hi, hb, hk⟩; replace HO351 := Aside0.mk (Kd.R_mono (Kd.R_keep (IsS93.apart (show IsS93 w0 _ g s0_0 t347 t348 from (isS93 HI0.out)) (kdr HO351.out) (by decide)) hk (fun _ h => h.2)) (fun _ h => h.1)); replace HK := Aside0.mk (KeepBut.trans (kez HK.out) hk (.inl rfl)); replace HB := Aside0.mk (hb); replace HI0 := Aside0.mk (hi); (try clear hb); (try clear hb2); (try clear hk); (try clear hi))); try go_wp2_with (first | (go_at_call 90; (with_reducible refine (spec_l1Cur_pick.calls g s0_0 x1001_1 x1002_1 (x1_1.size : Int) t343 t344 t345 w0 _ ?side1 ?side2 A9.out).mono ?_); (case side1 => exact (isS93 HI0.out)); (case side2 => exact (belS93 HB.out HI0.out)); rintro e w48 ⟨rfl, hi, hb, hk⟩; replace HK := Aside0.mk (KeepBut.trans (kez HK.out) hk (.inl rfl)); replace HB := Aside0.mk (hb); replace HI0 := Aside0.mk (hi); (try clear hb); (try clear hb2); (try clear hk); (try clear hi)) | (go_at_call 90; (with_reducible refine (spec_l1Cur_pick.calls g s0_0 t344 t345 (a2.size : Int) t346 t347 t348 w0 _ ?side1 ?side2 A10.out).mono ?_); (case side1 => exact (isS93 HI0.out)); (case side2 => exact (belS93 HB.out HI0.out)); rintro e w49 ⟨rfl, hi, hb, hk⟩; replace HK := Aside0.mk (KeepBut.trans (kez HK.out) hk (.inl rfl)); replace HB := Aside0.mk (hb); replace HI0 := Aside0.mk (hi); (try clear hb); (try clear hb2); (try clear hk); (try clear hi); have p13 : 0 ≤ (t346 : Int) := of_decide_eq_true (by assumption); have q13 : t346 < (a2.size : Int) := of_decide_eq_true (by assumption); have hx13 := bt_at a2 t346; replace p13 := eq_true p13; replace q13 := eq_true q13) | ((with_reducible refine gate_dst (N := 31) rfl ?_); (try (refine gate_guard (by rfl) ?_; dsimp only)); refine Kd.R_lit (Kd.int .u8) _ 5 ?hg (N := 31) ?hd (xs := ([bt a2 t346] : List Int)) (inner := [.int .u8 (bt a2 t346)]) (ok := fun _ => True) (okp := fun _ => True) ?hr ?hp (fun _ hk => hk) trivial (Below.refl _ _) (Nat.le_refl _) (by simp) ?_; (case hd => rfl); (case hg => rfl); (case hr => first | (go_simp; done) | (go_simp; rfl)); (case hp => exact (Reps.one (show Kd.M (Kd.int .u8) _ _ _ (bt a2 t346) [.int .u8 (bt a2 t346)] from rfl) (Reps.none _ _))); intro v350 w50 ho51 hb hg_ hnew_; clear hg_ hnew_; (first | rw [← Ny349.out] at ho51 | (simp only [Int.reduceToNat] at ho51; rw [← Ny349.out] at ho51)); have HO351 := Aside0.mk (Kd.R_lower ho51 (keep_size (w := w) (g := g) (row := none) (kez HK.out))); replace HK := Aside0.mk (KeepBut.trans (kez HK.out) (KeepBut.of_below hb g none) (.inl rfl)); replace HB := Aside0.mk (below_step (belS93 HB.out HI0.out) hb); replace HI0 := Aside0.mk (IsS93.below (isS93 HI0.out) hb); clear hb ho51; have hcv52 := own_string (P := Try.prog) Try.underlying33 Try.underlying5 Try.underlying9 (Kd.own_of_R HO351.out)) | (go_at_call 90; (with_reducible refine (spec_l1Cur_pick.calls g s0_0 t347 t348 3 t352 t353 t354 w0 _ ?side1 ?side2 A14.out).mono ?_); (case side1 => exact (isS93 HI0.out)); (case side2 => exact (belS93 HB.out HI0.out)); rintro e w53 ⟨rfl, hi, hb, hk⟩; replace HO351 := Aside0.mk (Kd.R_mono (Kd.R_keep (IsS93.apart (show IsS93 w0 _ g s0_0 t347 t348 from (isS93 HI0.out)) (kdr HO351.out) (by decide)) hk (fun _ h => h.2)) (fun _ h => h.1)); replace HK := Aside0.mk (KeepBut.trans (kez HK.out) hk (.inl rfl)); replace HB := Aside0.mk (hb); replace HI0 := Aside0.mk (hi); (try clear hb); (try clear hb2); (try clear hk); (try clear hi))))
               go_roundg kj5
               case measure => have := HK1.out; have := HJ5.out; omega
               case rel => exact ⟨((x1_1.extract 0 (t343 : Int).toNat) ++ (x1_1.extract ((ji44) : Int).toNat x1_1.size)), (wrap64 (x7_1 - 1)), (t353), (t354), (by first | rfl | (simp; done) | (simp only [← hji44] <;> (first | rfl | simp)) | (simp [*]; done)), (by first | rfl | simp [*]), H', ⟨by have := HK1.out; have := HJ5.out; omega⟩, ⟨(isS93 HI0.out)⟩, ⟨(kez HK.out)⟩, ⟨(belS93 HB.out HI0.out)⟩⟩
              ·rw [if_neg c47] at H
               exact absurd H (by simp)
             ·rw [if_neg c46] at H
              exact absurd H (by simp)
            ·rw [if_neg c45] at H
             exact absurd H (by simp)
           ·rw [if_neg c43] at H
            exact absurd H (by simp)
          ·rw [if_neg c42] at H
           exact absurd H (by simp)
       ·rw [if_neg c12] at H
        exact absurd H (by simp)
      ·rw [if_neg c11] at H
       exact absurd H (by simp)
     ·replace c8 := Bool.eq_false_iff.mpr c8
      subst c8
      have H1 : (some (x1_1, x1001_1, x1002_1)) = some (r1, r2, r3) := by rw [if_neg (show ¬ (false = true) by decide)] at H; exact H
      clear H
      have H := H1
      clear H1
      simp only [Option.some.injEq, Prod.mk.injEq] at H
      obtain ⟨rfl, rfl, rfl⟩ := H
      go_wp2
      repeat (go_quiet (fail); try go_wp2)
      go_ret
      exact ⟨by first | rfl | simp [*], (isS93 HI0.out), (belS93 HB.out HI0.out), (kez HK.out)⟩

/-! ### spec_l1Cur_sector: function 117 -/
def spec_l1Cur_sector.f (k : Nat) (s0_0 : List Int) (s0_1 : Int) (s0_2 : Int) : Option (ByteArray × Int × Int) := (spec_l1Cur_frame.f s0_0 s0_1 s0_2).bind fun bt355 => ((spec_FrameBytes.f k bt355.1 bt355.2.1 bt355.2.2.1 bt355.2.2.2.1).bind fun bt361 => ((spec_l1Cur_one.f s0_0 bt355.2.2.2.2.1 bt355.2.2.2.2.2 3).bind fun bt363 => (if bt363.1 = true then ((spec_l1Cur_spoilt.f k s0_0 bt363.2.1 bt363.2.2 bt361.1 (⟨#[0, 1, 255]⟩ : ByteArray)).bind fun bt366 => (some (bt366.1, bt366.2.1, bt366.2.2))) else (some (bt361.1, bt363.2.1, bt363.2.2)))))
theorem spec_l1Cur_sector.mono : ∀ a0 a1 a2 k, LeO (spec_l1Cur_sector.f k a0 a1 a2) (spec_l1Cur_sector.f (k + 1) a0 a1 a2) := by
 intro a0 a1 a2 k
 unfold spec_l1Cur_sector.f
 with_reducible repeat' first | exact spec_FrameBytes.mono _ _ _ _ _ | exact spec_l1Cur_spoilt.mono _ _ _ _ _ _ | exact LeO.refl _ | exact LeO.none _ | refine LeO.ite ?_ ?_ | refine LeO.bind ?_ (fun _ => ?_)
set_option maxHeartbeats 8000000 in
set_option maxRecDepth 100000 in
theorem spec_l1Cur_sector.calls (k : Nat) (g : Nat) (s0_0 : List Int) (s0_1 : Int) (s0_2 : Int) (r1 : ByteArray) (r2 : Int) (r3 : Int) (w0 w : World) (hI : IsS93 w0 w g s0_0 s0_1 s0_2) (hB : Below w0.heap.size w0 w) (h : spec_l1Cur_sector.f k s0_0 s0_1 s0_2 = some (r1, r2, r3)) :
  Calls Try.prog 117 #[.pointer (some ⟨g, 0, none⟩)] w fun e w' => e = .returned (.string r1) ∧ IsS93 w0 w' g s0_0 r2 r3 ∧ Below w0.heap.size w0 w' ∧ KeepBut w w' g none := by
 have HI0 := Aside0.mk hI
 have HK := Aside0.mk (KeepBut.refl w g none)
 have HL := Aside0.mk hB.size
 clear hI
 have HW0 := Aside0.mk hB.size
 have HB := Aside0.mk hB
 clear hB
 have H : ((spec_l1Cur_frame.f s0_0 s0_1 s0_2).bind fun bt355 => ((spec_FrameBytes.f k bt355.1 bt355.2.1 bt355.2.2.1 bt355.2.2.2.1).bind fun bt361 => ((spec_l1Cur_one.f s0_0 bt355.2.2.2.2.1 bt355.2.2.2.2.2 3).bind fun bt363 => (if bt363.1 = true then ((spec_l1Cur_spoilt.f k s0_0 bt363.2.1 bt363.2.2 bt361.1 (⟨#[0, 1, 255]⟩ : ByteArray)).bind fun bt366 => (some (bt366.1, bt366.2.1, bt366.2.2))) else (some (bt361.1, bt363.2.1, bt363.2.2)))))) = some (r1, r2, r3) := h
 clear h
 replace H := Option.bind_eq_some_iff.mp H
 obtain ⟨⟨t355, t356, t357, t358, t359, t360⟩, A20, H⟩ := H
 have A2 := Aside0.mk A20
 clear A20
 replace H := Option.bind_eq_some_iff.mp H
 obtain ⟨⟨t361, t362⟩, A30, H⟩ := H
 have A3 := Aside0.mk A30
 clear A30
 replace H := Option.bind_eq_some_iff.mp H
 obtain ⟨⟨t363, t364, t365⟩, A40, H⟩ := H
 have A4 := Aside0.mk A40
 clear A40
 by_cases c5 : t363 = true
 ·subst c5
  have H1 : ((spec_l1Cur_spoilt.f k s0_0 t364 t365 t361 (⟨#[0, 1, 255]⟩ : ByteArray)).bind fun bt366 => (some (bt366.1, bt366.2.1, bt366.2.2))) = some (r1, r2, r3) := by rw [if_pos rfl] at H; exact H
  clear H
  have H := H1
  clear H1
  replace H := Option.bind_eq_some_iff.mp H
  obtain ⟨⟨t366, t367, t368⟩, A60, H⟩ := H
  have A6 := Aside0.mk A60
  clear A60
  simp only [Option.some.injEq, Prod.mk.injEq] at H
  obtain ⟨rfl, rfl, rfl⟩ := H
  go_enter Try.func117, Try.ntmps117
  go_wp2_with (first | (go_at_call 107; (with_reducible refine (spec_l1Cur_frame.calls g s0_0 s0_1 s0_2 t355 t356 t357 t358 t359 t360 w0 _ ?side1 ?side2 A2.out).mono ?_); (case side1 => exact (isS93 HI0.out)); (case side2 => exact (belS93 HB.out HI0.out)); rintro e w7 ⟨rfl, hi, hb, hk⟩; replace HK := Aside0.mk (KeepBut.trans (kez HK.out) hk (.inl rfl)); replace HB := Aside0.mk (hb); replace HI0 := Aside0.mk (hi); (try clear hb); (try clear hb2); (try clear hk); (try clear hi)) | (go_at_call 111; (with_reducible refine (spec_FrameBytes.calls k t355 t356 t357 t358 t361 t362 _ A3.out).mono ?_); rintro e w8 ⟨rfl, hb⟩; replace HK := Aside0.mk (KeepBut.trans (kez HK.out) (KeepBut.of_below hb g none) (.inl rfl)); replace HB := Aside0.mk (below_step (belS93 HB.out HI0.out) hb); replace HI0 := Aside0.mk (IsS93.below (isS93 HI0.out) hb); (try clear hb); (try clear hb2); (try clear hk); (try clear hi)) | (go_at_call 115; (with_reducible refine (spec_l1Cur_one.calls g s0_0 t359 t360 3 true t364 t365 w0 _ ?side1 ?side2 A4.out).mono ?_); (case side1 => exact (isS93 HI0.out)); (case side2 => exact (belS93 HB.out HI0.out)); rintro e w9 ⟨rfl, hi, hb, hk⟩; replace HK := Aside0.mk (KeepBut.trans (kez HK.out) hk (.inl rfl)); replace HB := Aside0.mk (hb); replace HI0 := Aside0.mk (hi); (try clear hb); (try clear hb2); (try clear hk); (try clear hi)) | (go_at_call 181; (with_reducible refine (spec_l1Cur_spoilt.calls k g s0_0 t364 t365 t361 (⟨#[0, 1, 255]⟩ : ByteArray) t366 t367 t368 w0 _ ?side1 ?side2 A6.out).mono ?_); (case side1 => exact (isS93 HI0.out)); (case side2 => exact (belS93 HB.out HI0.out)); rintro e w10 ⟨rfl, hi, hb, hk⟩; replace HK := Aside0.mk (KeepBut.trans (kez HK.out) hk (.inl rfl)); replace HB := Aside0.mk (hb); replace HI0 := Aside0.mk (hi); (try clear hb); (try clear hb2); (try clear hk); (try clear hi)))
  go_ret
  exact ⟨by first | rfl | simp [*], (isS93 HI0.out), (belS93 HB.out HI0.out), (kez HK.out)⟩
 ·replace c5 := Bool.eq_false_iff.mpr c5
  subst c5
  have H1 : (some (t361, t364, t365)) = some (r1, r2, r3) := by rw [if_neg (show ¬ (false = true) by decide)] at H; exact H
  clear H
  have H := H1
  clear H1
  simp only [Option.some.injEq, Prod.mk.injEq] at H
  obtain ⟨rfl, rfl, rfl⟩ := H
  go_enter Try.func117, Try.ntmps117
  go_wp2_with (first | (go_at_call 107; (with_reducible refine (spec_l1Cur_frame.calls g s0_0 s0_1 s0_2 t355 t356 t357 t358 t359 t360 w0 _ ?side1 ?side2 A2.out).mono ?_); (case side1 => exact (isS93 HI0.out)); (case side2 => exact (belS93 HB.out HI0.out)); rintro e w11 ⟨rfl, hi, hb, hk⟩; replace HK := Aside0.mk (KeepBut.trans (kez HK.out) hk (.inl rfl)); replace HB := Aside0.mk (hb); replace HI0 := Aside0.mk (hi); (try clear hb); (try clear hb2); (try clear hk); (try clear hi)) | (go_at_call 111; (with_reducible refine (spec_FrameBytes.calls k t355 t356 t357 t358 t361 t362 _ A3.out).mono ?_); rintro e w12 ⟨rfl, hb⟩; replace HK := Aside0.mk (KeepBut.trans (kez HK.out) (KeepBut.of_below hb g none) (.inl rfl)); replace HB := Aside0.mk (below_step (belS93 HB.out HI0.out) hb); replace HI0 := Aside0.mk (IsS93.below (isS93 HI0.out) hb); (try clear hb); (try clear hb2); (try clear hk); (try clear hi)) | (go_at_call 115; (with_reducible refine (spec_l1Cur_one.calls g s0_0 t359 t360 3 false t364 t365 w0 _ ?side1 ?side2 A4.out).mono ?_); (case side1 => exact (isS93 HI0.out)); (case side2 => exact (belS93 HB.out HI0.out)); rintro e w13 ⟨rfl, hi, hb, hk⟩; replace HK := Aside0.mk (KeepBut.trans (kez HK.out) hk (.inl rfl)); replace HB := Aside0.mk (hb); replace HI0 := Aside0.mk (hi); (try clear hb); (try clear hb2); (try clear hk); (try clear hi)))
  go_ret
  exact ⟨by first | rfl | simp [*], (isS93 HI0.out), (belS93 HB.out HI0.out), (kez HK.out)⟩

end Go.Proofs.Ytldlldfoaicjcaa.MFnBodies
-- SHRUNK
