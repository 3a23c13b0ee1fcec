/- The machine's side of FnBodies, written by this session's program out of the kit's print of the program, with contracts of this session's own. No conditions beyond those typed. -/
import Derived.Test.YtldlldfoaicjcaaMFnBodiesx0
namespace Go.Proofs.Ytldlldfoaicjcaa.MFnBodies
open Go.RowKit Go.Proofs.YtldlldfoaicjcaaW.PrintWords Go.Proofs.YtldlldfoaicjcaaW.PrintLast Go.Proofs.YtldlldfoaicjcaaW.PrintMore
attribute [local go_sem] max2_int min2_int max_two min_two max_three min_three max_four min_four   -- for this text's walks alone
set_option linter.unusedVariables false
set_option linter.unusedSimpArgs false

/-! ### impl_within: function 99 -/
def impl_within.f (a0 : Int) (a1 : Int) (a2 : Int) : Option (Bool) := if a0 ≥ a1 then (some (decide (a0 ≤ a2))) else (some false)
set_option maxHeartbeats 8000000 in
set_option maxRecDepth 100000 in
theorem impl_within.calls (a0 : Int) (a1 : Int) (a2 : Int) (r : Bool) (w : World) (h : impl_within.f a0 a1 a2 = some r) :
  Calls Try.prog 99 #[.int .i64 a0, .int .i64 a1, .int .i64 a2] w fun e w' => e = .returned (.bool r) ∧ Drawn0 w w' := by
 have H : (if a0 ≥ a1 then (some (decide (a0 ≤ a2))) else (some false)) = some r := h
 clear h
 by_cases c4 : a0 ≥ a1
 ·rw [if_pos c4] at H
  have c4b0 := decide_eq_true c4
  clear c4
  obtain rfl := Option.some.inj H
  go_enter Try.func99, Try.ntmps99
  go_wp2
  go_ret
  exact ⟨by first | rfl | simp [*], by repeat (first | exact Drawn0.refl _ | apply Drawn0.step)⟩
 ·rw [if_neg c4] at H
  have c4b0 := decide_eq_false c4
  clear c4
  obtain rfl := Option.some.inj H
  go_enter Try.func99, Try.ntmps99
  go_wp2
  go_ret
  exact ⟨by first | rfl | simp [*], by repeat (first | exact Drawn0.refl _ | apply Drawn0.step)⟩

/-- A state of type 93 at block g of W; what its slices lead to came in by w0. -/
def IsS93 (w0 W : World) (g : Nat) (f0 : List Int) (f1 : Int) (f2 : Int) : Prop := ∃ A0 c0, W.heap[g]? = some (.cells #[.slice A0 f0.length c0, .int .i64 f1, .int .u64 f2] 93 (0, 0)) ∧ w0.heap.size ≤ g ∧ Kd.C (Kd.int .u8) w0 A0 f0.length f0
theorem IsS93.grown {w0 W : World} {g : Nat} {f0 : List Int} {f1 : Int} {f2 : Int} {W1 : World} {row : Option Nat} (h : IsS93 w0 W g f0 f1 f2) (hw : W.grownBy W1 row) (hne : some g ≠ row) : IsS93 w0 W1 g f0 f1 f2 := by
 obtain ⟨A0, c0, hb, hg, hr0⟩ := h
 exact ⟨A0, c0, blk_grown hb hw hne, hg, hr0⟩
theorem IsS93.own_neN {w0 W : World} {g : Nat} {f0 : List Int} {f1 : Int} {f2 : Int} {α : Type} {d : Kd α} {e : Nat} {base : Nat} {ok : Nat → Prop} {v : Value} {xs : List α} (h : IsS93 w0 W g f0 f1 f2) (ho : Kd.N d e W base ok v xs) (ht : e ≠ 93) : some g ≠ v.ownBlock := by
 obtain ⟨A0, c0, hb, hg, hr0⟩ := h
 exact Kd.N_ne ho hb ht
theorem IsS93.fresh {w0 W : World} {g : Nat} {f0 : List Int} {f1 : Int} {f2 : Int} (h : IsS93 w0 W g f0 f1 f2) : ∀ k, W.heap.size ≤ k → k ≠ g := by
 obtain ⟨A0, c0, hb, hg, hr0⟩ := h
 exact Kd.freshB hb
theorem IsS93.kept {w0 W : World} {g : Nat} {f0 : List Int} {f1 : Int} {f2 : Int} {W1 : World} {S : Nat → Prop} (h : IsS93 w0 W g f0 f1 f2) (hk : Kept W W1 S) (hne : ¬ S g) : IsS93 w0 W1 g f0 f1 f2 := by
 obtain ⟨A0, c0, hb, hg, hr0⟩ := h
 exact ⟨A0, c0, blk_kept hb hk hne, hg, hr0⟩
theorem IsS93.below {w0 W : World} {g : Nat} {f0 : List Int} {f1 : Int} {f2 : Int} {W1 : World} (h : IsS93 w0 W g f0 f1 f2) (hw : Below W.heap.size W W1) : IsS93 w0 W1 g f0 f1 f2 := h.grown (grown_of_below hw none) (by simp)
theorem IsS93.alloc {w0 W : World} {g : Nat} {f0 : List Int} {f1 : Int} {f2 : Int} (h : IsS93 w0 W g f0 f1 f2) (o : Obj) : IsS93 w0 (W.alloc o) g f0 f1 f2 := h.below (below_alloc (Below.refl _ _) o)
theorem IsS93.drewN {w0 W : World} {g : Nat} {f0 : List Int} {f1 : Int} {f2 : Int} (h : IsS93 w0 W g f0 f1 f2) (m : Nat) : IsS93 w0 (W.drewN m) g f0 f1 f2 := h
theorem IsS93.drew {w0 W : World} {g : Nat} {f0 : List Int} {f1 : Int} {f2 : Int} (h : IsS93 w0 W g f0 f1 f2) : IsS93 w0 W.drew g f0 f1 f2 := h
theorem IsS93.at_ {w0 W : World} {g : Nat} {f0 : List Int} {f1 : Int} {f2 : Int} {w' : World} {m : Nat} (hq : W.drewN m = w') (h : IsS93 w0 W g f0 f1 f2) : IsS93 w0 w' g f0 f1 f2 := by subst hq; exact IsS93.drewN h m
theorem IsS93.apart {w0 W : World} {g : Nat} {f0 : List Int} {f1 : Int} {f2 : Int} {α : Type} {d : Kd α} {e : Nat} {base : Nat} {ok : Nat → Prop} {v : Value} {xs : List α} (h : IsS93 w0 W g f0 f1 f2) (ho : d.R e W base ok v xs) (ht : ∀ q, q ∈ e :: d.E → q ≠ 93) : d.R e W base (fun k => ok k ∧ k ≠ g) v xs := by
 obtain ⟨A0, c0, hb, hg, hr0⟩ := h
 exact Kd.R_types ho hb ht
theorem IsS93.own_ne {w0 W : World} {g : Nat} {f0 : List Int} {f1 : Int} {f2 : Int} {α : Type} {d : Kd α} {e : Nat} {base : Nat} {ok : Nat → Prop} {v : Value} {xs : List α} (h : IsS93 w0 W g f0 f1 f2) (ho : d.R e W base ok v xs) (ht : e ≠ 93) : some g ≠ v.ownBlock := by
 obtain ⟨A0, c0, hb, hg, hr0⟩ := h
 exact Kd.R_ne ho hb ht
theorem IsS93.apartQ {w0 W : World} {g : Nat} {f0 : List Int} {f1 : Int} {f2 : Int} {α : Type} {d : Kd α} {e : Nat} {base : Nat} {ok : Nat → Prop} {v : Value} {xs : List α} (h : IsS93 w0 W g f0 f1 f2) (ho : d.Q e W base ok v xs) (ht : ∀ q, q ∈ e :: d.E → q ≠ 93) : d.Q e W base (fun k => ok k ∧ k ≠ g) v xs := by
 obtain ⟨A0, c0, hb, hg, hr0⟩ := h
 exact Kd.Q_types ho hb ht
theorem IsS93.own_neQ {w0 W : World} {g : Nat} {f0 : List Int} {f1 : Int} {f2 : Int} {α : Type} {d : Kd α} {e : Nat} {base : Nat} {ok : Nat → Prop} {v : Value} {xs : List α} (h : IsS93 w0 W g f0 f1 f2) (ho : d.Q e W base ok v xs) (ht : e ≠ 93) : some g ≠ v.ownBlock := by
 obtain ⟨A0, c0, hb, hg, hr0⟩ := h
 exact Kd.Q_ne ho hb ht
theorem IsS93.apartS {w0 W : World} {g : Nat} {f0 : List Int} {f1 : Int} {f2 : Int} {α : Type} {d : Kd α} {e : Nat} {base : Nat} {ok : Nat → Prop} {v : Value} {xs : List α} (h : IsS93 w0 W g f0 f1 f2) (ho : d.S e W base ok v xs) (ht : ∀ q, q ∈ e :: d.E → q ≠ 93) : d.S e W base (fun k => ok k ∧ k ≠ g) v xs := by
 obtain ⟨A0, c0, hb, hg, hr0⟩ := h
 exact Kd.S_types ho hb ht
theorem IsS93.own_neS {w0 W : World} {g : Nat} {f0 : List Int} {f1 : Int} {f2 : Int} {α : Type} {d : Kd α} {e : Nat} {base : Nat} {ok : Nat → Prop} {v : Value} {xs : List α} (h : IsS93 w0 W g f0 f1 f2) (ho : d.S e W base ok v xs) (ht : e ≠ 93) : some g ≠ v.ownBlock := by
 obtain ⟨A0, c0, hb, hg, hr0⟩ := h
 exact Kd.S_ne ho hb ht
theorem IsS93.lt {w0 W : World} {g : Nat} {f0 : List Int} {f1 : Int} {f2 : Int} (h : IsS93 w0 W g f0 f1 f2) : g < W.heap.size := by
 obtain ⟨A0, c0, hb, hg, hr0⟩ := h
 exact blk_lt hb
theorem IsS93.ge {w0 W : World} {g : Nat} {f0 : List Int} {f1 : Int} {f2 : Int} (h : IsS93 w0 W g f0 f1 f2) : w0.heap.size ≤ g := by
 obtain ⟨A0, c0, hb, hg, hr0⟩ := h
 exact hg
theorem IsS93.ne_blk {w0 W : World} {g : Nat} {f0 : List Int} {f1 : Int} {f2 : Int} {a : Nat} {cs : Array Value} {t : TypeId} {fr : Nat × Nat} (h : IsS93 w0 W g f0 f1 f2) (hb2 : W.heap[a]? = some (.cells cs t fr)) (ht : t ≠ 93) : g ≠ a := by
 obtain ⟨A0, c0, hb, hg, hr0⟩ := h
 rintro rfl
 rw [hb] at hb2
 injection hb2 with hb2
 injection hb2 with _ ht2
 exact ht ht2.symm
theorem IsS93.far {w0 W : World} {g : Nat} {f0 : List Int} {f1 : Int} {f2 : Int} {p : Addr} (h : IsS93 w0 W g f0 f1 f2) (hne : g ≠ p.block) (u : Value) : IsS93 w0 (W.setCell p u) g f0 f1 f2 := by
 obtain ⟨A0, c0, hb, hg, hr0⟩ := h
 exact ⟨A0, c0, blk_far hb hne u, hg, hr0⟩
theorem cellS93_0 {W : World} {g : Nat} {A0 : Option Addr} {c0 : Nat} {f0 : List Int} {f1 : Int} {f2 : Int} (h : W.heap[g]? = some (.cells #[.slice A0 f0.length c0, .int .i64 f1, .int .u64 f2] 93 (0, 0))) : W.cell? ⟨g, 0, none⟩ = some (.slice A0 f0.length c0) := (blk_cell h 0).trans rfl
theorem cellS93_1 {W : World} {g : Nat} {A0 : Option Addr} {c0 : Nat} {f0 : List Int} {f1 : Int} {f2 : Int} (h : W.heap[g]? = some (.cells #[.slice A0 f0.length c0, .int .i64 f1, .int .u64 f2] 93 (0, 0))) : W.cell? ⟨g, 1, none⟩ = some (.int .i64 f1) := (blk_cell h 1).trans rfl
theorem IsS93.set_1 {w0 W : World} {g : Nat} {f0 : List Int} {f1 : Int} {f2 : Int} (h : IsS93 w0 W g f0 f1 f2) (x : Int) : IsS93 w0 (W.setCell ⟨g, 1, none⟩ (.int .i64 x)) g f0 x f2 := by
 obtain ⟨A0, c0, hb, hg, hr0⟩ := h
 exact ⟨A0, c0, by simpa using blk_set hb 1 (.int .i64 x), hg, hr0⟩
theorem cellS93_2 {W : World} {g : Nat} {A0 : Option Addr} {c0 : Nat} {f0 : List Int} {f1 : Int} {f2 : Int} (h : W.heap[g]? = some (.cells #[.slice A0 f0.length c0, .int .i64 f1, .int .u64 f2] 93 (0, 0))) : W.cell? ⟨g, 2, none⟩ = some (.int .u64 f2) := (blk_cell h 2).trans rfl
theorem IsS93.set_2 {w0 W : World} {g : Nat} {f0 : List Int} {f1 : Int} {f2 : Int} (h : IsS93 w0 W g f0 f1 f2) (x : Int) : IsS93 w0 (W.setCell ⟨g, 2, none⟩ (.int .u64 x)) g f0 f1 x := by
 obtain ⟨A0, c0, hb, hg, hr0⟩ := h
 exact ⟨A0, c0, by simpa using blk_set hb 2 (.int .u64 x), hg, hr0⟩
theorem IsS93.new (w0 W : World) (A0 : Option Addr) (c0 : Nat) (f0 : List Int) (f1 : Int) (f2 : Int) (hB : Below w0.heap.size w0 W) (hr0 : Kd.C (Kd.int .u8) w0 A0 f0.length f0) : IsS93 w0 (W.alloc (.cells #[.slice A0 f0.length c0, .int .i64 f1, .int .u64 f2] 93)) W.heap.size f0 f1 f2 := ⟨A0, c0, by simpa using heap_alloc_new W _, hB.size, hr0⟩
theorem isS93 {w0 W : World} {g : Nat} {W' : World} {f0 : List Int} {f1 : Int} {f2 : Int} {h0 : List Int} {h1 : Int} {h2 : Int} (h : IsS93 w0 W g f0 f1 f2) (k : IsS93 w0 W g f0 f1 f2 → IsS93 w0 W' g h0 h1 h2 := by intro h_; (repeat (with_reducible first | exact h_ | apply IsS93.alloc | apply IsS93.drewN | apply IsS93.drew | apply IsS93.set_1 | apply IsS93.set_2)) <;> fail) : IsS93 w0 W' g h0 h1 h2 := k h
theorem isT93 {w0 W : World} {g : Nat} {W' : World} {f0 : List Int} {f1 : Int} {f2 : Int} {h0 : List Int} {h1 : Int} {h2 : Int} (h : IsS93 w0 W g f0 f1 f2) (k : IsS93 w0 W g f0 f1 f2 → IsS93 w0 W' g h0 h1 h2 := by intro h_; (repeat (first | (with_reducible first | exact h_ | apply IsS93.alloc | apply IsS93.drewN | apply IsS93.drew | apply IsS93.set_1 | apply IsS93.set_2 | refine IsS93.far ?_ (Aside0.out (by assumption)) _) | exact h_)) <;> fail) : IsS93 w0 W' g h0 h1 h2 := k h
theorem belS93 {w0 W V V' V0 : World} {n g : Nat} {f0 : List Int} {f1 : Int} {f2 : Int} (b : Below n V0 V) (h : IsS93 w0 W g f0 f1 f2) (k : Below n V0 V → IsS93 w0 W g f0 f1 f2 → Below n V0 V' := by intro h_ i_; (repeat (with_reducible first | exact h_ | apply below_alloc | apply pw_below_drewN | apply below_drew1 | refine below_set ?_ (IsS93.ge i_))) <;> fail) : Below n V0 V' := k b h
theorem belT93 {w0 W V V' V0 : World} {n g : Nat} {f0 : List Int} {f1 : Int} {f2 : Int} (b : Below n V0 V) (h : IsS93 w0 W g f0 f1 f2) (k : Below n V0 V → IsS93 w0 W g f0 f1 f2 → Below n V0 V' := by intro h_ i_; (repeat (first | (with_reducible first | exact h_ | apply below_alloc | apply pw_below_drewN | apply below_drew1 | refine below_set ?_ (IsS93.ge i_) | refine below_set ?_ (Aside0.out (by assumption))) | exact h_)) <;> fail) : Below n V0 V' := k b h

/-! ### spec_l1Cur_next: function 167 -/
def spec_l1Cur_next.f (s0_0 : List Int) (s0_1 : Int) (s0_2 : Int) : Option (Int × Int × Int) := if s0_1 < (s0_0.length : Int) then (if 0 ≤ s0_1 then (if (wrap64 (s0_1 + 1)) ≤ (s0_0.length : Int) then (some (wrap64 (rd s0_0 s0_1), wrap64 (s0_1 + 1), IntKind.u64.wrap ((IntKind.u64.wrap ((IntKind.u64.wrap (s0_2 * 6364136223846793005)) + (IntKind.u64.wrap (wrap64 (rd s0_0 s0_1))))) + 1442695040888963407))) else (some (wrap64 (Go.bits .and .u64 ((IntKind.u64.wrap ((IntKind.u64.wrap ((IntKind.u64.wrap (s0_2 * 6364136223846793005)) + (IntKind.u64.wrap (wrap64 (rd s0_0 s0_1))))) + 1442695040888963407)) / 1099511627776) 255), wrap64 (s0_1 + 1), IntKind.u64.wrap ((IntKind.u64.wrap ((IntKind.u64.wrap (s0_2 * 6364136223846793005)) + (IntKind.u64.wrap (wrap64 (rd s0_0 s0_1))))) + 1442695040888963407)))) else (none)) else (if (wrap64 (s0_1 + 1)) ≤ (s0_0.length : Int) then (some (0, wrap64 (s0_1 + 1), IntKind.u64.wrap ((IntKind.u64.wrap ((IntKind.u64.wrap (s0_2 * 6364136223846793005)))) + 1442695040888963407))) else (some (wrap64 (Go.bits .and .u64 ((IntKind.u64.wrap ((IntKind.u64.wrap ((IntKind.u64.wrap (s0_2 * 6364136223846793005)))) + 1442695040888963407)) / 1099511627776) 255), wrap64 (s0_1 + 1), IntKind.u64.wrap ((IntKind.u64.wrap ((IntKind.u64.wrap (s0_2 * 6364136223846793005)))) + 1442695040888963407))))
set_option maxHeartbeats 8000000 in
set_option maxRecDepth 100000 in
theorem spec_l1Cur_next.calls (g : Nat) (s0_0 : List Int) (s0_1 : Int) (s0_2 : Int) (r1 : Int) (r2 : Int) (r3 : Int) (w0 w : World) (hI : IsS93 w0 w g s0_0 s0_1 s0_2) (hB : Below w0.heap.size w0 w) (h : spec_l1Cur_next.f s0_0 s0_1 s0_2 = some (r1, r2, r3)) :
  Calls Try.prog 167 #[.pointer (some ⟨g, 0, none⟩)] w fun e w' => e = .returned (.int .i64 r1) ∧ IsS93 w0 w' g s0_0 r2 r3 ∧ Below w0.heap.size w0 w' ∧ KeepBut w w' g none := by
 have HI0 := Aside0.mk hI
 have HK := Aside0.mk (KeepBut.refl w g none)
 have HL := Aside0.mk hB.size
 clear hI
 have HW0 := Aside0.mk hB.size
 have HB := Aside0.mk hB
 clear hB
 have H : (if s0_1 < (s0_0.length : Int) then (if 0 ≤ s0_1 then (if (wrap64 (s0_1 + 1)) ≤ (s0_0.length : Int) then (some (wrap64 (rd s0_0 s0_1), wrap64 (s0_1 + 1), IntKind.u64.wrap ((IntKind.u64.wrap ((IntKind.u64.wrap (s0_2 * 6364136223846793005)) + (IntKind.u64.wrap (wrap64 (rd s0_0 s0_1))))) + 1442695040888963407))) else (some (wrap64 (Go.bits .and .u64 ((IntKind.u64.wrap ((IntKind.u64.wrap ((IntKind.u64.wrap (s0_2 * 6364136223846793005)) + (IntKind.u64.wrap (wrap64 (rd s0_0 s0_1))))) + 1442695040888963407)) / 1099511627776) 255), wrap64 (s0_1 + 1), IntKind.u64.wrap ((IntKind.u64.wrap ((IntKind.u64.wrap (s0_2 * 6364136223846793005)) + (IntKind.u64.wrap (wrap64 (rd s0_0 s0_1))))) + 1442695040888963407)))) else (none)) else (if (wrap64 (s0_1 + 1)) ≤ (s0_0.length : Int) then (some (0, wrap64 (s0_1 + 1), IntKind.u64.wrap ((IntKind.u64.wrap ((IntKind.u64.wrap (s0_2 * 6364136223846793005)))) + 1442695040888963407))) else (some (wrap64 (Go.bits .and .u64 ((IntKind.u64.wrap ((IntKind.u64.wrap ((IntKind.u64.wrap (s0_2 * 6364136223846793005)))) + 1442695040888963407)) / 1099511627776) 255), wrap64 (s0_1 + 1), IntKind.u64.wrap ((IntKind.u64.wrap ((IntKind.u64.wrap (s0_2 * 6364136223846793005)))) + 1442695040888963407))))) = some (r1, r2, r3) := h
 clear h
 by_cases c2 : s0_1 < (s0_0.length : Int)
 ·rw [if_pos c2] at H
  have c2b0 := decide_eq_true c2
  clear c2
  by_cases c3 : 0 ≤ s0_1
  ·rw [if_pos c3] at H
   have c3b0 := decide_eq_true c3
   clear c3
   by_cases c4 : (wrap64 (s0_1 + 1)) ≤ (s0_0.length : Int)
   ·rw [if_pos c4] at H
    have c4b0 := decide_eq_true c4
    clear c4
    simp only [Option.some.injEq, Prod.mk.injEq] at H
    obtain ⟨rfl, rfl, rfl⟩ := H
    obtain ⟨ASz5_0, cSz5_0, HGz5, hgz5, HSz5_0⟩ := HI0.out
    have hcz5_0 := cellS93_0 HGz5
    have hcz5_1 := cellS93_1 HGz5
    have hcz5_2 := cellS93_2 HGz5
    have hfz5_1 := blk_frozen HGz5 1
    have hfz5_2 := blk_frozen HGz5 2
    clear HGz5 hgz5
    have p101 : 0 ≤ (s0_1 : Int) := of_decide_eq_true (by assumption)
    have q101 : s0_1 < (s0_0.length : Int) := of_decide_eq_true (by assumption)
    obtain ⟨ad101, e101, hx101_0⟩ := Kd.at_int HSz5_0 s0_1 p101 q101
    cases e101
    replace hx101_0 := pw_cell_below HB.out hx101_0
    replace p101 := eq_true p101
    replace q101 := eq_true q101
    go_enter Try.func167, Try.ntmps167
    go_wp2
    repeat (go_quiet (fail); try go_wp2)
    go_ret
    exact ⟨by first | rfl | simp [*], (isS93 HI0.out), (belS93 HB.out HI0.out), (kez HK.out)⟩
   ·rw [if_neg c4] at H
    have c4b0 := decide_eq_false c4
    clear c4
    simp only [Option.some.injEq, Prod.mk.injEq] at H
    obtain ⟨rfl, rfl, rfl⟩ := H
    obtain ⟨ASz6_0, cSz6_0, HGz6, hgz6, HSz6_0⟩ := HI0.out
    have hcz6_0 := cellS93_0 HGz6
    have hcz6_1 := cellS93_1 HGz6
    have hcz6_2 := cellS93_2 HGz6
    have hfz6_1 := blk_frozen HGz6 1
    have hfz6_2 := blk_frozen HGz6 2
    clear HGz6 hgz6
    have p101 : 0 ≤ (s0_1 : Int) := of_decide_eq_true (by assumption)
    have q101 : s0_1 < (s0_0.length : Int) := of_decide_eq_true (by assumption)
    obtain ⟨ad101, e101, hx101_0⟩ := Kd.at_int HSz6_0 s0_1 p101 q101
    cases e101
    replace hx101_0 := pw_cell_below HB.out hx101_0
    replace p101 := eq_true p101
    replace q101 := eq_true q101
    go_enter Try.func167, Try.ntmps167
    go_wp2
    repeat (go_quiet (fail); try go_wp2)
    go_ret
    exact ⟨by first | rfl | simp [*], (isS93 HI0.out), (belS93 HB.out HI0.out), (kez HK.out)⟩
  ·rw [if_neg c3] at H
   exact absurd H (by simp)
 ·rw [if_neg c2] at H
  have c2b0 := decide_eq_false c2
  clear c2
  by_cases c7 : (wrap64 (s0_1 + 1)) ≤ (s0_0.length : Int)
  ·rw [if_pos c7] at H
   have c7b0 := decide_eq_true c7
   clear c7
   simp only [Option.some.injEq, Prod.mk.injEq] at H
   obtain ⟨rfl, rfl, rfl⟩ := H
   obtain ⟨ASz8_0, cSz8_0, HGz8, hgz8, HSz8_0⟩ := HI0.out
   have hcz8_0 := cellS93_0 HGz8
   have hcz8_1 := cellS93_1 HGz8
   have hcz8_2 := cellS93_2 HGz8
   have hfz8_1 := blk_frozen HGz8 1
   have hfz8_2 := blk_frozen HGz8 2
   clear HGz8 hgz8
   go_enter Try.func167, Try.ntmps167
   go_wp2
   repeat (go_quiet (fail); try go_wp2)
   go_ret
   exact ⟨by first | rfl | simp [*], (isS93 HI0.out), (belS93 HB.out HI0.out), (kez HK.out)⟩
  ·rw [if_neg c7] at H
   have c7b0 := decide_eq_false c7
   clear c7
   simp only [Option.some.injEq, Prod.mk.injEq] at H
   obtain ⟨rfl, rfl, rfl⟩ := H
   obtain ⟨ASz9_0, cSz9_0, HGz9, hgz9, HSz9_0⟩ := HI0.out
   have hcz9_0 := cellS93_0 HGz9
   have hcz9_1 := cellS93_1 HGz9
   have hcz9_2 := cellS93_2 HGz9
   have hfz9_1 := blk_frozen HGz9 1
   have hfz9_2 := blk_frozen HGz9 2
   clear HGz9 hgz9
   go_enter Try.func167, Try.ntmps167
   go_wp2
   repeat (go_quiet (fail); try go_wp2)
   go_ret
   exact ⟨by first | rfl | simp [*], (isS93 HI0.out), (belS93 HB.out HI0.out), (kez HK.out)⟩

/-! ### spec_l1Cur_pick: function 90 -/
def spec_l1Cur_pick.f (s0_0 : List Int) (s0_1 : Int) (s0_2 : Int) (a1 : Int) : Option (Int × Int × Int) := if a1 ≤ 1 then (some (0, s0_1, s0_2)) else ((spec_l1Cur_next.f s0_0 s0_1 s0_2).bind fun bt102 => (if a1 > 200 then ((spec_l1Cur_next.f s0_0 bt102.2.1 bt102.2.2).bind fun bt105 => (if a1 = 0 then (none) else (some (Int.tmod (wrap64 ((wrap64 (bt102.1 * 256)) + bt105.1)) a1, bt105.2.1, bt105.2.2)))) else (if a1 = 0 then (none) else (some (Int.tmod bt102.1 a1, bt102.2.1, bt102.2.2)))))
set_option maxHeartbeats 8000000 in
set_option maxRecDepth 100000 in
theorem spec_l1Cur_pick.calls (g : Nat) (s0_0 : List Int) (s0_1 : Int) (s0_2 : Int) (a1 : Int) (r1 : Int) (r2 : Int) (r3 : Int) (w0 w : World) (hI : IsS93 w0 w g s0_0 s0_1 s0_2) (hB : Below w0.heap.size w0 w) (h : spec_l1Cur_pick.f s0_0 s0_1 s0_2 a1 = some (r1, r2, r3)) :
  Calls Try.prog 90 #[.pointer (some ⟨g, 0, none⟩), .int .i64 a1] w fun e w' => e = .returned (.int .i64 r1) ∧ IsS93 w0 w' g s0_0 r2 r3 ∧ Below w0.heap.size w0 w' ∧ KeepBut w w' g none := by
 have HI0 := Aside0.mk hI
 have HK := Aside0.mk (KeepBut.refl w g none)
 have HL := Aside0.mk hB.size
 clear hI
 have HW0 := Aside0.mk hB.size
 have HB := Aside0.mk hB
 clear hB
 have H : (if a1 ≤ 1 then (some (0, s0_1, s0_2)) else ((spec_l1Cur_next.f s0_0 s0_1 s0_2).bind fun bt102 => (if a1 > 200 then ((spec_l1Cur_next.f s0_0 bt102.2.1 bt102.2.2).bind fun bt105 => (if a1 = 0 then (none) else (some (Int.tmod (wrap64 ((wrap64 (bt102.1 * 256)) + bt105.1)) a1, bt105.2.1, bt105.2.2)))) else (if a1 = 0 then (none) else (some (Int.tmod bt102.1 a1, bt102.2.1, bt102.2.2)))))) = some (r1, r2, r3) := h
 clear h
 by_cases c3 : a1 ≤ 1
 ·rw [if_pos c3] at H
  have c3b0 := decide_eq_true c3
  clear c3
  simp only [Option.some.injEq, Prod.mk.injEq] at H
  obtain ⟨rfl, rfl, rfl⟩ := H
  go_enter Try.func90, Try.ntmps90
  go_wp2
  go_ret
  exact ⟨by first | rfl | simp [*], (isS93 HI0.out), (belS93 HB.out HI0.out), (kez HK.out)⟩
 ·rw [if_neg c3] at H
  have c3b0 := decide_eq_false c3
  clear c3
  replace H := Option.bind_eq_some_iff.mp H
  obtain ⟨⟨t102, t103, t104⟩, A40, H⟩ := H
  have A4 := Aside0.mk A40
  clear A40
  by_cases c5 : a1 > 200
  ·rw [if_pos c5] at H
   have c5b0 := decide_eq_true c5
   clear c5
   replace H := Option.bind_eq_some_iff.mp H
   obtain ⟨⟨t105, t106, t107⟩, A60, H⟩ := H
   have A6 := Aside0.mk A60
   clear A60
   by_cases c7 : a1 = 0
   ·rw [if_pos c7] at H
    exact absurd H (by simp)
   ·rw [if_neg c7] at H
    have c7b0 : (a1 == 0) = false := beq_eq_false_iff_ne.mpr c7
    have c7b1 : (a1 != 0) = true := bne_iff_ne.mpr c7
    simp only [Option.some.injEq, Prod.mk.injEq] at H
    obtain ⟨rfl, rfl, rfl⟩ := H
    go_enter Try.func90, Try.ntmps90
    go_wp2_with (first | (go_at_call 167; (with_reducible refine (spec_l1Cur_next.calls g s0_0 s0_1 s0_2 t102 t103 t104 w0 _ ?side1 ?side2 A4.out).mono ?_); (case side1 => exact (isS93 HI0.out)); (case side2 => exact (belS93 HB.out HI0.out)); rintro e w8 ⟨rfl, hi, hb, hk⟩; replace HK := Aside0.mk (KeepBut.trans (kez HK.out) hk (.inl rfl)); replace HB := Aside0.mk (hb); replace HI0 := Aside0.mk (hi); (try clear hb); (try clear hb2); (try clear hk); (try clear hi)) | (go_at_call 167; (with_reducible refine (spec_l1Cur_next.calls g s0_0 t103 t104 t105 t106 t107 w0 _ ?side1 ?side2 A6.out).mono ?_); (case side1 => exact (isS93 HI0.out)); (case side2 => exact (belS93 HB.out HI0.out)); rintro e w9 ⟨rfl, hi, hb, hk⟩; replace HK := Aside0.mk (KeepBut.trans (kez HK.out) hk (.inl rfl)); replace HB := Aside0.mk (hb); replace HI0 := Aside0.mk (hi); (try clear hb); (try clear hb2); (try clear hk); (try clear hi)))
    go_ret
    exact ⟨by first | rfl | simp [*], (isS93 HI0.out), (belS93 HB.out HI0.out), (kez HK.out)⟩
  ·rw [if_neg c5] at H
   have c5b0 := decide_eq_false c5
   clear c5
   by_cases c10 : a1 = 0
   ·rw [if_pos c10] at H
    exact absurd H (by simp)
   ·rw [if_neg c10] at H
    have c10b0 : (a1 == 0) = false := beq_eq_false_iff_ne.mpr c10
    have c10b1 : (a1 != 0) = true := bne_iff_ne.mpr c10
    simp only [Option.some.injEq, Prod.mk.injEq] at H
    obtain ⟨rfl, rfl, rfl⟩ := H
    go_enter Try.func90, Try.ntmps90
    go_wp2_with (first | (go_at_call 167; (with_reducible refine (spec_l1Cur_next.calls g s0_0 s0_1 s0_2 t102 t103 t104 w0 _ ?side1 ?side2 A4.out).mono ?_); (case side1 => exact (isS93 HI0.out)); (case side2 => exact (belS93 HB.out HI0.out)); rintro e w11 ⟨rfl, hi, hb, hk⟩; replace HK := Aside0.mk (KeepBut.trans (kez HK.out) hk (.inl rfl)); replace HB := Aside0.mk (hb); replace HI0 := Aside0.mk (hi); (try clear hb); (try clear hb2); (try clear hk); (try clear hi)))
    go_ret
    exact ⟨by first | rfl | simp [*], (isS93 HI0.out), (belS93 HB.out HI0.out), (kez HK.out)⟩

/-! ### spec_l1Cur_of: function 116 -/
def spec_l1Cur_of.f (s0_0 : List Int) (s0_1 : Int) (s0_2 : Int) (l1 : List ByteArray) : Option (ByteArray × Int × Int) := (spec_l1Cur_pick.f s0_0 s0_1 s0_2 (l1.length : Int)).bind fun bt108 => (if 0 ≤ bt108.1 then (if bt108.1 < (l1.length : Int) then (some (rdOf ByteArray.empty l1 bt108.1, bt108.2.1, bt108.2.2)) else (none)) else (none))
set_option maxHeartbeats 8000000 in
set_option maxRecDepth 100000 in
theorem spec_l1Cur_of.calls (g : Nat) (s0_0 : List Int) (s0_1 : Int) (s0_2 : Int) (A1 : Option Addr) (c1 : Nat) (l1 : List ByteArray) (r1 : ByteArray) (r2 : Int) (r3 : Int) (w0 w : World) (hI : IsS93 w0 w g s0_0 s0_1 s0_2) (hB : Below w0.heap.size w0 w) (hr1 : Kd.C Kd.string w A1 l1.length l1) (hc1 : l1.length ≤ c1) (hf1 : ∀ ad, A1 = some ad → 0 < l1.length → ad.block ≠ g) (h : spec_l1Cur_of.f s0_0 s0_1 s0_2 l1 = some (r1, r2, r3)) :
  Calls Try.prog 116 #[.pointer (some ⟨g, 0, none⟩), .slice A1 l1.length c1] w fun e w' => e = .returned (.string r1) ∧ IsS93 w0 w' g s0_0 r2 r3 ∧ Below w0.heap.size w0 w' ∧ KeepBut w w' g none := by
 have HR1 := Aside0.mk hr1
 have HC1 := Aside0.mk hc1
 clear hr1 hc1
 have HI0 := Aside0.mk hI
 have HK := Aside0.mk (KeepBut.refl w g none)
 have HL := Aside0.mk hB.size
 clear hI
 have HW0 := Aside0.mk hB.size
 have HB := Aside0.mk hB
 clear hB
 have H : ((spec_l1Cur_pick.f s0_0 s0_1 s0_2 (l1.length : Int)).bind fun bt108 => (if 0 ≤ bt108.1 then (if bt108.1 < (l1.length : Int) then (some (rdOf ByteArray.empty l1 bt108.1, bt108.2.1, bt108.2.2)) else (none)) else (none))) = some (r1, r2, r3) := h
 clear h
 replace H := Option.bind_eq_some_iff.mp H
 obtain ⟨⟨t108, t109, t110⟩, A30, H⟩ := H
 have A3 := Aside0.mk A30
 clear A30
 by_cases c4 : 0 ≤ t108
 ·rw [if_pos c4] at H
  have c4b0 := decide_eq_true c4
  clear c4
  by_cases c5 : t108 < (l1.length : Int)
  ·rw [if_pos c5] at H
   have c5b0 := decide_eq_true c5
   clear c5
   simp only [Option.some.injEq, Prod.mk.injEq] at H
   obtain ⟨rfl, rfl, rfl⟩ := H
   go_enter Try.func116, Try.ntmps116
   go_wp2_with (first | (go_at_call 90; (with_reducible refine (spec_l1Cur_pick.calls g s0_0 s0_1 s0_2 (l1.length : Int) t108 t109 t110 w0 _ ?side1 ?side2 A3.out).mono ?_); (case side1 => exact (isS93 HI0.out)); (case side2 => exact (belS93 HB.out HI0.out)); rintro e w6 ⟨rfl, hi, hb, hk⟩; replace HK := Aside0.mk (KeepBut.trans (kez HK.out) hk (.inl rfl)); replace HB := Aside0.mk (hb); replace HI0 := Aside0.mk (hi); (try clear hb); (try clear hb2); (try clear hk); (try clear hi); have p111 : 0 ≤ (t108 : Int) := of_decide_eq_true (by assumption); have q111 : t108 < (l1.length : Int) := of_decide_eq_true (by assumption); obtain ⟨ad111, e111, hx111_0⟩ := Kd.at_string HR1.out t108 p111 q111; cases e111; replace hx111_0 := keep_cell HK.out hx111_0 (by first | (rw [add_block]; exact hf1 _ rfl (by omega)) | exact hf1 _ rfl (by omega) | exact hf1 ad111 rfl (by omega)); replace p111 := eq_true p111; replace q111 := eq_true q111))
   go_ret
   exact ⟨by first | rfl | simp [*], (isS93 HI0.out), (belS93 HB.out HI0.out), (kez HK.out)⟩
  ·rw [if_neg c5] at H
   exact absurd H (by simp)
 ·rw [if_neg c4] at H
  exact absurd H (by simp)

/-! ### spec_l1Cur_among: function 168 -/
def spec_l1Cur_among.f (s0_0 : List Int) (s0_1 : Int) (s0_2 : Int) (l1 : List Int) : Option (Int × Int × Int) := (spec_l1Cur_pick.f s0_0 s0_1 s0_2 (l1.length : Int)).bind fun bt112 => (if 0 ≤ bt112.1 then (if bt112.1 < (l1.length : Int) then (some (rd l1 bt112.1, bt112.2.1, bt112.2.2)) else (none)) else (none))
set_option maxHeartbeats 8000000 in
set_option maxRecDepth 100000 in
theorem spec_l1Cur_among.calls (g : Nat) (s0_0 : List Int) (s0_1 : Int) (s0_2 : Int) (A1 : Option Addr) (c1 : Nat) (l1 : List Int) (r1 : Int) (r2 : Int) (r3 : Int) (w0 w : World) (hI : IsS93 w0 w g s0_0 s0_1 s0_2) (hB : Below w0.heap.size w0 w) (hr1 : Kd.C (Kd.int .i64) w A1 l1.length l1) (hc1 : l1.length ≤ c1) (hf1 : ∀ ad, A1 = some ad → 0 < l1.length → ad.block ≠ g) (h : spec_l1Cur_among.f s0_0 s0_1 s0_2 l1 = some (r1, r2, r3)) :
  Calls Try.prog 168 #[.pointer (some ⟨g, 0, none⟩), .slice A1 l1.length c1] w fun e w' => e = .returned (.int .i64 r1) ∧ IsS93 w0 w' g s0_0 r2 r3 ∧ Below w0.heap.size w0 w' ∧ KeepBut w w' g none := by
 have HR1 := Aside0.mk hr1
 have HC1 := Aside0.mk hc1
 clear hr1 hc1
 have HI0 := Aside0.mk hI
 have HK := Aside0.mk (KeepBut.refl w g none)
 have HL := Aside0.mk hB.size
 clear hI
 have HW0 := Aside0.mk hB.size
 have HB := Aside0.mk hB
 clear hB
 have H : ((spec_l1Cur_pick.f s0_0 s0_1 s0_2 (l1.length : Int)).bind fun bt112 => (if 0 ≤ bt112.1 then (if bt112.1 < (l1.length : Int) then (some (rd l1 bt112.1, bt112.2.1, bt112.2.2)) else (none)) else (none))) = some (r1, r2, r3) := h
 clear h
 replace H := Option.bind_eq_some_iff.mp H
 obtain ⟨⟨t112, t113, t114⟩, A30, H⟩ := H
 have A3 := Aside0.mk A30
 clear A30
 by_cases c4 : 0 ≤ t112
 ·rw [if_pos c4] at H
  have c4b0 := decide_eq_true c4
  clear c4
  by_cases c5 : t112 < (l1.length : Int)
  ·rw [if_pos c5] at H
   have c5b0 := decide_eq_true c5
   clear c5
   simp only [Option.some.injEq, Prod.mk.injEq] at H
   obtain ⟨rfl, rfl, rfl⟩ := H
   go_enter Try.func168, Try.ntmps168
   go_wp2_with (first | (go_at_call 90; (with_reducible refine (spec_l1Cur_pick.calls g s0_0 s0_1 s0_2 (l1.length : Int) t112 t113 t114 w0 _ ?side1 ?side2 A3.out).mono ?_); (case side1 => exact (isS93 HI0.out)); (case side2 => exact (belS93 HB.out HI0.out)); rintro e w6 ⟨rfl, hi, hb, hk⟩; replace HK := Aside0.mk (KeepBut.trans (kez HK.out) hk (.inl rfl)); replace HB := Aside0.mk (hb); replace HI0 := Aside0.mk (hi); (try clear hb); (try clear hb2); (try clear hk); (try clear hi); have p115 : 0 ≤ (t112 : Int) := of_decide_eq_true (by assumption); have q115 : t112 < (l1.length : Int) := of_decide_eq_true (by assumption); obtain ⟨ad115, e115, hx115_0⟩ := Kd.at_int HR1.out t112 p115 q115; cases e115; replace hx115_0 := keep_cell HK.out hx115_0 (by first | (rw [add_block]; exact hf1 _ rfl (by omega)) | exact hf1 _ rfl (by omega) | exact hf1 ad115 rfl (by omega)); replace p115 := eq_true p115; replace q115 := eq_true q115))
   go_ret
   exact ⟨by first | rfl | simp [*], (isS93 HI0.out), (belS93 HB.out HI0.out), (kez HK.out)⟩
  ·rw [if_neg c5] at H
   exact absurd H (by simp)
 ·rw [if_neg c4] at H
  exact absurd H (by simp)

/-! ### spec_l1Cur_frame: function 107 -/
def spec_l1Cur_frame.f (s0_0 : List Int) (s0_1 : Int) (s0_2 : Int) : Option (Int × Int × Int × ByteArray × Int × Int) := (spec_l1Cur_pick.f s0_0 s0_1 s0_2 3).bind fun bt117 => ((spec_l1Cur_pick.f s0_0 bt117.2.1 bt117.2.2 9).bind fun bt120 => ((spec_l1Cur_pick.f s0_0 bt120.2.1 bt120.2.2 5).bind fun bt123 => ((spec_l1Cur_of.f s0_0 bt123.2.1 bt123.2.2 (([(⟨#[]⟩ : ByteArray), (⟨#[97]⟩ : ByteArray), (⟨#[98, 111, 100, 121]⟩ : ByteArray), (⟨#[115, 105, 120, 116, 101, 101, 110, 32, 98, 121, 116, 101, 115, 32, 46, 46]⟩ : ByteArray), (⟨#[0, 0]⟩ : ByteArray)] : List ByteArray))).bind fun bt129 => ((spec_l1Cur_pick.f s0_0 bt129.2.1 bt129.2.2 30).bind fun bt133 => (if bt133.1 = 0 then ((spec_l1Cur_among.f s0_0 bt133.2.1 bt133.2.2 (([0, 255, 256] : List Int))).bind fun bt139 => (some (bt139.1, bt120.1, bt123.1, bt129.1, bt139.2.1, bt139.2.2))) else (if bt133.1 = 1 then ((spec_l1Cur_among.f s0_0 bt133.2.1 bt133.2.2 (([(-1), 60000, 60001] : List Int))).bind fun bt145 => (some (wrap64 (1 + bt117.1), bt145.1, bt123.1, bt129.1, bt145.2.1, bt145.2.2))) else (if bt133.1 = 2 then (some (wrap64 (1 + bt117.1), bt120.1, bt123.1, (⟨#[115, 101, 118, 101, 110, 116, 101, 101, 110, 32, 98, 121, 116, 101, 115, 32, 46, 46]⟩ : ByteArray), bt133.2.1, bt133.2.2)) else (some (wrap64 (1 + bt117.1), bt120.1, bt123.1, bt129.1, bt133.2.1, bt133.2.2)))))))))
set_option maxHeartbeats 8000000 in
set_option maxRecDepth 100000 in
theorem spec_l1Cur_frame.calls (g : Nat) (s0_0 : List Int) (s0_1 : Int) (s0_2 : Int) (r1 : Int) (r2 : Int) (r3 : Int) (r4 : ByteArray) (r5 : Int) (r6 : Int) (w0 w : World) (hI : IsS93 w0 w g s0_0 s0_1 s0_2) (hB : Below w0.heap.size w0 w) (h : spec_l1Cur_frame.f s0_0 s0_1 s0_2 = some (r1, r2, r3, r4, r5, r6)) :
  Calls Try.prog 107 #[.pointer (some ⟨g, 0, none⟩)] w fun e w' => e = .returned (.agg #[.int .i64 r1, .int .i64 r2, .int .i64 r3, .string r4]) ∧ IsS93 w0 w' g s0_0 r5 r6 ∧ Below w0.heap.size w0 w' ∧ KeepBut w w' g none := by
 have hu102 := Try.underlying102
 have HI0 := Aside0.mk hI
 have HK := Aside0.mk (KeepBut.refl w g none)
 have HL := Aside0.mk hB.size
 clear hI
 have HW0 := Aside0.mk hB.size
 have HB := Aside0.mk hB
 clear hB
 have H : ((spec_l1Cur_pick.f s0_0 s0_1 s0_2 3).bind fun bt117 => ((spec_l1Cur_pick.f s0_0 bt117.2.1 bt117.2.2 9).bind fun bt120 => ((spec_l1Cur_pick.f s0_0 bt120.2.1 bt120.2.2 5).bind fun bt123 => ((spec_l1Cur_of.f s0_0 bt123.2.1 bt123.2.2 (([(⟨#[]⟩ : ByteArray), (⟨#[97]⟩ : ByteArray), (⟨#[98, 111, 100, 121]⟩ : ByteArray), (⟨#[115, 105, 120, 116, 101, 101, 110, 32, 98, 121, 116, 101, 115, 32, 46, 46]⟩ : ByteArray), (⟨#[0, 0]⟩ : ByteArray)] : List ByteArray))).bind fun bt129 => ((spec_l1Cur_pick.f s0_0 bt129.2.1 bt129.2.2 30).bind fun bt133 => (if bt133.1 = 0 then ((spec_l1Cur_among.f s0_0 bt133.2.1 bt133.2.2 (([0, 255, 256] : List Int))).bind fun bt139 => (some (bt139.1, bt120.1, bt123.1, bt129.1, bt139.2.1, bt139.2.2))) else (if bt133.1 = 1 then ((spec_l1Cur_among.f s0_0 bt133.2.1 bt133.2.2 (([(-1), 60000, 60001] : List Int))).bind fun bt145 => (some (wrap64 (1 + bt117.1), bt145.1, bt123.1, bt129.1, bt145.2.1, bt145.2.2))) else (if bt133.1 = 2 then (some (wrap64 (1 + bt117.1), bt120.1, bt123.1, (⟨#[115, 101, 118, 101, 110, 116, 101, 101, 110, 32, 98, 121, 116, 101, 115, 32, 46, 46]⟩ : ByteArray), bt133.2.1, bt133.2.2)) else (some (wrap64 (1 + bt117.1), bt120.1, bt123.1, bt129.1, bt133.2.1, bt133.2.2)))))))))) = some (r1, r2, r3, r4, r5, r6) := h
 clear h
 replace H := Option.bind_eq_some_iff.mp H
 obtain ⟨⟨t117, t118, t119⟩, A20, H⟩ := H
 have A2 := Aside0.mk A20
 clear A20
 replace H := Option.bind_eq_some_iff.mp H
 obtain ⟨⟨t120, t121, t122⟩, A30, H⟩ := H
 have A3 := Aside0.mk A30
 clear A30
 replace H := Option.bind_eq_some_iff.mp H
 obtain ⟨⟨t123, t124, t125⟩, A40, H⟩ := H
 have A4 := Aside0.mk A40
 clear A40
 obtain ⟨y126, hy126⟩ : ∃ y_ : List ByteArray, y_ = (([(⟨#[]⟩ : ByteArray), (⟨#[97]⟩ : ByteArray), (⟨#[98, 111, 100, 121]⟩ : ByteArray), (⟨#[115, 105, 120, 116, 101, 101, 110, 32, 98, 121, 116, 101, 115, 32, 46, 46]⟩ : ByteArray), (⟨#[0, 0]⟩ : ByteArray)] : List ByteArray)) := ⟨_, rfl⟩
 replace H : ((spec_l1Cur_of.f s0_0 t124 t125 y126).bind fun bt129 => ((spec_l1Cur_pick.f s0_0 bt129.2.1 bt129.2.2 30).bind fun bt133 => (if bt133.1 = 0 then ((spec_l1Cur_among.f s0_0 bt133.2.1 bt133.2.2 (([0, 255, 256] : List Int))).bind fun bt139 => (some (bt139.1, t120, t123, bt129.1, bt139.2.1, bt139.2.2))) else (if bt133.1 = 1 then ((spec_l1Cur_among.f s0_0 bt133.2.1 bt133.2.2 (([(-1), 60000, 60001] : List Int))).bind fun bt145 => (some (wrap64 (1 + t117), bt145.1, t123, bt129.1, bt145.2.1, bt145.2.2))) else (if bt133.1 = 2 then (some (wrap64 (1 + t117), t120, t123, (⟨#[115, 101, 118, 101, 110, 116, 101, 101, 110, 32, 98, 121, 116, 101, 115, 32, 46, 46]⟩ : ByteArray), bt133.2.1, bt133.2.2)) else (some (wrap64 (1 + t117), t120, t123, bt129.1, bt133.2.1, bt133.2.2))))))) = some (r1, r2, r3, r4, r5, r6) := by first | (rw [hy126]; with_reducible exact H) | (have H2_ := (Option.bind_some _ _).symm.trans H; rw [hy126]; with_reducible exact H2_) | (have H2_ := (Option.bind_some _ _).symm.trans H; with_reducible exact H2_) | with_reducible exact H | (rw [hy126]; exact H) | exact H
 have Ny126 := Aside0.mk hy126
 clear hy126
 replace H := Option.bind_eq_some_iff.mp H
 obtain ⟨⟨t129, t130, t131⟩, A50, H⟩ := H
 have A5 := Aside0.mk A50
 clear A50
 replace H := Option.bind_eq_some_iff.mp H
 obtain ⟨⟨t133, t134, t135⟩, A60, H⟩ := H
 have A6 := Aside0.mk A60
 clear A60
 by_cases c7 : t133 = 0
 ·rw [if_pos c7] at H
  have c7b0 : (t133 == 0) = true := beq_iff_eq.mpr c7
  have c7b1 : (t133 != 0) = false := bne_eq_false_iff_eq.mpr c7
  clear c7
  obtain ⟨y136, hy136⟩ : ∃ y_ : List Int, y_ = (([0, 255, 256] : List Int)) := ⟨_, rfl⟩
  replace H : ((spec_l1Cur_among.f s0_0 t134 t135 y136).bind fun bt139 => (some (bt139.1, t120, t123, t129, bt139.2.1, bt139.2.2))) = some (r1, r2, r3, r4, r5, r6) := by first | (rw [hy136]; with_reducible exact H) | (have H2_ := (Option.bind_some _ _).symm.trans H; rw [hy136]; with_reducible exact H2_) | (have H2_ := (Option.bind_some _ _).symm.trans H; with_reducible exact H2_) | with_reducible exact H | (rw [hy136]; exact H) | exact H
  have Ny136 := Aside0.mk hy136
  clear hy136
  replace H := Option.bind_eq_some_iff.mp H
  obtain ⟨⟨t139, t140, t141⟩, A80, H⟩ := H
  have A8 := Aside0.mk A80
  clear A80
  simp only [Option.some.injEq, Prod.mk.injEq] at H
  obtain ⟨rfl, rfl, rfl, rfl, rfl, rfl⟩ := H
  go_enter Try.func107, Try.ntmps107
  go_wp2_with (first | ((with_reducible refine gate_dst (N := 2) rfl ?_); refine boxE 2 #[.int .i64 0, .int .i64 0, .int .i64 0, .string (⟨#[]⟩ : ByteArray)] 102 ?_; intro gb116 hg w9 hbox hb; replace HB := Aside0.mk (below_step (belS93 HB.out HI0.out) hb); have BK116 := Aside0.mk (hbox); have GW116 := Aside0.mk ((by rw [hg]; exact (keep_size (w := w) (g := g) (row := none) (kez HK.out)) : w.heap.size ≤ gb116)); have GE116 := Aside0.mk ((Nat.le_trans HW0.out (by rw [hg]; exact (keep_size (w := w) (g := g) (row := none) (kez HK.out)) : w.heap.size ≤ gb116) : w0.heap.size ≤ gb116)); replace HK := Aside0.mk (KeepBut.trans (kez HK.out) (KeepBut.of_below hb g none) (.inl rfl)); have NB0_116 := Aside0.mk ((by rw [hg]; exact Nat.ne_of_lt (IsS93.lt (show IsS93 w0 _ g s0_0 s0_1 s0_2 from (isS93 HI0.out))) : g ≠ gb116)); have NB116_0 := Aside0.mk ((by rw [hg]; exact Nat.ne_of_gt (IsS93.lt (show IsS93 w0 _ g s0_0 s0_1 s0_2 from (isS93 HI0.out))) : gb116 ≠ g)); replace HI0 := Aside0.mk (IsS93.below (isS93 HI0.out) hb); clear hb hbox hg) | (go_at_call 90; (with_reducible refine (spec_l1Cur_pick.calls g s0_0 s0_1 s0_2 3 t117 t118 t119 w0 _ ?side1 ?side2 A2.out).mono ?_); (case side1 => exact (isT93 HI0.out)); (case side2 => exact (belT93 HB.out HI0.out)); rintro e w10 ⟨rfl, hi, hb, hk⟩; replace BK116 := Aside0.mk (KeepBut.blk hk (g' := gb116) (o := .cells #[.int .i64 0, .int .i64 0, .int .i64 0, .string (⟨#[]⟩ : ByteArray)] 102 (0, 0)) (blkd BK116.out) NB116_0.out (by simp)); replace HK := Aside0.mk (KeepBut.trans (kep HK.out) hk (.inl rfl)); replace HB := Aside0.mk (hb); replace HI0 := Aside0.mk (hi); (try clear hb); (try clear hb2); (try clear hk); (try clear hi)) | (go_at_call 90; (with_reducible refine (spec_l1Cur_pick.calls g s0_0 t118 t119 9 t120 t121 t122 w0 _ ?side1 ?side2 A3.out).mono ?_); (case side1 => exact (isT93 HI0.out)); (case side2 => exact (belT93 HB.out HI0.out)); rintro e w11 ⟨rfl, hi, hb, hk⟩; replace BK116 := Aside0.mk (KeepBut.blk hk (g' := gb116) (o := .cells #[.int .i64 0, .int .i64 0, .int .i64 0, .string (⟨#[]⟩ : ByteArray)] 102 (0, 0)) (blkd BK116.out) NB116_0.out (by simp)); replace HK := Aside0.mk (KeepBut.trans (kep HK.out) hk (.inl rfl)); replace HB := Aside0.mk (hb); replace HI0 := Aside0.mk (hi); (try clear hb); (try clear hb2); (try clear hk); (try clear hi)) | (go_at_call 90; (with_reducible refine (spec_l1Cur_pick.calls g s0_0 t121 t122 5 t123 t124 t125 w0 _ ?side1 ?side2 A4.out).mono ?_); (case side1 => exact (isT93 HI0.out)); (case side2 => exact (belT93 HB.out HI0.out)); rintro e w12 ⟨rfl, hi, hb, hk⟩; replace BK116 := Aside0.mk (KeepBut.blk hk (g' := gb116) (o := .cells #[.int .i64 0, .int .i64 0, .int .i64 0, .string (⟨#[]⟩ : ByteArray)] 102 (0, 0)) (blkd BK116.out) NB116_0.out (by simp)); replace HK := Aside0.mk (KeepBut.trans (kep HK.out) hk (.inl rfl)); replace HB := Aside0.mk (hb); replace HI0 := Aside0.mk (hi); (try clear hb); (try clear hb2); (try clear hk); (try clear hi)) | ((with_reducible refine gate_dst (N := 12) rfl ?_); refine Kd.R_lit Kd.string _ 9 ?hg (N := 12) ?hd (xs := ([(⟨#[]⟩ : ByteArray), (⟨#[97]⟩ : ByteArray), (⟨#[98, 111, 100, 121]⟩ : ByteArray), (⟨#[115, 105, 120, 116, 101, 101, 110, 32, 98, 121, 116, 101, 115, 32, 46, 46]⟩ : ByteArray), (⟨#[0, 0]⟩ : ByteArray)] : List ByteArray)) (inner := [.string (⟨#[]⟩ : ByteArray), .string (⟨#[97]⟩ : ByteArray), .string (⟨#[98, 111, 100, 121]⟩ : ByteArray), .string (⟨#[115, 105, 120, 116, 101, 101, 110, 32, 98, 121, 116, 101, 115, 32, 46, 46]⟩ : ByteArray), .string (⟨#[0, 0]⟩ : ByteArray)]) (ok := fun _ => True) (okp := fun _ => True) ?hr ?hp (fun _ hk => hk) trivial (Below.refl _ _) (Nat.le_refl _) (by simp) ?_; (case hd => rfl); (case hg => rfl); (case hr => first | (go_simp; done) | (go_simp; rfl)); (case hp => exact (Reps.one (show Kd.M Kd.string _ _ _ (⟨#[]⟩ : ByteArray) [.string (⟨#[]⟩ : ByteArray)] from rfl) (Reps.one (show Kd.M Kd.string _ _ _ (⟨#[97]⟩ : ByteArray) [.string (⟨#[97]⟩ : ByteArray)] from rfl) (Reps.one (show Kd.M Kd.string _ _ _ (⟨#[98, 111, 100, 121]⟩ : ByteArray) [.string (⟨#[98, 111, 100, 121]⟩ : ByteArray)] from rfl) (Reps.one (show Kd.M Kd.string _ _ _ (⟨#[115, 105, 120, 116, 101, 101, 110, 32, 98, 121, 116, 101, 115, 32, 46, 46]⟩ : ByteArray) [.string (⟨#[115, 105, 120, 116, 101, 101, 110, 32, 98, 121, 116, 101, 115, 32, 46, 46]⟩ : ByteArray)] from rfl) (Reps.one (show Kd.M Kd.string _ _ _ (⟨#[0, 0]⟩ : ByteArray) [.string (⟨#[0, 0]⟩ : ByteArray)] from rfl) (Reps.none _ _))))))); intro v127 w13 ho14 hb hg_ hnew_; clear hg_ hnew_; (first | rw [← Ny126.out] at ho14 | (simp only [Int.reduceToNat] at ho14; rw [← Ny126.out] at ho14)); have HO128 := Aside0.mk (Kd.R_lower ho14 (keep_size (w := w) (g := g) (row := none) (kep HK.out))); replace BK116 := Aside0.mk (blk_below (g := gb116) (o := .cells #[.int .i64 0, .int .i64 0, .int .i64 0, .string (⟨#[]⟩ : ByteArray)] 102 (0, 0)) (blkd BK116.out) hb); replace HK := Aside0.mk (KeepBut.trans (kep HK.out) (KeepBut.of_below hb g none) (.inl rfl)); replace HB := Aside0.mk (below_step (belT93 HB.out HI0.out) hb); replace HI0 := Aside0.mk (IsS93.below (isT93 HI0.out) hb); clear hb ho14; obtain ⟨Ao15, co15, eo15⟩ := Kd.R_slice HO128.out; subst eo15) | (go_at_call 116; (with_reducible refine (spec_l1Cur_of.calls g s0_0 t124 t125 _ _ y126 t129 t130 t131 w0 _ ?side1 ?side2 ?side3 ?side4 ?side5 A5.out).mono ?_); (case side1 => exact (isT93 HI0.out)); (case side2 => exact (belT93 HB.out HI0.out)); (case side3 => repeat (first | exact (Kd.R_reads' HO128.out).2.2 | (with_reducible refine Kd.C_alloc ?_ _) | (with_reducible refine Kd.C_drewN ?_ _) | (with_reducible refine Kd.C_drew ?_))); (case side4 => exact (Kd.R_reads' HO128.out).2.1); (case side5 => exact far_slice (IsS93.own_ne HI0.out HO128.out (by decide))); rintro e w16 ⟨rfl, hi, hb, hk⟩; replace BK116 := Aside0.mk (KeepBut.blk hk (g' := gb116) (o := .cells #[.int .i64 0, .int .i64 0, .int .i64 0, .string (⟨#[]⟩ : ByteArray)] 102 (0, 0)) (blkd BK116.out) NB116_0.out (by simp)); replace HO128 := Aside0.mk (Kd.R_mono (Kd.R_keep (IsS93.apart (show IsS93 w0 _ g s0_0 t124 t125 from (isT93 HI0.out)) (kdr HO128.out) (by decide)) hk (fun _ h => h.2)) (fun _ h => h.1)); replace HK := Aside0.mk (KeepBut.trans (kep HK.out) hk (.inl rfl)); replace HB := Aside0.mk (hb); replace HI0 := Aside0.mk (hi); (try clear hb); (try clear hb2); (try clear hk); (try clear hi)) | ((with_reducible refine gate_dst (N := 3) rfl ?_); refine boxE 3 #[.int .i64 0, .int .i64 0, .int .i64 0, .string (⟨#[]⟩ : ByteArray)] 102 ?_; intro gb132 hg w17 hbox hb; have n0_ := Aside0.mk (Kd.R_below (kdr HO128.out) hb); have n1_ := Aside0.mk (IsS93.below (isT93 HI0.out) hb); have n2_ := Aside0.mk (blk_below (g := gb116) (o := .cells #[.int .i64 0, .int .i64 0, .int .i64 0, .string (⟨#[]⟩ : ByteArray)] 102 (0, 0)) (blkd BK116.out) hb); have n3_ := Aside0.mk (KeepBut.trans (kep HK.out) (KeepBut.of_below hb g none) (.inl rfl)); have n4_ := Aside0.mk (below_step (belT93 HB.out HI0.out) hb); have n5_ := Aside0.mk (hbox); have n6_ := Aside0.mk ((by rw [hg]; exact (keep_size (w := w) (g := g) (row := none) (kep HK.out)) : w.heap.size ≤ gb132)); have n7_ := Aside0.mk ((Nat.le_trans HW0.out (by rw [hg]; exact (keep_size (w := w) (g := g) (row := none) (kep HK.out)) : w.heap.size ≤ gb132) : w0.heap.size ≤ gb132)); have n8_ := Aside0.mk ((by rw [hg]; exact Nat.ne_of_lt (blk_lt (g := gb116) (o := .cells #[.int .i64 0, .int .i64 0, .int .i64 0, .string (⟨#[]⟩ : ByteArray)] 102 (0, 0)) (blkd BK116.out)) : gb116 ≠ gb132)); have n9_ := Aside0.mk ((by rw [hg]; exact Nat.ne_of_gt (blk_lt (g := gb116) (o := .cells #[.int .i64 0, .int .i64 0, .int .i64 0, .string (⟨#[]⟩ : ByteArray)] 102 (0, 0)) (blkd BK116.out)) : gb132 ≠ gb116)); have n10_ := Aside0.mk ((by rw [hg]; exact Nat.ne_of_lt (IsS93.lt (show IsS93 w0 _ g s0_0 t130 t131 from (isT93 HI0.out))) : g ≠ gb132)); have n11_ := Aside0.mk ((by rw [hg]; exact Nat.ne_of_gt (IsS93.lt (show IsS93 w0 _ g s0_0 t130 t131 from (isT93 HI0.out))) : gb132 ≠ g)); clear HO128; clear HI0; clear BK116; clear HK; clear HB; have HO128 := n0_; have HI0 := n1_; have BK116 := n2_; have HK := n3_; have HB := n4_; have BK132 := n5_; have GW132 := n6_; have GE132 := n7_; have NB116_132 := n8_; have NB132_116 := n9_; have NB0_132 := n10_; have NB132_0 := n11_; clear n0_ n1_ n2_ n3_ n4_ n5_ n6_ n7_ n8_ n9_ n10_ n11_; clear hb hbox hg; have hnb18 := NB132_116.out; have hnc18 := NB116_132.out; have hnb19 := NB132_0.out; have hnc19 := NB0_132.out; obtain ⟨⟨hcz20_0, hcz20_1, hcz20_2, hcz20_3⟩, hfz20_0, hfz20_1, hfz20_2, hfz20_3⟩ := blk4 BK132.out) | (go_at_call 90; (with_reducible refine (spec_l1Cur_pick.calls g s0_0 t130 t131 30 t133 t134 t135 w0 _ ?side1 ?side2 A6.out).mono ?_); (case side1 => exact (isT93 HI0.out)); (case side2 => exact (belT93 HB.out HI0.out)); rintro e w21 ⟨rfl, hi, hb, hk⟩; replace BK116 := Aside0.mk (KeepBut.blk hk (g' := gb116) (o := .cells #[.int .i64 0, .int .i64 0, .int .i64 0, .string (⟨#[]⟩ : ByteArray)] 102 (0, 0)) (blkp BK116.out) NB116_0.out (by simp)); replace HO128 := Aside0.mk (Kd.R_mono (Kd.R_keep (IsS93.apart (show IsS93 w0 _ g s0_0 t130 t131 from (isT93 HI0.out)) (by (with_reducible repeat (first | apply Kd.R_alloc | apply Kd.R_drewN | apply Kd.R_drew)); exact (Kd.R_mono (Kd.R_far (p := ⟨gb132, 3, none⟩) (Kd.R_far (p := ⟨gb132, 2, none⟩) (Kd.R_far (p := ⟨gb132, 1, none⟩) (Kd.R_far (p := ⟨gb132, 0, none⟩) (Kd.R_types HO128.out BK132.out (by decide)) (fun _ hk => hk.2) (.int .i64 (wrap64 (1 + t117)))) (fun _ hk => hk.2) (.int .i64 t120)) (fun _ hk => hk.2) (.int .i64 t123)) (fun _ hk => hk.2) (.string t129)) (fun _ h_ => h_.1))) (by decide)) hk (fun _ h => h.2)) (fun _ h => h.1)); replace BK132 := Aside0.mk (KeepBut.blk hk (g' := gb132) (o := .cells #[.int .i64 (wrap64 (1 + t117)), .int .i64 t120, .int .i64 t123, .string t129] 102 (0, 0)) (blkp BK132.out) NB132_0.out (by simp)); replace HK := Aside0.mk (KeepBut.trans (kep HK.out) hk (.inl rfl)); replace HB := Aside0.mk (hb); replace HI0 := Aside0.mk (hi); (try clear hb); (try clear hb2); (try clear hk); (try clear hi)) | ((with_reducible refine gate_dst (N := 20) rfl ?_); refine Kd.R_lit (Kd.int .i64) _ 3 ?hg (N := 20) ?hd (xs := ([0, 255, 256] : List Int)) (inner := [.int .i64 0, .int .i64 255, .int .i64 256]) (ok := fun _ => True) (okp := fun _ => True) ?hr ?hp (fun _ hk => hk) trivial (Below.refl _ _) (Nat.le_refl _) (by simp) ?_; (case hd => rfl); (case hg => rfl); (case hr => first | (go_simp; done) | (go_simp; rfl)); (case hp => exact (Reps.one (show Kd.M (Kd.int .i64) _ _ _ 0 [.int .i64 0] from rfl) (Reps.one (show Kd.M (Kd.int .i64) _ _ _ 255 [.int .i64 255] from rfl) (Reps.one (show Kd.M (Kd.int .i64) _ _ _ 256 [.int .i64 256] from rfl) (Reps.none _ _))))); intro v137 w22 ho23 hb hg_ hnew_; clear hg_ hnew_; (first | rw [← Ny136.out] at ho23 | (simp only [Int.reduceToNat] at ho23; rw [← Ny136.out] at ho23)); replace HO128 := Aside0.mk (Kd.R_below (kdr HO128.out) hb); have HO138 := Aside0.mk (Kd.R_lower ho23 (keep_size (w := w) (g := g) (row := none) (kep HK.out))); replace BK116 := Aside0.mk (blk_below (g := gb116) (o := .cells #[.int .i64 0, .int .i64 0, .int .i64 0, .string (⟨#[]⟩ : ByteArray)] 102 (0, 0)) (blkd BK116.out) hb); replace BK132 := Aside0.mk (blk_below (g := gb132) (o := .cells #[.int .i64 (wrap64 (1 + t117)), .int .i64 t120, .int .i64 t123, .string t129] 102 (0, 0)) (blkd BK132.out) hb); replace HK := Aside0.mk (KeepBut.trans (kep HK.out) (KeepBut.of_below hb g none) (.inl rfl)); replace HB := Aside0.mk (below_step (belT93 HB.out HI0.out) hb); replace HI0 := Aside0.mk (IsS93.below (isT93 HI0.out) hb); clear hb ho23; obtain ⟨Ao24, co24, eo24⟩ := Kd.R_slice HO138.out; subst eo24) | (go_at_call 168; (with_reducible refine (spec_l1Cur_among.calls g s0_0 t134 t135 _ _ y136 t139 t140 t141 w0 _ ?side1 ?side2 ?side3 ?side4 ?side5 A8.out).mono ?_); (case side1 => exact (isT93 HI0.out)); (case side2 => exact (belT93 HB.out HI0.out)); (case side3 => repeat (first | exact (Kd.R_reads' HO138.out).2.2 | (with_reducible refine Kd.C_alloc ?_ _) | (with_reducible refine Kd.C_drewN ?_ _) | (with_reducible refine Kd.C_drew ?_))); (case side4 => exact (Kd.R_reads' HO138.out).2.1); (case side5 => exact far_slice (IsS93.own_ne HI0.out HO138.out (by decide))); rintro e w25 ⟨rfl, hi, hb, hk⟩; replace BK116 := Aside0.mk (KeepBut.blk hk (g' := gb116) (o := .cells #[.int .i64 0, .int .i64 0, .int .i64 0, .string (⟨#[]⟩ : ByteArray)] 102 (0, 0)) (blkd BK116.out) NB116_0.out (by simp)); replace HO128 := Aside0.mk (Kd.R_mono (Kd.R_keep (IsS93.apart (show IsS93 w0 _ g s0_0 t134 t135 from (isT93 HI0.out)) (kdr HO128.out) (by decide)) hk (fun _ h => h.2)) (fun _ h => h.1)); replace BK132 := Aside0.mk (KeepBut.blk hk (g' := gb132) (o := .cells #[.int .i64 (wrap64 (1 + t117)), .int .i64 t120, .int .i64 t123, .string t129] 102 (0, 0)) (blkd BK132.out) NB132_0.out (by simp)); replace HO138 := Aside0.mk (Kd.R_mono (Kd.R_keep (IsS93.apart (show IsS93 w0 _ g s0_0 t134 t135 from (isT93 HI0.out)) (kdr HO138.out) (by decide)) hk (fun _ h => h.2)) (fun _ h => h.1)); replace HK := Aside0.mk (KeepBut.trans (kep HK.out) hk (.inl rfl)); replace HB := Aside0.mk (hb); replace HI0 := Aside0.mk (hi); (try clear hb); (try clear hb2); (try clear hk); (try clear hi); obtain ⟨⟨hcz26_0, hcz26_1, hcz26_2, hcz26_3⟩, hfz26_0, hfz26_1, hfz26_2, hfz26_3⟩ := blk4 BK132.out; have hnb27 := NB116_0.out; have hnc27 := NB0_116.out; obtain ⟨⟨hcz28_0, hcz28_1, hcz28_2, hcz28_3⟩, hfz28_0, hfz28_1, hfz28_2, hfz28_3⟩ := blk4 BK116.out))
  refine bodyPost_ret (results_cell_row rfl _ _ gb116 102 #[.int .i64 t139, .int .i64 t120, .int .i64 t123, .string t129] (0, 0) _ rfl (blkp BK116.out) Try.underlying102 rfl (by kernel_rfl)) rfl ?_
  exact ⟨by first | rfl | simp [*], (isT93 HI0.out), (belT93 HB.out HI0.out), (kep HK.out)⟩
 ·rw [if_neg c7] at H
  have c7b0 : (t133 == 0) = false := beq_eq_false_iff_ne.mpr c7
  have c7b1 : (t133 != 0) = true := bne_iff_ne.mpr c7
  by_cases c29 : t133 = 1
  ·rw [if_pos c29] at H
   have c29b0 : (t133 == 1) = true := beq_iff_eq.mpr c29
   have c29b1 : (t133 != 1) = false := bne_eq_false_iff_eq.mpr c29
   clear c29
   obtain ⟨y142, hy142⟩ : ∃ y_ : List Int, y_ = (([(-1), 60000, 60001] : List Int)) := ⟨_, rfl⟩
   replace H : ((spec_l1Cur_among.f s0_0 t134 t135 y142).bind fun bt145 => (some (wrap64 (1 + t117), bt145.1, t123, t129, bt145.2.1, bt145.2.2))) = some (r1, r2, r3, r4, r5, r6) := by first | (rw [hy142]; with_reducible exact H) | (have H2_ := (Option.bind_some _ _).symm.trans H; rw [hy142]; with_reducible exact H2_) | (have H2_ := (Option.bind_some _ _).symm.trans H; with_reducible exact H2_) | with_reducible exact H | (rw [hy142]; exact H) | exact H
   have Ny142 := Aside0.mk hy142
   clear hy142
   replace H := Option.bind_eq_some_iff.mp H
   obtain ⟨⟨t145, t146, t147⟩, A300, H⟩ := H
   have A30 := Aside0.mk A300
   clear A300
   simp only [Option.some.injEq, Prod.mk.injEq] at H
   obtain ⟨rfl, rfl, rfl, rfl, rfl, rfl⟩ := H
   go_enter Try.func107, Try.ntmps107
   go_wp2_with (first | ((with_reducible refine gate_dst (N := 2) rfl ?_); refine boxE 2 #[.int .i64 0, .int .i64 0, .int .i64 0, .string (⟨#[]⟩ : ByteArray)] 102 ?_; intro gb116 hg w31 hbox hb; replace HB := Aside0.mk (below_step (belS93 HB.out HI0.out) hb); have BK116 := Aside0.mk (hbox); have GW116 := Aside0.mk ((by rw [hg]; exact (keep_size (w := w) (g := g) (row := none) (kez HK.out)) : w.heap.size ≤ gb116)); have GE116 := Aside0.mk ((Nat.le_trans HW0.out (by rw [hg]; exact (keep_size (w := w) (g := g) (row := none) (kez HK.out)) : w.heap.size ≤ gb116) : w0.heap.size ≤ gb116)); replace HK := Aside0.mk (KeepBut.trans (kez HK.out) (KeepBut.of_below hb g none) (.inl rfl)); have NB0_116 := Aside0.mk ((by rw [hg]; exact Nat.ne_of_lt (IsS93.lt (show IsS93 w0 _ g s0_0 s0_1 s0_2 from (isS93 HI0.out))) : g ≠ gb116)); have NB116_0 := Aside0.mk ((by rw [hg]; exact Nat.ne_of_gt (IsS93.lt (show IsS93 w0 _ g s0_0 s0_1 s0_2 from (isS93 HI0.out))) : gb116 ≠ g)); replace HI0 := Aside0.mk (IsS93.below (isS93 HI0.out) hb); clear hb hbox hg) | (go_at_call 90; (with_reducible refine (spec_l1Cur_pick.calls g s0_0 s0_1 s0_2 3 t117 t118 t119 w0 _ ?side1 ?side2 A2.out).mono ?_); (case side1 => exact (isT93 HI0.out)); (case side2 => exact (belT93 HB.out HI0.out)); rintro e w32 ⟨rfl, hi, hb, hk⟩; replace BK116 := Aside0.mk (KeepBut.blk hk (g' := gb116) (o := .cells #[.int .i64 0, .int .i64 0, .int .i64 0, .string (⟨#[]⟩ : ByteArray)] 102 (0, 0)) (blkd BK116.out) NB116_0.out (by simp)); replace HK := Aside0.mk (KeepBut.trans (kep HK.out) hk (.inl rfl)); replace HB := Aside0.mk (hb); replace HI0 := Aside0.mk (hi); (try clear hb); (try clear hb2); (try clear hk); (try clear hi)) | (go_at_call 90; (with_reducible refine (spec_l1Cur_pick.calls g s0_0 t118 t119 9 t120 t121 t122 w0 _ ?side1 ?side2 A3.out).mono ?_); (case side1 => exact (isT93 HI0.out)); (case side2 => exact (belT93 HB.out HI0.out)); rintro e w33 ⟨rfl, hi, hb, hk⟩; replace BK116 := Aside0.mk (KeepBut.blk hk (g' := gb116) (o := .cells #[.int .i64 0, .int .i64 0, .int .i64 0, .string (⟨#[]⟩ : ByteArray)] 102 (0, 0)) (blkd BK116.out) NB116_0.out (by simp)); replace HK := Aside0.mk (KeepBut.trans (kep HK.out) hk (.inl rfl)); replace HB := Aside0.mk (hb); replace HI0 := Aside0.mk (hi); (try clear hb); (try clear hb2); (try clear hk); (try clear hi)) | (go_at_call 90; (with_reducible refine (spec_l1Cur_pick.calls g s0_0 t121 t122 5 t123 t124 t125 w0 _ ?side1 ?side2 A4.out).mono ?_); (case side1 => exact (isT93 HI0.out)); (case side2 => exact (belT93 HB.out HI0.out)); rintro e w34 ⟨rfl, hi, hb, hk⟩; replace BK116 := Aside0.mk (KeepBut.blk hk (g' := gb116) (o := .cells #[.int .i64 0, .int .i64 0, .int .i64 0, .string (⟨#[]⟩ : ByteArray)] 102 (0, 0)) (blkd BK116.out) NB116_0.out (by simp)); replace HK := Aside0.mk (KeepBut.trans (kep HK.out) hk (.inl rfl)); replace HB := Aside0.mk (hb); replace HI0 := Aside0.mk (hi); (try clear hb); (try clear hb2); (try clear hk); (try clear hi)) | ((with_reducible refine gate_dst (N := 12) rfl ?_); refine Kd.R_lit Kd.string _ 9 ?hg (N := 12) ?hd (xs := ([(⟨#[]⟩ : ByteArray), (⟨#[97]⟩ : ByteArray), (⟨#[98, 111, 100, 121]⟩ : ByteArray), (⟨#[115, 105, 120, 116, 101, 101, 110, 32, 98, 121, 116, 101, 115, 32, 46, 46]⟩ : ByteArray), (⟨#[0, 0]⟩ : ByteArray)] : List ByteArray)) (inner := [.string (⟨#[]⟩ : ByteArray), .string (⟨#[97]⟩ : ByteArray), .string (⟨#[98, 111, 100, 121]⟩ : ByteArray), .string (⟨#[115, 105, 120, 116, 101, 101, 110, 32, 98, 121, 116, 101, 115, 32, 46, 46]⟩ : ByteArray), .string (⟨#[0, 0]⟩ : ByteArray)]) (ok := fun _ => True) (okp := fun _ => True) ?hr ?hp (fun _ hk => hk) trivial (Below.refl _ _) (Nat.le_refl _) (by simp) ?_; (case hd => rfl); (case hg => rfl); (case hr => first | (go_simp; done) | (go_simp; rfl)); (case hp => exact (Reps.one (show Kd.M Kd.string _ _ _ (⟨#[]⟩ : ByteArray) [.string (⟨#[]⟩ : ByteArray)] from rfl) (Reps.one (show Kd.M Kd.string _ _ _ (⟨#[97]⟩ : ByteArray) [.string (⟨#[97]⟩ : ByteArray)] from rfl) (Reps.one (show Kd.M Kd.string _ _ _ (⟨#[98, 111, 100, 121]⟩ : ByteArray) [.string (⟨#[98, 111, 100, 121]⟩ : ByteArray)] from rfl) (Reps.one (show Kd.M Kd.string _ _ _ (⟨#[115, 105, 120, 116, 101, 101, 110, 32, 98, 121, 116, 101, 115, 32, 46, 46]⟩ : ByteArray) [.string (⟨#[115, 105, 120, 116, 101, 101, 110, 32, 98, 121, 116, 101, 115, 32, 46, 46]⟩ : ByteArray)] from rfl) (Reps.one (show Kd.M Kd.string _ _ _ (⟨#[0, 0]⟩ : ByteArray) [.string (⟨#[0, 0]⟩ : ByteArray)] from rfl) (Reps.none _ _))))))); intro v127 w35 ho36 hb hg_ hnew_; clear hg_ hnew_; (first | rw [← Ny126.out] at ho36 | (simp only [Int.reduceToNat] at ho36; rw [← Ny126.out] at ho36)); have HO128 := Aside0.mk (Kd.R_lower ho36 (keep_size (w := w) (g := g) (row := none) (kep HK.out))); replace BK116 := Aside0.mk (blk_below (g := gb116) (o := .cells #[.int .i64 0, .int .i64 0, .int .i64 0, .string (⟨#[]⟩ : ByteArray)] 102 (0, 0)) (blkd BK116.out) hb); replace HK := Aside0.mk (KeepBut.trans (kep HK.out) (KeepBut.of_below hb g none) (.inl rfl)); replace HB := Aside0.mk (below_step (belT93 HB.out HI0.out) hb); replace HI0 := Aside0.mk (IsS93.below (isT93 HI0.out) hb); clear hb ho36; obtain ⟨Ao37, co37, eo37⟩ := Kd.R_slice HO128.out; subst eo37) | (go_at_call 116; (with_reducible refine (spec_l1Cur_of.calls g s0_0 t124 t125 _ _ y126 t129 t130 t131 w0 _ ?side1 ?side2 ?side3 ?side4 ?side5 A5.out).mono ?_); (case side1 => exact (isT93 HI0.out)); (case side2 => exact (belT93 HB.out HI0.out)); (case side3 => repeat (first | exact (Kd.R_reads' HO128.out).2.2 | (with_reducible refine Kd.C_alloc ?_ _) | (with_reducible refine Kd.C_drewN ?_ _) | (with_reducible refine Kd.C_drew ?_))); (case side4 => exact (Kd.R_reads' HO128.out).2.1); (case side5 => exact far_slice (IsS93.own_ne HI0.out HO128.out (by decide))); rintro e w38 ⟨rfl, hi, hb, hk⟩; replace BK116 := Aside0.mk (KeepBut.blk hk (g' := gb116) (o := .cells #[.int .i64 0, .int .i64 0, .int .i64 0, .string (⟨#[]⟩ : ByteArray)] 102 (0, 0)) (blkd BK116.out) NB116_0.out (by simp)); replace HO128 := Aside0.mk (Kd.R_mono (Kd.R_keep (IsS93.apart (show IsS93 w0 _ g s0_0 t124 t125 from (isT93 HI0.out)) (kdr HO128.out) (by decide)) hk (fun _ h => h.2)) (fun _ h => h.1)); replace HK := Aside0.mk (KeepBut.trans (kep HK.out) hk (.inl rfl)); replace HB := Aside0.mk (hb); replace HI0 := Aside0.mk (hi); (try clear hb); (try clear hb2); (try clear hk); (try clear hi)) | ((with_reducible refine gate_dst (N := 3) rfl ?_); refine boxE 3 #[.int .i64 0, .int .i64 0, .int .i64 0, .string (⟨#[]⟩ : ByteArray)] 102 ?_; intro gb132 hg w39 hbox hb; have n0_ := Aside0.mk (Kd.R_below (kdr HO128.out) hb); have n1_ := Aside0.mk (IsS93.below (isT93 HI0.out) hb); have n2_ := Aside0.mk (blk_below (g := gb116) (o := .cells #[.int .i64 0, .int .i64 0, .int .i64 0, .string (⟨#[]⟩ : ByteArray)] 102 (0, 0)) (blkd BK116.out) hb); have n3_ := Aside0.mk (KeepBut.trans (kep HK.out) (KeepBut.of_below hb g none) (.inl rfl)); have n4_ := Aside0.mk (below_step (belT93 HB.out HI0.out) hb); have n5_ := Aside0.mk (hbox); have n6_ := Aside0.mk ((by rw [hg]; exact (keep_size (w := w) (g := g) (row := none) (kep HK.out)) : w.heap.size ≤ gb132)); have n7_ := Aside0.mk ((Nat.le_trans HW0.out (by rw [hg]; exact (keep_size (w := w) (g := g) (row := none) (kep HK.out)) : w.heap.size ≤ gb132) : w0.heap.size ≤ gb132)); have n8_ := Aside0.mk ((by rw [hg]; exact Nat.ne_of_lt (blk_lt (g := gb116) (o := .cells #[.int .i64 0, .int .i64 0, .int .i64 0, .string (⟨#[]⟩ : ByteArray)] 102 (0, 0)) (blkd BK116.out)) : gb116 ≠ gb132)); have n9_ := Aside0.mk ((by rw [hg]; exact Nat.ne_of_gt (blk_lt (g := gb116) (o := .cells #[.int .i64 0, .int .i64 0, .int .i64 0, .string (⟨#[]⟩ : ByteArray)] 102 (0, 0)) (blkd BK116.out)) : gb132 ≠ gb116)); have n10_ := Aside0.mk ((by rw [hg]; exact Nat.ne_of_lt (IsS93.lt (show IsS93 w0 _ g s0_0 t130 t131 from (isT93 HI0.out))) : g ≠ gb132)); have n11_ := Aside0.mk ((by rw [hg]; exact Nat.ne_of_gt (IsS93.lt (show IsS93 w0 _ g s0_0 t130 t131 from (isT93 HI0.out))) : gb132 ≠ g)); clear HO128; clear HI0; clear BK116; clear HK; clear HB; have HO128 := n0_; have HI0 := n1_; have BK116 := n2_; have HK := n3_; have HB := n4_; have BK132 := n5_; have GW132 := n6_; have GE132 := n7_; have NB116_132 := n8_; have NB132_116 := n9_; have NB0_132 := n10_; have NB132_0 := n11_; clear n0_ n1_ n2_ n3_ n4_ n5_ n6_ n7_ n8_ n9_ n10_ n11_; clear hb hbox hg; have hnb40 := NB132_116.out; have hnc40 := NB116_132.out; have hnb41 := NB132_0.out; have hnc41 := NB0_132.out; obtain ⟨⟨hcz42_0, hcz42_1, hcz42_2, hcz42_3⟩, hfz42_0, hfz42_1, hfz42_2, hfz42_3⟩ := blk4 BK132.out) | (go_at_call 90; (with_reducible refine (spec_l1Cur_pick.calls g s0_0 t130 t131 30 t133 t134 t135 w0 _ ?side1 ?side2 A6.out).mono ?_); (case side1 => exact (isT93 HI0.out)); (case side2 => exact (belT93 HB.out HI0.out)); rintro e w43 ⟨rfl, hi, hb, hk⟩; replace BK116 := Aside0.mk (KeepBut.blk hk (g' := gb116) (o := .cells #[.int .i64 0, .int .i64 0, .int .i64 0, .string (⟨#[]⟩ : ByteArray)] 102 (0, 0)) (blkp BK116.out) NB116_0.out (by simp)); replace HO128 := Aside0.mk (Kd.R_mono (Kd.R_keep (IsS93.apart (show IsS93 w0 _ g s0_0 t130 t131 from (isT93 HI0.out)) (by (with_reducible repeat (first | apply Kd.R_alloc | apply Kd.R_drewN | apply Kd.R_drew)); exact (Kd.R_mono (Kd.R_far (p := ⟨gb132, 3, none⟩) (Kd.R_far (p := ⟨gb132, 2, none⟩) (Kd.R_far (p := ⟨gb132, 1, none⟩) (Kd.R_far (p := ⟨gb132, 0, none⟩) (Kd.R_types HO128.out BK132.out (by decide)) (fun _ hk => hk.2) (.int .i64 (wrap64 (1 + t117)))) (fun _ hk => hk.2) (.int .i64 t120)) (fun _ hk => hk.2) (.int .i64 t123)) (fun _ hk => hk.2) (.string t129)) (fun _ h_ => h_.1))) (by decide)) hk (fun _ h => h.2)) (fun _ h => h.1)); replace BK132 := Aside0.mk (KeepBut.blk hk (g' := gb132) (o := .cells #[.int .i64 (wrap64 (1 + t117)), .int .i64 t120, .int .i64 t123, .string t129] 102 (0, 0)) (blkp BK132.out) NB132_0.out (by simp)); replace HK := Aside0.mk (KeepBut.trans (kep HK.out) hk (.inl rfl)); replace HB := Aside0.mk (hb); replace HI0 := Aside0.mk (hi); (try clear hb); (try clear hb2); (try clear hk); (try clear hi)) | ((with_reducible refine gate_dst (N := 26) rfl ?_); refine Kd.R_lit (Kd.int .i64) _ 3 ?hg (N := 26) ?hd (xs := ([(-1), 60000, 60001] : List Int)) (inner := [.int .i64 (-1), .int .i64 60000, .int .i64 60001]) (ok := fun _ => True) (okp := fun _ => True) ?hr ?hp (fun _ hk => hk) trivial (Below.refl _ _) (Nat.le_refl _) (by simp) ?_; (case hd => rfl); (case hg => rfl); (case hr => first | (go_simp; done) | (go_simp; rfl)); (case hp => exact (Reps.one (show Kd.M (Kd.int .i64) _ _ _ (-1) [.int .i64 (-1)] from rfl) (Reps.one (show Kd.M (Kd.int .i64) _ _ _ 60000 [.int .i64 60000] from rfl) (Reps.one (show Kd.M (Kd.int .i64) _ _ _ 60001 [.int .i64 60001] from rfl) (Reps.none _ _))))); intro v143 w44 ho45 hb hg_ hnew_; clear hg_ hnew_; (first | rw [← Ny142.out] at ho45 | (simp only [Int.reduceToNat] at ho45; rw [← Ny142.out] at ho45)); replace HO128 := Aside0.mk (Kd.R_below (kdr HO128.out) hb); have HO144 := Aside0.mk (Kd.R_lower ho45 (keep_size (w := w) (g := g) (row := none) (kep HK.out))); replace BK116 := Aside0.mk (blk_below (g := gb116) (o := .cells #[.int .i64 0, .int .i64 0, .int .i64 0, .string (⟨#[]⟩ : ByteArray)] 102 (0, 0)) (blkd BK116.out) hb); replace BK132 := Aside0.mk (blk_below (g := gb132) (o := .cells #[.int .i64 (wrap64 (1 + t117)), .int .i64 t120, .int .i64 t123, .string t129] 102 (0, 0)) (blkd BK132.out) hb); replace HK := Aside0.mk (KeepBut.trans (kep HK.out) (KeepBut.of_below hb g none) (.inl rfl)); replace HB := Aside0.mk (below_step (belT93 HB.out HI0.out) hb); replace HI0 := Aside0.mk (IsS93.below (isT93 HI0.out) hb); clear hb ho45; obtain ⟨Ao46, co46, eo46⟩ := Kd.R_slice HO144.out; subst eo46) | (go_at_call 168; (with_reducible refine (spec_l1Cur_among.calls g s0_0 t134 t135 _ _ y142 t145 t146 t147 w0 _ ?side1 ?side2 ?side3 ?side4 ?side5 A30.out).mono ?_); (case side1 => exact (isT93 HI0.out)); (case side2 => exact (belT93 HB.out HI0.out)); (case side3 => repeat (first | exact (Kd.R_reads' HO144.out).2.2 | (with_reducible refine Kd.C_alloc ?_ _) | (with_reducible refine Kd.C_drewN ?_ _) | (with_reducible refine Kd.C_drew ?_))); (case side4 => exact (Kd.R_reads' HO144.out).2.1); (case side5 => exact far_slice (IsS93.own_ne HI0.out HO144.out (by decide))); rintro e w47 ⟨rfl, hi, hb, hk⟩; replace BK116 := Aside0.mk (KeepBut.blk hk (g' := gb116) (o := .cells #[.int .i64 0, .int .i64 0, .int .i64 0, .string (⟨#[]⟩ : ByteArray)] 102 (0, 0)) (blkd BK116.out) NB116_0.out (by simp)); replace HO128 := Aside0.mk (Kd.R_mono (Kd.R_keep (IsS93.apart (show IsS93 w0 _ g s0_0 t134 t135 from (isT93 HI0.out)) (kdr HO128.out) (by decide)) hk (fun _ h => h.2)) (fun _ h => h.1)); replace BK132 := Aside0.mk (KeepBut.blk hk (g' := gb132) (o := .cells #[.int .i64 (wrap64 (1 + t117)), .int .i64 t120, .int .i64 t123, .string t129] 102 (0, 0)) (blkd BK132.out) NB132_0.out (by simp)); replace HO144 := Aside0.mk (Kd.R_mono (Kd.R_keep (IsS93.apart (show IsS93 w0 _ g s0_0 t134 t135 from (isT93 HI0.out)) (kdr HO144.out) (by decide)) hk (fun _ h => h.2)) (fun _ h => h.1)); replace HK := Aside0.mk (KeepBut.trans (kep HK.out) hk (.inl rfl)); replace HB := Aside0.mk (hb); replace HI0 := Aside0.mk (hi); (try clear hb); (try clear hb2); (try clear hk); (try clear hi); obtain ⟨⟨hcz48_0, hcz48_1, hcz48_2, hcz48_3⟩, hfz48_0, hfz48_1, hfz48_2, hfz48_3⟩ := blk4 BK132.out; have hnb49 := NB116_0.out; have hnc49 := NB0_116.out; obtain ⟨⟨hcz50_0, hcz50_1, hcz50_2, hcz50_3⟩, hfz50_0, hfz50_1, hfz50_2, hfz50_3⟩ := blk4 BK116.out))
   refine bodyPost_ret (results_cell_row rfl _ _ gb116 102 #[.int .i64 (wrap64 (1 + t117)), .int .i64 t145, .int .i64 t123, .string t129] (0, 0) _ rfl (blkp BK116.out) Try.underlying102 rfl (by kernel_rfl)) rfl ?_
   exact ⟨by first | rfl | simp [*], (isT93 HI0.out), (belT93 HB.out HI0.out), (kep HK.out)⟩
  ·rw [if_neg c29] at H
   have c29b0 : (t133 == 1) = false := beq_eq_false_iff_ne.mpr c29
   have c29b1 : (t133 != 1) = true := bne_iff_ne.mpr c29
   by_cases c51 : t133 = 2
   ·rw [if_pos c51] at H
    have c51b0 : (t133 == 2) = true := beq_iff_eq.mpr c51
    have c51b1 : (t133 != 2) = false := bne_eq_false_iff_eq.mpr c51
    clear c51
    simp only [Option.some.injEq, Prod.mk.injEq] at H
    obtain ⟨rfl, rfl, rfl, rfl, rfl, rfl⟩ := H
    go_enter Try.func107, Try.ntmps107
    go_wp2_with (first | ((with_reducible refine gate_dst (N := 2) rfl ?_); refine boxE 2 #[.int .i64 0, .int .i64 0, .int .i64 0, .string (⟨#[]⟩ : ByteArray)] 102 ?_; intro gb116 hg w52 hbox hb; replace HB := Aside0.mk (below_step (belS93 HB.out HI0.out) hb); have BK116 := Aside0.mk (hbox); have GW116 := Aside0.mk ((by rw [hg]; exact (keep_size (w := w) (g := g) (row := none) (kez HK.out)) : w.heap.size ≤ gb116)); have GE116 := Aside0.mk ((Nat.le_trans HW0.out (by rw [hg]; exact (keep_size (w := w) (g := g) (row := none) (kez HK.out)) : w.heap.size ≤ gb116) : w0.heap.size ≤ gb116)); replace HK := Aside0.mk (KeepBut.trans (kez HK.out) (KeepBut.of_below hb g none) (.inl rfl)); have NB0_116 := Aside0.mk ((by rw [hg]; exact Nat.ne_of_lt (IsS93.lt (show IsS93 w0 _ g s0_0 s0_1 s0_2 from (isS93 HI0.out))) : g ≠ gb116)); have NB116_0 := Aside0.mk ((by rw [hg]; exact Nat.ne_of_gt (IsS93.lt (show IsS93 w0 _ g s0_0 s0_1 s0_2 from (isS93 HI0.out))) : gb116 ≠ g)); replace HI0 := Aside0.mk (IsS93.below (isS93 HI0.out) hb); clear hb hbox hg) | (go_at_call 90; (with_reducible refine (spec_l1Cur_pick.calls g s0_0 s0_1 s0_2 3 t117 t118 t119 w0 _ ?side1 ?side2 A2.out).mono ?_); (case side1 => exact (isT93 HI0.out)); (case side2 => exact (belT93 HB.out HI0.out)); rintro e w53 ⟨rfl, hi, hb, hk⟩; replace BK116 := Aside0.mk (KeepBut.blk hk (g' := gb116) (o := .cells #[.int .i64 0, .int .i64 0, .int .i64 0, .string (⟨#[]⟩ : ByteArray)] 102 (0, 0)) (blkd BK116.out) NB116_0.out (by simp)); replace HK := Aside0.mk (KeepBut.trans (kep HK.out) hk (.inl rfl)); replace HB := Aside0.mk (hb); replace HI0 := Aside0.mk (hi); (try clear hb); (try clear hb2); (try clear hk); (try clear hi)) | (go_at_call 90; (with_reducible refine (spec_l1Cur_pick.calls g s0_0 t118 t119 9 t120 t121 t122 w0 _ ?side1 ?side2 A3.out).mono ?_); (case side1 => exact (isT93 HI0.out)); (case side2 => exact (belT93 HB.out HI0.out)); rintro e w54 ⟨rfl, hi, hb, hk⟩; replace BK116 := Aside0.mk (KeepBut.blk hk (g' := gb116) (o := .cells #[.int .i64 0, .int .i64 0, .int .i64 0, .string (⟨#[]⟩ : ByteArray)] 102 (0, 0)) (blkd BK116.out) NB116_0.out (by simp)); replace HK := Aside0.mk (KeepBut.trans (kep HK.out) hk (.inl rfl)); replace HB := Aside0.mk (hb); replace HI0 := Aside0.mk (hi); (try clear hb); (try clear hb2); (try clear hk); (try clear hi)) | (go_at_call 90; (with_reducible refine (spec_l1Cur_pick.calls g s0_0 t121 t122 5 t123 t124 t125 w0 _ ?side1 ?side2 A4.out).mono ?_); (case side1 => exact (isT93 HI0.out)); (case side2 => exact (belT93 HB.out HI0.out)); rintro e w55 ⟨rfl, hi, hb, hk⟩; replace BK116 := Aside0.mk (KeepBut.blk hk (g' := gb116) (o := .cells #[.int .i64 0, .int .i64 0, .int .i64 0, .string (⟨#[]⟩ : ByteArray)] 102 (0, 0)) (blkd BK116.out) NB116_0.out (by simp)); replace HK := Aside0.mk (KeepBut.trans (kep HK.out) hk (.inl rfl)); replace HB := Aside0.mk (hb); replace HI0 := Aside0.mk (hi); (try clear hb); (try clear hb2); (try clear hk); (try clear hi)) | ((with_reducible refine gate_dst (N := 12) rfl ?_); refine Kd.R_lit Kd.string _ 9 ?hg (N := 12) ?hd (xs := ([(⟨#[]⟩ : ByteArray), (⟨#[97]⟩ : ByteArray), (⟨#[98, 111, 100, 121]⟩ : ByteArray), (⟨#[115, 105, 120, 116, 101, 101, 110, 32, 98, 121, 116, 101, 115, 32, 46, 46]⟩ : ByteArray), (⟨#[0, 0]⟩ : ByteArray)] : List ByteArray)) (inner := [.string (⟨#[]⟩ : ByteArray), .string (⟨#[97]⟩ : ByteArray), .string (⟨#[98, 111, 100, 121]⟩ : ByteArray), .string (⟨#[115, 105, 120, 116, 101, 101, 110, 32, 98, 121, 116, 101, 115, 32, 46, 46]⟩ : ByteArray), .string (⟨#[0, 0]⟩ : ByteArray)]) (ok := fun _ => True) (okp := fun _ => True) ?hr ?hp (fun _ hk => hk) trivial (Below.refl _ _) (Nat.le_refl _) (by simp) ?_; (case hd => rfl); (case hg => rfl); (case hr => first | (go_simp; done) | (go_simp; rfl)); (case hp => exact (Reps.one (show Kd.M Kd.string _ _ _ (⟨#[]⟩ : ByteArray) [.string (⟨#[]⟩ : ByteArray)] from rfl) (Reps.one (show Kd.M Kd.string _ _ _ (⟨#[97]⟩ : ByteArray) [.string (⟨#[97]⟩ : ByteArray)] from rfl) (Reps.one (show Kd.M Kd.string _ _ _ (⟨#[98, 111, 100, 121]⟩ : ByteArray) [.string (⟨#[98, 111, 100, 121]⟩ : ByteArray)] from rfl) (Reps.one (show Kd.M Kd.string _ _ _ (⟨#[115, 105, 120, 116, 101, 101, 110, 32, 98, 121, 116, 101, 115, 32, 46, 46]⟩ : ByteArray) [.string (⟨#[115, 105, 120, 116, 101, 101, 110, 32, 98, 121, 116, 101, 115, 32, 46, 46]⟩ : ByteArray)] from rfl) (Reps.one (show Kd.M Kd.string _ _ _ (⟨#[0, 0]⟩ : ByteArray) [.string (⟨#[0, 0]⟩ : ByteArray)] from rfl) (Reps.none _ _))))))); intro v127 w56 ho57 hb hg_ hnew_; clear hg_ hnew_; (first | rw [← Ny126.out] at ho57 | (simp only [Int.reduceToNat] at ho57; rw [← Ny126.out] at ho57)); have HO128 := Aside0.mk (Kd.R_lower ho57 (keep_size (w := w) (g := g) (row := none) (kep HK.out))); replace BK116 := Aside0.mk (blk_below (g := gb116) (o := .cells #[.int .i64 0, .int .i64 0, .int .i64 0, .string (⟨#[]⟩ : ByteArray)] 102 (0, 0)) (blkd BK116.out) hb); replace HK := Aside0.mk (KeepBut.trans (kep HK.out) (KeepBut.of_below hb g none) (.inl rfl)); replace HB := Aside0.mk (below_step (belT93 HB.out HI0.out) hb); replace HI0 := Aside0.mk (IsS93.below (isT93 HI0.out) hb); clear hb ho57; obtain ⟨Ao58, co58, eo58⟩ := Kd.R_slice HO128.out; subst eo58) | (go_at_call 116; (with_reducible refine (spec_l1Cur_of.calls g s0_0 t124 t125 _ _ y126 t129 t130 t131 w0 _ ?side1 ?side2 ?side3 ?side4 ?side5 A5.out).mono ?_); (case side1 => exact (isT93 HI0.out)); (case side2 => exact (belT93 HB.out HI0.out)); (case side3 => repeat (first | exact (Kd.R_reads' HO128.out).2.2 | (with_reducible refine Kd.C_alloc ?_ _) | (with_reducible refine Kd.C_drewN ?_ _) | (with_reducible refine Kd.C_drew ?_))); (case side4 => exact (Kd.R_reads' HO128.out).2.1); (case side5 => exact far_slice (IsS93.own_ne HI0.out HO128.out (by decide))); rintro e w59 ⟨rfl, hi, hb, hk⟩; replace BK116 := Aside0.mk (KeepBut.blk hk (g' := gb116) (o := .cells #[.int .i64 0, .int .i64 0, .int .i64 0, .string (⟨#[]⟩ : ByteArray)] 102 (0, 0)) (blkd BK116.out) NB116_0.out (by simp)); replace HO128 := Aside0.mk (Kd.R_mono (Kd.R_keep (IsS93.apart (show IsS93 w0 _ g s0_0 t124 t125 from (isT93 HI0.out)) (kdr HO128.out) (by decide)) hk (fun _ h => h.2)) (fun _ h => h.1)); replace HK := Aside0.mk (KeepBut.trans (kep HK.out) hk (.inl rfl)); replace HB := Aside0.mk (hb); replace HI0 := Aside0.mk (hi); (try clear hb); (try clear hb2); (try clear hk); (try clear hi)) | ((with_reducible refine gate_dst (N := 3) rfl ?_); refine boxE 3 #[.int .i64 0, .int .i64 0, .int .i64 0, .string (⟨#[]⟩ : ByteArray)] 102 ?_; intro gb132 hg w60 hbox hb; have n0_ := Aside0.mk (Kd.R_below (kdr HO128.out) hb); have n1_ := Aside0.mk (IsS93.below (isT93 HI0.out) hb); have n2_ := Aside0.mk (blk_below (g := gb116) (o := .cells #[.int .i64 0, .int .i64 0, .int .i64 0, .string (⟨#[]⟩ : ByteArray)] 102 (0, 0)) (blkd BK116.out) hb); have n3_ := Aside0.mk (KeepBut.trans (kep HK.out) (KeepBut.of_below hb g none) (.inl rfl)); have n4_ := Aside0.mk (below_step (belT93 HB.out HI0.out) hb); have n5_ := Aside0.mk (hbox); have n6_ := Aside0.mk ((by rw [hg]; exact (keep_size (w := w) (g := g) (row := none) (kep HK.out)) : w.heap.size ≤ gb132)); have n7_ := Aside0.mk ((Nat.le_trans HW0.out (by rw [hg]; exact (keep_size (w := w) (g := g) (row := none) (kep HK.out)) : w.heap.size ≤ gb132) : w0.heap.size ≤ gb132)); have n8_ := Aside0.mk ((by rw [hg]; exact Nat.ne_of_lt (blk_lt (g := gb116) (o := .cells #[.int .i64 0, .int .i64 0, .int .i64 0, .string (⟨#[]⟩ : ByteArray)] 102 (0, 0)) (blkd BK116.out)) : gb116 ≠ gb132)); have n9_ := Aside0.mk ((by rw [hg]; exact Nat.ne_of_gt (blk_lt (g := gb116) (o := .cells #[.int .i64 0, .int .i64 0, .int .i64 0, .string (⟨#[]⟩ : ByteArray)] 102 (0, 0)) (blkd BK116.out)) : gb132 ≠ gb116)); have n10_ := Aside0.mk ((by rw [hg]; exact Nat.ne_of_lt (IsS93.lt (show IsS93 w0 _ g s0_0 t130 t131 from (isT93 HI0.out))) : g ≠ gb132)); have n11_ := Aside0.mk ((by rw [hg]; exact Nat.ne_of_gt (IsS93.lt (show IsS93 w0 _ g s0_0 t130 t131 from (isT93 HI0.out))) : gb132 ≠ g)); clear HO128; clear HI0; clear BK116; clear HK; clear HB; have HO128 := n0_; have HI0 := n1_; have BK116 := n2_; have HK := n3_; have HB := n4_; have BK132 := n5_; have GW132 := n6_; have GE132 := n7_; have NB116_132 := n8_; have NB132_116 := n9_; have NB0_132 := n10_; have NB132_0 := n11_; clear n0_ n1_ n2_ n3_ n4_ n5_ n6_ n7_ n8_ n9_ n10_ n11_; clear hb hbox hg; have hnb61 := NB132_116.out; have hnc61 := NB116_132.out; have hnb62 := NB132_0.out; have hnc62 := NB0_132.out; obtain ⟨⟨hcz63_0, hcz63_1, hcz63_2, hcz63_3⟩, hfz63_0, hfz63_1, hfz63_2, hfz63_3⟩ := blk4 BK132.out) | (go_at_call 90; (with_reducible refine (spec_l1Cur_pick.calls g s0_0 t130 t131 30 t133 t134 t135 w0 _ ?side1 ?side2 A6.out).mono ?_); (case side1 => exact (isT93 HI0.out)); (case side2 => exact (belT93 HB.out HI0.out)); rintro e w64 ⟨rfl, hi, hb, hk⟩; replace BK116 := Aside0.mk (KeepBut.blk hk (g' := gb116) (o := .cells #[.int .i64 0, .int .i64 0, .int .i64 0, .string (⟨#[]⟩ : ByteArray)] 102 (0, 0)) (blkp BK116.out) NB116_0.out (by simp)); replace HO128 := Aside0.mk (Kd.R_mono (Kd.R_keep (IsS93.apart (show IsS93 w0 _ g s0_0 t130 t131 from (isT93 HI0.out)) (by (with_reducible repeat (first | apply Kd.R_alloc | apply Kd.R_drewN | apply Kd.R_drew)); exact (Kd.R_mono (Kd.R_far (p := ⟨gb132, 3, none⟩) (Kd.R_far (p := ⟨gb132, 2, none⟩) (Kd.R_far (p := ⟨gb132, 1, none⟩) (Kd.R_far (p := ⟨gb132, 0, none⟩) (Kd.R_types HO128.out BK132.out (by decide)) (fun _ hk => hk.2) (.int .i64 (wrap64 (1 + t117)))) (fun _ hk => hk.2) (.int .i64 t120)) (fun _ hk => hk.2) (.int .i64 t123)) (fun _ hk => hk.2) (.string t129)) (fun _ h_ => h_.1))) (by decide)) hk (fun _ h => h.2)) (fun _ h => h.1)); replace BK132 := Aside0.mk (KeepBut.blk hk (g' := gb132) (o := .cells #[.int .i64 (wrap64 (1 + t117)), .int .i64 t120, .int .i64 t123, .string t129] 102 (0, 0)) (blkp BK132.out) NB132_0.out (by simp)); replace HK := Aside0.mk (KeepBut.trans (kep HK.out) hk (.inl rfl)); replace HB := Aside0.mk (hb); replace HI0 := Aside0.mk (hi); (try clear hb); (try clear hb2); (try clear hk); (try clear hi); obtain ⟨⟨hcz65_0, hcz65_1, hcz65_2, hcz65_3⟩, hfz65_0, hfz65_1, hfz65_2, hfz65_3⟩ := blk4 BK132.out; have hnb66 := NB116_0.out; have hnc66 := NB0_116.out; obtain ⟨⟨hcz67_0, hcz67_1, hcz67_2, hcz67_3⟩, hfz67_0, hfz67_1, hfz67_2, hfz67_3⟩ := blk4 BK116.out))
    refine bodyPost_ret (results_cell_row rfl _ _ gb116 102 #[.int .i64 (wrap64 (1 + t117)), .int .i64 t120, .int .i64 t123, .string (⟨#[115, 101, 118, 101, 110, 116, 101, 101, 110, 32, 98, 121, 116, 101, 115, 32, 46, 46]⟩ : ByteArray)] (0, 0) _ rfl (blkp BK116.out) Try.underlying102 rfl (by kernel_rfl)) rfl ?_
    exact ⟨by first | rfl | simp [*], (isT93 HI0.out), (belT93 HB.out HI0.out), (kep HK.out)⟩
   ·rw [if_neg c51] at H
    have c51b0 : (t133 == 2) = false := beq_eq_false_iff_ne.mpr c51
    have c51b1 : (t133 != 2) = true := bne_iff_ne.mpr c51
    simp only [Option.some.injEq, Prod.mk.injEq] at H
    obtain ⟨rfl, rfl, rfl, rfl, rfl, rfl⟩ := H
    go_enter Try.func107, Try.ntmps107
    go_wp2_with (first | ((with_reducible refine gate_dst (N := 2) rfl ?_); refine boxE 2 #[.int .i64 0, .int .i64 0, .int .i64 0, .string (⟨#[]⟩ : ByteArray)] 102 ?_; intro gb116 hg w68 hbox hb; replace HB := Aside0.mk (below_step (belS93 HB.out HI0.out) hb); have BK116 := Aside0.mk (hbox); have GW116 := Aside0.mk ((by rw [hg]; exact (keep_size (w := w) (g := g) (row := none) (kez HK.out)) : w.heap.size ≤ gb116)); have GE116 := Aside0.mk ((Nat.le_trans HW0.out (by rw [hg]; exact (keep_size (w := w) (g := g) (row := none) (kez HK.out)) : w.heap.size ≤ gb116) : w0.heap.size ≤ gb116)); replace HK := Aside0.mk (KeepBut.trans (kez HK.out) (KeepBut.of_below hb g none) (.inl rfl)); have NB0_116 := Aside0.mk ((by rw [hg]; exact Nat.ne_of_lt (IsS93.lt (show IsS93 w0 _ g s0_0 s0_1 s0_2 from (isS93 HI0.out))) : g ≠ gb116)); have NB116_0 := Aside0.mk ((by rw [hg]; exact Nat.ne_of_gt (IsS93.lt (show IsS93 w0 _ g s0_0 s0_1 s0_2 from (isS93 HI0.out))) : gb116 ≠ g)); replace HI0 := Aside0.mk (IsS93.below (isS93 HI0.out) hb); clear hb hbox hg) | (go_at_call 90; (with_reducible refine (spec_l1Cur_pick.calls g s0_0 s0_1 s0_2 3 t117 t118 t119 w0 _ ?side1 ?side2 A2.out).mono ?_); (case side1 => exact (isT93 HI0.out)); (case side2 => exact (belT93 HB.out HI0.out)); rintro e w69 ⟨rfl, hi, hb, hk⟩; replace BK116 := Aside0.mk (KeepBut.blk hk (g' := gb116) (o := .cells #[.int .i64 0, .int .i64 0, .int .i64 0, .string (⟨#[]⟩ : ByteArray)] 102 (0, 0)) (blkd BK116.out) NB116_0.out (by simp)); replace HK := Aside0.mk (KeepBut.trans (kep HK.out) hk (.inl rfl)); replace HB := Aside0.mk (hb); replace HI0 := Aside0.mk (hi); (try clear hb); (try clear hb2); (try clear hk); (try clear hi)) | (go_at_call 90; (with_reducible refine (spec_l1Cur_pick.calls g s0_0 t118 t119 9 t120 t121 t122 w0 _ ?side1 ?side2 A3.out).mono ?_); (case side1 => exact (isT93 HI0.out)); (case side2 => exact (belT93 HB.out HI0.out)); rintro e w70 ⟨rfl, hi, hb, hk⟩; replace BK116 := Aside0.mk (KeepBut.blk hk (g' := gb116) (o := .cells #[.int .i64 0, .int .i64 0, .int .i64 0, .string (⟨#[]⟩ : ByteArray)] 102 (0, 0)) (blkd BK116.out) NB116_0.out (by simp)); replace HK := Aside0.mk (KeepBut.trans (kep HK.out) hk (.inl rfl)); replace HB := Aside0.mk (hb); replace HI0 := Aside0.mk (hi); (try clear hb); (try clear hb2); (try clear hk); (try clear hi)) | (go_at_call 90; (with_reducible refine (spec_l1Cur_pick.calls g s0_0 t121 t122 5 t123 t124 t125 w0 _ ?side1 ?side2 A4.out).mono ?_); (case side1 => exact (isT93 HI0.out)); (case side2 => exact (belT93 HB.out HI0.out)); rintro e w71 ⟨rfl, hi, hb, hk⟩; replace BK116 := Aside0.mk (KeepBut.blk hk (g' := gb116) (o := .cells #[.int .i64 0, .int .i64 0, .int .i64 0, .string (⟨#[]⟩ : ByteArray)] 102 (0, 0)) (blkd BK116.out) NB116_0.out (by simp)); replace HK := Aside0.mk (KeepBut.trans (kep HK.out) hk (.inl rfl)); replace HB := Aside0.mk (hb); replace HI0 := Aside0.mk (hi); (try clear hb); (try clear hb2); (try clear hk); (try clear hi)) | ((with_reducible refine gate_dst (N := 12) rfl ?_); refine Kd.R_lit Kd.string _ 9 ?hg (N := 12) ?hd (xs := ([(⟨#[]⟩ : ByteArray), (⟨#[97]⟩ : ByteArray), (⟨#[98, 111, 100, 121]⟩ : ByteArray), (⟨#[115, 105, 120, 116, 101, 101, 110, 32, 98, 121, 116, 101, 115, 32, 46, 46]⟩ : ByteArray), (⟨#[0, 0]⟩ : ByteArray)] : List ByteArray)) (inner := [.string (⟨#[]⟩ : ByteArray), .string (⟨#[97]⟩ : ByteArray), .string (⟨#[98, 111, 100, 121]⟩ : ByteArray), .string (⟨#[115, 105, 120, 116, 101, 101, 110, 32, 98, 121, 116, 101, 115, 32, 46, 46]⟩ : ByteArray), .string (⟨#[0, 0]⟩ : ByteArray)]) (ok := fun _ => True) (okp := fun _ => True) ?hr ?hp (fun _ hk => hk) trivial (Below.refl _ _) (Nat.le_refl _) (by simp) ?_; (case hd => rfl); (case hg => rfl); (case hr => first | (go_simp; done) | (go_simp; rfl)); (case hp => exact (Reps.one (show Kd.M Kd.string _ _ _ (⟨#[]⟩ : ByteArray) [.string (⟨#[]⟩ : ByteArray)] from rfl) (Reps.one (show Kd.M Kd.string _ _ _ (⟨#[97]⟩ : ByteArray) [.string (⟨#[97]⟩ : ByteArray)] from rfl) (Reps.one (show Kd.M Kd.string _ _ _ (⟨#[98, 111, 100, 121]⟩ : ByteArray) [.string (⟨#[98, 111, 100, 121]⟩ : ByteArray)] from rfl) (Reps.one (show Kd.M Kd.string _ _ _ (⟨#[115, 105, 120, 116, 101, 101, 110, 32, 98, 121, 116, 101, 115, 32, 46, 46]⟩ : ByteArray) [.string (⟨#[115, 105, 120, 116, 101, 101, 110, 32, 98, 121, 116, 101, 115, 32, 46, 46]⟩ : ByteArray)] from rfl) (Reps.one (show Kd.M Kd.string _ _ _ (⟨#[0, 0]⟩ : ByteArray) [.string (⟨#[0, 0]⟩ : ByteArray)] from rfl) (Reps.none _ _))))))); intro v127 w72 ho73 hb hg_ hnew_; clear hg_ hnew_; (first | rw [← Ny126.out] at ho73 | (simp only [Int.reduceToNat] at ho73; rw [← Ny126.out] at ho73)); have HO128 := Aside0.mk (Kd.R_lower ho73 (keep_size (w := w) (g := g) (row := none) (kep HK.out))); replace BK116 := Aside0.mk (blk_below (g := gb116) (o := .cells #[.int .i64 0, .int .i64 0, .int .i64 0, .string (⟨#[]⟩ : ByteArray)] 102 (0, 0)) (blkd BK116.out) hb); replace HK := Aside0.mk (KeepBut.trans (kep HK.out) (KeepBut.of_below hb g none) (.inl rfl)); replace HB := Aside0.mk (below_step (belT93 HB.out HI0.out) hb); replace HI0 := Aside0.mk (IsS93.below (isT93 HI0.out) hb); clear hb ho73; obtain ⟨Ao74, co74, eo74⟩ := Kd.R_slice HO128.out; subst eo74) | (go_at_call 116; (with_reducible refine (spec_l1Cur_of.calls g s0_0 t124 t125 _ _ y126 t129 t130 t131 w0 _ ?side1 ?side2 ?side3 ?side4 ?side5 A5.out).mono ?_); (case side1 => exact (isT93 HI0.out)); (case side2 => exact (belT93 HB.out HI0.out)); (case side3 => repeat (first | exact (Kd.R_reads' HO128.out).2.2 | (with_reducible refine Kd.C_alloc ?_ _) | (with_reducible refine Kd.C_drewN ?_ _) | (with_reducible refine Kd.C_drew ?_))); (case side4 => exact (Kd.R_reads' HO128.out).2.1); (case side5 => exact far_slice (IsS93.own_ne HI0.out HO128.out (by decide))); rintro e w75 ⟨rfl, hi, hb, hk⟩; replace BK116 := Aside0.mk (KeepBut.blk hk (g' := gb116) (o := .cells #[.int .i64 0, .int .i64 0, .int .i64 0, .string (⟨#[]⟩ : ByteArray)] 102 (0, 0)) (blkd BK116.out) NB116_0.out (by simp)); replace HO128 := Aside0.mk (Kd.R_mono (Kd.R_keep (IsS93.apart (show IsS93 w0 _ g s0_0 t124 t125 from (isT93 HI0.out)) (kdr HO128.out) (by decide)) hk (fun _ h => h.2)) (fun _ h => h.1)); replace HK := Aside0.mk (KeepBut.trans (kep HK.out) hk (.inl rfl)); replace HB := Aside0.mk (hb); replace HI0 := Aside0.mk (hi); (try clear hb); (try clear hb2); (try clear hk); (try clear hi)) | ((with_reducible refine gate_dst (N := 3) rfl ?_); refine boxE 3 #[.int .i64 0, .int .i64 0, .int .i64 0, .string (⟨#[]⟩ : ByteArray)] 102 ?_; intro gb132 hg w76 hbox hb; have n0_ := Aside0.mk (Kd.R_below (kdr HO128.out) hb); have n1_ := Aside0.mk (IsS93.below (isT93 HI0.out) hb); have n2_ := Aside0.mk (blk_below (g := gb116) (o := .cells #[.int .i64 0, .int .i64 0, .int .i64 0, .string (⟨#[]⟩ : ByteArray)] 102 (0, 0)) (blkd BK116.out) hb); have n3_ := Aside0.mk (KeepBut.trans (kep HK.out) (KeepBut.of_below hb g none) (.inl rfl)); have n4_ := Aside0.mk (below_step (belT93 HB.out HI0.out) hb); have n5_ := Aside0.mk (hbox); have n6_ := Aside0.mk ((by rw [hg]; exact (keep_size (w := w) (g := g) (row := none) (kep HK.out)) : w.heap.size ≤ gb132)); have n7_ := Aside0.mk ((Nat.le_trans HW0.out (by rw [hg]; exact (keep_size (w := w) (g := g) (row := none) (kep HK.out)) : w.heap.size ≤ gb132) : w0.heap.size ≤ gb132)); have n8_ := Aside0.mk ((by rw [hg]; exact Nat.ne_of_lt (blk_lt (g := gb116) (o := .cells #[.int .i64 0, .int .i64 0, .int .i64 0, .string (⟨#[]⟩ : ByteArray)] 102 (0, 0)) (blkd BK116.out)) : gb116 ≠ gb132)); have n9_ := Aside0.mk ((by rw [hg]; exact Nat.ne_of_gt (blk_lt (g := gb116) (o := .cells #[.int .i64 0, .int .i64 0, .int .i64 0, .string (⟨#[]⟩ : ByteArray)] 102 (0, 0)) (blkd BK116.out)) : gb132 ≠ gb116)); have n10_ := Aside0.mk ((by rw [hg]; exact Nat.ne_of_lt (IsS93.lt (show IsS93 w0 _ g s0_0 t130 t131 from (isT93 HI0.out))) : g ≠ gb132)); have n11_ := Aside0.mk ((by rw [hg]; exact Nat.ne_of_gt (IsS93.lt (show IsS93 w0 _ g s0_0 t130 t131 from (isT93 HI0.out))) : gb132 ≠ g)); clear HO128; clear HI0; clear BK116; clear HK; clear HB; have HO128 := n0_; have HI0 := n1_; have BK116 := n2_; have HK := n3_; have HB := n4_; have BK132 := n5_; have GW132 := n6_; have GE132 := n7_; have NB116_132 := n8_; have NB132_116 := n9_; have NB0_132 := n10_; have NB132_0 := n11_; clear n0_ n1_ n2_ n3_ n4_ n5_ n6_ n7_ n8_ n9_ n10_ n11_; clear hb hbox hg; have hnb77 := NB132_116.out; have hnc77 := NB116_132.out; have hnb78 := NB132_0.out; have hnc78 := NB0_132.out; obtain ⟨⟨hcz79_0, hcz79_1, hcz79_2, hcz79_3⟩, hfz79_0, hfz79_1, hfz79_2, hfz79_3⟩ := blk4 BK132.out) | (go_at_call 90; (with_reducible refine (spec_l1Cur_pick.calls g s0_0 t130 t131 30 t133 t134 t135 w0 _ ?side1 ?side2 A6.out).mono ?_); (case side1 => exact (isT93 HI0.out)); (case side2 => exact (belT93 HB.out HI0.out)); rintro e w80 ⟨rfl, hi, hb, hk⟩; replace BK116 := Aside0.mk (KeepBut.blk hk (g' := gb116) (o := .cells #[.int .i64 0, .int .i64 0, .int .i64 0, .string (⟨#[]⟩ : ByteArray)] 102 (0, 0)) (blkp BK116.out) NB116_0.out (by simp)); replace HO128 := Aside0.mk (Kd.R_mono (Kd.R_keep (IsS93.apart (show IsS93 w0 _ g s0_0 t130 t131 from (isT93 HI0.out)) (by (with_reducible repeat (first | apply Kd.R_alloc | apply Kd.R_drewN | apply Kd.R_drew)); exact (Kd.R_mono (Kd.R_far (p := ⟨gb132, 3, none⟩) (Kd.R_far (p := ⟨gb132, 2, none⟩) (Kd.R_far (p := ⟨gb132, 1, none⟩) (Kd.R_far (p := ⟨gb132, 0, none⟩) (Kd.R_types HO128.out BK132.out (by decide)) (fun _ hk => hk.2) (.int .i64 (wrap64 (1 + t117)))) (fun _ hk => hk.2) (.int .i64 t120)) (fun _ hk => hk.2) (.int .i64 t123)) (fun _ hk => hk.2) (.string t129)) (fun _ h_ => h_.1))) (by decide)) hk (fun _ h => h.2)) (fun _ h => h.1)); replace BK132 := Aside0.mk (KeepBut.blk hk (g' := gb132) (o := .cells #[.int .i64 (wrap64 (1 + t117)), .int .i64 t120, .int .i64 t123, .string t129] 102 (0, 0)) (blkp BK132.out) NB132_0.out (by simp)); replace HK := Aside0.mk (KeepBut.trans (kep HK.out) hk (.inl rfl)); replace HB := Aside0.mk (hb); replace HI0 := Aside0.mk (hi); (try clear hb); (try clear hb2); (try clear hk); (try clear hi); obtain ⟨⟨hcz81_0, hcz81_1, hcz81_2, hcz81_3⟩, hfz81_0, hfz81_1, hfz81_2, hfz81_3⟩ := blk4 BK132.out; have hnb82 := NB116_0.out; have hnc82 := NB0_116.out; obtain ⟨⟨hcz83_0, hcz83_1, hcz83_2, hcz83_3⟩, hfz83_0, hfz83_1, hfz83_2, hfz83_3⟩ := blk4 BK116.out))
    refine bodyPost_ret (results_cell_row rfl _ _ gb116 102 #[.int .i64 (wrap64 (1 + t117)), .int .i64 t120, .int .i64 t123, .string t129] (0, 0) _ rfl (blkp BK116.out) Try.underlying102 rfl (by kernel_rfl)) rfl ?_
    exact ⟨by first | rfl | simp [*], (isT93 HI0.out), (belT93 HB.out HI0.out), (kep HK.out)⟩

/-! ### spec_l1Cur_one: function 115 -/
def spec_l1Cur_one.f (s0_0 : List Int) (s0_1 : Int) (s0_2 : Int) (a1 : Int) : Option (Bool × Int × Int) := (spec_l1Cur_pick.f s0_0 s0_1 s0_2 a1).bind fun bt148 => (some ((bt148.1 == 0), bt148.2.1, bt148.2.2))
set_option maxHeartbeats 8000000 in
set_option maxRecDepth 100000 in
theorem spec_l1Cur_one.calls (g : Nat) (s0_0 : List Int) (s0_1 : Int) (s0_2 : Int) (a1 : Int) (r1 : Bool) (r2 : Int) (r3 : Int) (w0 w : World) (hI : IsS93 w0 w g s0_0 s0_1 s0_2) (hB : Below w0.heap.size w0 w) (h : spec_l1Cur_one.f s0_0 s0_1 s0_2 a1 = some (r1, r2, r3)) :
  Calls Try.prog 115 #[.pointer (some ⟨g, 0, none⟩), .int .i64 a1] w fun e w' => e = .returned (.bool r1) ∧ IsS93 w0 w' g s0_0 r2 r3 ∧ Below w0.heap.size w0 w' ∧ KeepBut w w' g none := by
 have HI0 := Aside0.mk hI
 have HK := Aside0.mk (KeepBut.refl w g none)
 have HL := Aside0.mk hB.size
 clear hI
 have HW0 := Aside0.mk hB.size
 have HB := Aside0.mk hB
 clear hB
 have H : ((spec_l1Cur_pick.f s0_0 s0_1 s0_2 a1).bind fun bt148 => (some ((bt148.1 == 0), bt148.2.1, bt148.2.2))) = some (r1, r2, r3) := h
 clear h
 replace H := Option.bind_eq_some_iff.mp H
 obtain ⟨⟨t148, t149, t150⟩, A30, H⟩ := H
 have A3 := Aside0.mk A30
 clear A30
 simp only [Option.some.injEq, Prod.mk.injEq] at H
 obtain ⟨rfl, rfl, rfl⟩ := H
 go_enter Try.func115, Try.ntmps115
 go_wp2_with (first | (go_at_call 90; (with_reducible refine (spec_l1Cur_pick.calls g s0_0 s0_1 s0_2 a1 t148 t149 t150 w0 _ ?side1 ?side2 A3.out).mono ?_); (case side1 => exact (isS93 HI0.out)); (case side2 => exact (belS93 HB.out HI0.out)); rintro e w4 ⟨rfl, hi, hb, hk⟩; replace HK := Aside0.mk (KeepBut.trans (kez HK.out) hk (.inl rfl)); replace HB := Aside0.mk (hb); replace HI0 := Aside0.mk (hi); (try clear hb); (try clear hb2); (try clear hk); (try clear hi)))
 go_ret
 exact ⟨by first | rfl | simp [*], (isS93 HI0.out), (belS93 HB.out HI0.out), (kez HK.out)⟩

/-! ### spec_l1Cur_body: function 108 -/
def spec_l1Cur_body.l0 : Nat → ByteArray → Int → List Int → Int → Int → Option (ByteArray × Int × Int)
 | 0, _, _, _, _, _ => none
 | k + 1, x3, x4, x1000, x1001, x1002 => if x4 > 0 then ((spec_l1Cur_of.f x1000 x1001 x1002 (([(⟨#[97]⟩ : ByteArray), (⟨#[116, 101, 110, 32, 98, 121, 116, 101, 115, 46]⟩ : ByteArray), (⟨#[115, 105, 120, 116, 101, 101, 110, 32, 98, 121, 116, 101, 115, 32, 46, 46]⟩ : ByteArray), (⟨#[]⟩ : ByteArray)] : List ByteArray))).bind fun bt157 => (if x3.size + bt157.1.size ≤ 9223372036854775807 then (spec_l1Cur_body.l0 k (x3 ++ bt157.1) (wrap64 (x4 - 1)) x1000 bt157.2.1 bt157.2.2) else (none))) else ((spec_l1Cur_one.f x1000 x1001 x1002 20).bind fun bt160 => (if bt160.1 = true then ((spec_l1Cur_pick.f x1000 bt160.2.1 bt160.2.2 3).bind fun bt163 => (if 0 ≤ (wrap64 (159 + bt163.1)) then (if (wrap64 (159 + bt163.1) : Int).toNat ≤ 281474976710656 then (some (strOfNums (List.replicate (wrap64 (159 + bt163.1) : Int).toNat 0), bt163.2.1, bt163.2.2)) else (none)) else (none))) else (some (x3, bt160.2.1, bt160.2.2))))
def spec_l1Cur_body.f (k : Nat) (s0_0 : List Int) (s0_1 : Int) (s0_2 : Int) : Option (ByteArray × Int × Int) := (spec_l1Cur_pick.f s0_0 s0_1 s0_2 6).bind fun bt151 => (spec_l1Cur_body.l0 k (⟨#[]⟩ : ByteArray) (wrap64 (1 + bt151.1)) s0_0 bt151.2.1 bt151.2.2)
set_option maxRecDepth 100000 in
theorem spec_l1Cur_body.mono_l : ∀ k, (∀ y0 y1 y2 y3 y4, LeO (spec_l1Cur_body.l0 k y0 y1 y2 y3 y4) (spec_l1Cur_body.l0 (k + 1) y0 y1 y2 y3 y4))
 | 0 => fun _ _ _ _ _ r h => by first | (unfold spec_l1Cur_body.l0 at h; cases h; done) | simp [spec_l1Cur_body.l0] at h
 | k + 1 => by
  have ih0 := spec_l1Cur_body.mono_l k
  ·intro y0 y1 y2 y3 y4
   unfold spec_l1Cur_body.l0
   with_reducible repeat' first | exact ih0 _ _ _ _ _ | exact LeO.refl _ | exact LeO.none _ | refine LeO.ite ?_ ?_ | refine LeO.bind ?_ (fun _ => ?_)
theorem spec_l1Cur_body.mono : ∀ a0 a1 a2 k, LeO (spec_l1Cur_body.f k a0 a1 a2) (spec_l1Cur_body.f (k + 1) a0 a1 a2) := by
 intro a0 a1 a2 k
 have ih0 := spec_l1Cur_body.mono_l k
 unfold spec_l1Cur_body.f
 with_reducible repeat' first | exact ih0 _ _ _ _ _ | exact LeO.refl _ | exact LeO.none _ | refine LeO.ite ?_ ?_ | refine LeO.bind ?_ (fun _ => ?_)
set_option maxHeartbeats 8000000 in
set_option maxRecDepth 100000 in
theorem spec_l1Cur_body.calls (k : Nat) (g : Nat) (s0_0 : List Int) (s0_1 : Int) (s0_2 : Int) (r1 : ByteArray) (r2 : Int) (r3 : Int) (w0 w : World) (hI : IsS93 w0 w g s0_0 s0_1 s0_2) (hB : Below w0.heap.size w0 w) (h : spec_l1Cur_body.f k s0_0 s0_1 s0_2 = some (r1, r2, r3)) :
  Calls Try.prog 108 #[.pointer (some ⟨g, 0, none⟩)] w fun e w' => e = .returned (.string r1) ∧ IsS93 w0 w' g s0_0 r2 r3 ∧ Below w0.heap.size w0 w' ∧ KeepBut w w' g none := by
 have HI0 := Aside0.mk hI
 have HK := Aside0.mk (KeepBut.refl w g none)
 have HL := Aside0.mk hB.size
 clear hI
 have HW0 := Aside0.mk hB.size
 have HB := Aside0.mk hB
 clear hB
 have H : ((spec_l1Cur_pick.f s0_0 s0_1 s0_2 6).bind fun bt151 => (spec_l1Cur_body.l0 k (⟨#[]⟩ : ByteArray) (wrap64 (1 + bt151.1)) s0_0 bt151.2.1 bt151.2.2)) = some (r1, r2, r3) := h
 clear h
 replace H := Option.bind_eq_some_iff.mp H
 obtain ⟨⟨t151, t152, t153⟩, A20, H⟩ := H
 have A2 := Aside0.mk A20
 clear A20
 have H' := Aside0.mk H
 clear H
 go_enter Try.func108, Try.ntmps108
 go_wp2_with (first | (go_at_call 90; (with_reducible refine (spec_l1Cur_pick.calls g s0_0 s0_1 s0_2 6 t151 t152 t153 w0 _ ?side1 ?side2 A2.out).mono ?_); (case side1 => exact (isS93 HI0.out)); (case side2 => exact (belS93 HB.out HI0.out)); rintro e w3 ⟨rfl, hi, hb, hk⟩; replace HK := Aside0.mk (KeepBut.trans (kez HK.out) hk (.inl rfl)); replace HB := Aside0.mk (hb); replace HI0 := Aside0.mk (hi); (try clear hb); (try clear hb2); (try clear hk); (try clear hi)))
 go_loopg [3, 4] k (fun kq v3 v4 w' => ∃ (x3_1 : ByteArray) (x4_1 : Int) (x1001_1 : Int) (x1002_1 : Int), v3 = .string x3_1 ∧ v4 = .int .i64 x4_1 ∧ Aside0 (spec_l1Cur_body.l0 kq x3_1 x4_1 s0_0 x1001_1 x1002_1 = some (r1, r2, r3)) ∧ Aside0 (kq ≤ k) ∧ Aside0 (IsS93 w0 w' g s0_0 x1001_1 x1002_1) ∧ Aside0 (KeepBut w w' g none) ∧ Aside0 (Below w0.heap.size w0 w'))
 case atStart => exact ⟨((⟨#[]⟩ : ByteArray)), (wrap64 (1 + t151)), (t152), (t153), (by first | rfl | simp [*]), (by first | rfl | simp [*]), H', ⟨Nat.le_refl _⟩, ⟨(isS93 HI0.out)⟩, ⟨(kez HK.out)⟩, ⟨(belS93 HB.out HI0.out)⟩⟩
 case round =>
  clear H'
  try clear c1; try clear p2
  obtain ⟨x3_1, x4_1, x1001_1, x1002_1, rfl, rfl, HA, HK1, HI0, HK, HB⟩ := hrel
  cases gk with
  | zero => exact absurd HA.out (by first | (unfold spec_l1Cur_body.l0; exact fun h_ => nomatch h_) | simp [spec_l1Cur_body.l0])
  | succ k1 =>
   have H := HA.out
   clear HA
   simp only [spec_l1Cur_body.l0] at H
   by_cases c4 : x4_1 > 0
   ·rw [if_pos c4] at H
    have c4b0 := decide_eq_true c4
    clear c4
    obtain ⟨y154, hy154⟩ : ∃ y_ : List ByteArray, y_ = (([(⟨#[97]⟩ : ByteArray), (⟨#[116, 101, 110, 32, 98, 121, 116, 101, 115, 46]⟩ : ByteArray), (⟨#[115, 105, 120, 116, 101, 101, 110, 32, 98, 121, 116, 101, 115, 32, 46, 46]⟩ : ByteArray), (⟨#[]⟩ : ByteArray)] : List ByteArray)) := ⟨_, rfl⟩
    replace H : ((spec_l1Cur_of.f s0_0 x1001_1 x1002_1 y154).bind fun bt157 => (if x3_1.size + bt157.1.size ≤ 9223372036854775807 then (spec_l1Cur_body.l0 k1 (x3_1 ++ bt157.1) (wrap64 (x4_1 - 1)) s0_0 bt157.2.1 bt157.2.2) else (none))) = some (r1, r2, r3) := by first | (rw [hy154]; with_reducible exact H) | (have H2_ := (Option.bind_some _ _).symm.trans H; rw [hy154]; with_reducible exact H2_) | (have H2_ := (Option.bind_some _ _).symm.trans H; with_reducible exact H2_) | with_reducible exact H | (rw [hy154]; exact H) | exact H
    have Ny154 := Aside0.mk hy154
    clear hy154
    replace H := Option.bind_eq_some_iff.mp H
    obtain ⟨⟨t157, t158, t159⟩, A50, H⟩ := H
    have A5 := Aside0.mk A50
    clear A50
    by_cases c6 : x3_1.size + t157.size ≤ 9223372036854775807
    ·rw [if_pos c6] at H
     have c6b0 := eq_true c6
     have c6b1 := decide_eq_true c6
     try have c6b2 : (9223372036854775807 < x3_1.size + t157.size) = False := eq_false (Nat.not_lt.2 c6)
     have H' := Aside0.mk H
     clear H
     go_wp2_with (first | ((with_reducible refine gate_dst (N := 14) rfl ?_); refine Kd.R_lit Kd.string _ 9 ?hg (N := 14) ?hd (xs := ([(⟨#[97]⟩ : ByteArray), (⟨#[116, 101, 110, 32, 98, 121, 116, 101, 115, 46]⟩ : ByteArray), (⟨#[115, 105, 120, 116, 101, 101, 110, 32, 98, 121, 116, 101, 115, 32, 46, 46]⟩ : ByteArray), (⟨#[]⟩ : ByteArray)] : List ByteArray)) (inner := [.string (⟨#[97]⟩ : ByteArray), .string (⟨#[116, 101, 110, 32, 98, 121, 116, 101, 115, 46]⟩ : ByteArray), .string (⟨#[115, 105, 120, 116, 101, 101, 110, 32, 98, 121, 116, 101, 115, 32, 46, 46]⟩ : ByteArray), .string (⟨#[]⟩ : ByteArray)]) (ok := fun _ => True) (okp := fun _ => True) ?hr ?hp (fun _ hk => hk) trivial (Below.refl _ _) (Nat.le_refl _) (by simp) ?_; (case hd => rfl); (case hg => rfl); (case hr => first | (go_simp; done) | (go_simp; rfl)); (case hp => exact (Reps.one (show Kd.M Kd.string _ _ _ (⟨#[97]⟩ : ByteArray) [.string (⟨#[97]⟩ : ByteArray)] from rfl) (Reps.one (show Kd.M Kd.string _ _ _ (⟨#[116, 101, 110, 32, 98, 121, 116, 101, 115, 46]⟩ : ByteArray) [.string (⟨#[116, 101, 110, 32, 98, 121, 116, 101, 115, 46]⟩ : ByteArray)] from rfl) (Reps.one (show Kd.M Kd.string _ _ _ (⟨#[115, 105, 120, 116, 101, 101, 110, 32, 98, 121, 116, 101, 115, 32, 46, 46]⟩ : ByteArray) [.string (⟨#[115, 105, 120, 116, 101, 101, 110, 32, 98, 121, 116, 101, 115, 32, 46, 46]⟩ : ByteArray)] from rfl) (Reps.one (show Kd.M Kd.string _ _ _ (⟨#[]⟩ : ByteArray) [.string (⟨#[]⟩ : ByteArray)] from rfl) (Reps.none _ _)))))); intro v155 w7 ho8 hb hg_ hnew_; clear hg_ hnew_; (first | rw [← Ny154.out] at ho8 | (simp only [Int.reduceToNat] at ho8; rw [← Ny154.out] at ho8)); have HO156 := Aside0.mk (Kd.R_lower ho8 (keep_size (w := w) (g := g) (row := none) (kez HK.out))); replace HK := Aside0.mk (KeepBut.trans (kez HK.out) (KeepBut.of_below hb g none) (.inl rfl)); replace HB := Aside0.mk (below_step (belS93 HB.out HI0.out) hb); replace HI0 := Aside0.mk (IsS93.below (isS93 HI0.out) hb); clear hb ho8; obtain ⟨Ao9, co9, eo9⟩ := Kd.R_slice HO156.out; subst eo9) | (go_at_call 116; (with_reducible refine (spec_l1Cur_of.calls g s0_0 x1001_1 x1002_1 _ _ y154 t157 t158 t159 w0 _ ?side1 ?side2 ?side3 ?side4 ?side5 A5.out).mono ?_); (case side1 => exact (isS93 HI0.out)); (case side2 => exact (belS93 HB.out HI0.out)); (case side3 => repeat (first | exact (Kd.R_reads' HO156.out).2.2 | (with_reducible refine Kd.C_alloc ?_ _) | (with_reducible refine Kd.C_drewN ?_ _) | (with_reducible refine Kd.C_drew ?_))); (case side4 => exact (Kd.R_reads' HO156.out).2.1); (case side5 => exact far_slice (IsS93.own_ne HI0.out HO156.out (by decide))); rintro e w10 ⟨rfl, hi, hb, hk⟩; replace HO156 := Aside0.mk (Kd.R_mono (Kd.R_keep (IsS93.apart (show IsS93 w0 _ g s0_0 x1001_1 x1002_1 from (isS93 HI0.out)) (kdr HO156.out) (by decide)) hk (fun _ h => h.2)) (fun _ h => h.1)); replace HK := Aside0.mk (KeepBut.trans (kez HK.out) hk (.inl rfl)); replace HB := Aside0.mk (hb); replace HI0 := Aside0.mk (hi); (try clear hb); (try clear hb2); (try clear hk); (try clear hi)))
     go_roundg k1
     case measure => have := HK1.out; omega
     case rel => exact ⟨(x3_1 ++ t157), (wrap64 (x4_1 - 1)), (t158), (t159), (by first | rfl | simp [*]), (by first | rfl | simp [*]), H', ⟨by have := HK1.out; omega⟩, ⟨(isS93 HI0.out)⟩, ⟨(kez HK.out)⟩, ⟨(belS93 HB.out HI0.out)⟩⟩
    ·rw [if_neg c6] at H
     exact absurd H (by simp)
   ·rw [if_neg c4] at H
    have c4b0 := decide_eq_false c4
    clear c4
    replace H := Option.bind_eq_some_iff.mp H
    obtain ⟨⟨t160, t161, t162⟩, A110, H⟩ := H
    have A11 := Aside0.mk A110
    clear A110
    by_cases c12 : t160 = true
    ·subst c12
     have H1 : ((spec_l1Cur_pick.f s0_0 t161 t162 3).bind fun bt163 => (if 0 ≤ (wrap64 (159 + bt163.1)) then (if (wrap64 (159 + bt163.1) : Int).toNat ≤ 281474976710656 then (some (strOfNums (List.replicate (wrap64 (159 + bt163.1) : Int).toNat 0), bt163.2.1, bt163.2.2)) else (none)) else (none))) = some (r1, r2, r3) := by rw [if_pos rfl] at H; exact H
     clear H
     have H := H1
     clear H1
     replace H := Option.bind_eq_some_iff.mp H
     obtain ⟨⟨t163, t164, t165⟩, A130, H⟩ := H
     have A13 := Aside0.mk A130
     clear A130
     obtain ⟨ji14, hji14⟩ : ∃ j_ : Int, (wrap64 (159 + t163)) = j_ := ⟨_, rfl⟩
     replace H : (if 0 ≤ (ji14) then (if (ji14 : Int).toNat ≤ 281474976710656 then (some (strOfNums (List.replicate (ji14 : Int).toNat 0), t164, t165)) else (none)) else (none)) = some (r1, r2, r3) := by first | (rw [hji14] at H; exact H) | (simp only [hji14] at H ⊢; exact H)
     (try rw [hji14] at A11)
     (try rw [hji14] at A13)
     have hji14w : (IntKind.i64.wrap (159 + t163)) = ji14 := (i64_w _).trans hji14
     by_cases c15 : 0 ≤ (ji14)
     ·rw [if_pos c15] at H
      have c15b0 := eq_true c15
      have c15b1 := decide_eq_true c15
      clear c15
      by_cases c16 : (ji14 : Int).toNat ≤ 281474976710656
      ·rw [if_pos c16] at H
       have c16b0 := eq_true c16
       have c16b1 := decide_eq_true c16
       clear c16
       obtain ⟨y166, hy166⟩ : ∃ y_ : List Int, y_ = (List.replicate (ji14 : Int).toNat 0) := ⟨_, rfl⟩
       replace H : (some (strOfNums y166, t164, t165)) = some (r1, r2, r3) := by first | (rw [hy166]; with_reducible exact H) | (have H2_ := (Option.bind_some _ _).symm.trans H; rw [hy166]; with_reducible exact H2_) | (have H2_ := (Option.bind_some _ _).symm.trans H; with_reducible exact H2_) | with_reducible exact H | (rw [hy166]; exact H) | exact H
       have Ny166 := Aside0.mk hy166
       clear hy166
       simp only [Option.some.injEq, Prod.mk.injEq] at H
       obtain ⟨rfl, rfl, rfl⟩ := H
       go_wp2_with (first | (go_at_call 115; (with_reducible refine (spec_l1Cur_one.calls g s0_0 x1001_1 x1002_1 20 true t161 t162 w0 _ ?side1 ?side2 A11.out).mono ?_); (case side1 => exact (isS93 HI0.out)); (case side2 => exact (belS93 HB.out HI0.out)); rintro e w17 ⟨rfl, hi, hb, hk⟩; replace HK := Aside0.mk (KeepBut.trans (kez HK.out) hk (.inl rfl)); replace HB := Aside0.mk (hb); replace HI0 := Aside0.mk (hi); (try clear hb); (try clear hb2); (try clear hk); (try clear hi)) | (go_at_call 90; (with_reducible refine (spec_l1Cur_pick.calls g s0_0 t161 t162 3 t163 t164 t165 w0 _ ?side1 ?side2 A13.out).mono ?_); (case side1 => exact (isS93 HI0.out)); (case side2 => exact (belS93 HB.out HI0.out)); rintro e w18 ⟨rfl, hi, hb, hk⟩; replace HK := Aside0.mk (KeepBut.trans (kez HK.out) hk (.inl rfl)); replace HB := Aside0.mk (hb); replace HI0 := Aside0.mk (hi); (try clear hb); (try clear hb2); (try clear hk); (try clear hi)) | ((with_reducible refine gate_dst (N := 22) rfl ?_); refine Kd.R_make (Kd.int .u8) _ 5 rfl (N := 22) rfl 33 _ _ rfl ji14 rfl rfl Try.underlying33 (.int .u8 0) 1 info5 rfl (by decide) (by omega) 0 (ok := fun _ => True) (okp := fun _ => True) rfl (fun _ hk => hk) trivial (of_decide_eq_true (by assumption)) (Nat.le_trans (Nat.mul_le_mul_right _ (of_decide_eq_true (by assumption) : ji14.toNat ≤ 281474976710656)) (by omega)) (Below.refl _ _) (Nat.le_refl _) ?_; intro v167 w19 ho20 hb hg_ hnew_; clear hg_ hnew_; (first | rw [← Ny166.out] at ho20 | (simp only [Int.reduceToNat] at ho20; rw [← Ny166.out] at ho20)); have HO168 := Aside0.mk (Kd.R_lower ho20 (keep_size (w := w) (g := g) (row := none) (kez HK.out))); replace HK := Aside0.mk (KeepBut.trans (kez HK.out) (KeepBut.of_below hb g none) (.inl rfl)); replace HB := Aside0.mk (below_step (belS93 HB.out HI0.out) hb); replace HI0 := Aside0.mk (IsS93.below (isS93 HI0.out) hb); clear hb ho20; have hcv21 := own_string (P := Try.prog) Try.underlying33 Try.underlying5 Try.underlying9 (Kd.own_of_R HO168.out)))
       go_ret
       exact ⟨by first | rfl | (simp [errW_none, errW_some] <;> rfl) | (simp only [← hji14]; first | rfl | (simp [errW_none, errW_some] <;> rfl)) | (simp [*, errW_none, errW_some] <;> rfl), (isS93 HI0.out), (belS93 HB.out HI0.out), (kez HK.out)⟩
      ·rw [if_neg c16] at H
       exact absurd H (by simp)
     ·rw [if_neg c15] at H
      exact absurd H (by simp)
    ·replace c12 := Bool.eq_false_iff.mpr c12
     subst c12
     have H1 : (some (x3_1, t161, t162)) = some (r1, r2, r3) := by rw [if_neg (show ¬ (false = true) by decide)] at H; exact H
     clear H
     have H := H1
     clear H1
     simp only [Option.some.injEq, Prod.mk.injEq] at H
     obtain ⟨rfl, rfl, rfl⟩ := H
     go_wp2_with (first | (go_at_call 115; (with_reducible refine (spec_l1Cur_one.calls g s0_0 x1001_1 x1002_1 20 false t161 t162 w0 _ ?side1 ?side2 A11.out).mono ?_); (case side1 => exact (isS93 HI0.out)); (case side2 => exact (belS93 HB.out HI0.out)); rintro e w22 ⟨rfl, hi, hb, hk⟩; replace HK := Aside0.mk (KeepBut.trans (kez HK.out) hk (.inl rfl)); replace HB := Aside0.mk (hb); replace HI0 := Aside0.mk (hi); (try clear hb); (try clear hb2); (try clear hk); (try clear hi)))
     go_ret
     exact ⟨by first | rfl | simp [*], (isS93 HI0.out), (belS93 HB.out HI0.out), (kez HK.out)⟩

/-! ### spec_DrawFrameAll: function 34 -/
def spec_DrawFrameAll.f (k : Nat) (l0 : List Int) : Option (Int × Int × Int × ByteArray) := (spec_l1Cur_frame.f l0 0 0).bind fun bt170 => ((spec_l1Cur_body.f k l0 bt170.2.2.2.2.1 bt170.2.2.2.2.2).bind fun bt177 => (some (bt170.1, bt170.2.1, bt170.2.2.1, bt177.1)))
theorem spec_DrawFrameAll.mono : ∀ a0 k, LeO (spec_DrawFrameAll.f k a0) (spec_DrawFrameAll.f (k + 1) a0) := by
 intro a0 k
 unfold spec_DrawFrameAll.f
 with_reducible repeat' first | exact spec_l1Cur_body.mono _ _ _ _ | exact LeO.refl _ | exact LeO.none _ | refine LeO.ite ?_ ?_ | refine LeO.bind ?_ (fun _ => ?_)
def spec_DrawFrameAll.T3 : Bool × List (List Nat × List Nat) := (true, [([], []), ([0], [0]), ([], []), ([2], [2]), ([], []), ([4], [4]), ([], []), ([6], [6]), ([1, 7, 0, 1], [1]), ([3, 8, 0, 1, 2, 3, 8], [3]), ([5, 9, 0, 1, 2, 3, 4, 5, 8, 9], [5]), ([7, 10, 0, 1, 2, 3, 4, 5, 6, 7, 8, 9, 10], [7])])
def spec_DrawFrameAll.B3 : List Nat := [0, 1, 0, 4, 0, 16, 0, 64, 195, 463, 1023, 2047]
theorem spec_DrawFrameAll.tab3 : rtab .any (opsOf Try.f34 3) = spec_DrawFrameAll.T3 := by kernel_rfl
theorem spec_DrawFrameAll.bits3 : waitsOk spec_DrawFrameAll.T3.2 spec_DrawFrameAll.B3 = true := by kernel_rfl
set_option maxHeartbeats 8000000 in
set_option maxRecDepth 100000 in
theorem spec_DrawFrameAll.calls (k : Nat) (A0 : Option Addr) (c0 : Nat) (l0 : List Int) (r1 : Int) (r2 : Int) (r3 : Int) (r4 : ByteArray) (w : World) (hr0 : Kd.C (Kd.int .u8) w A0 l0.length l0) (hc0 : l0.length ≤ c0) (h : spec_DrawFrameAll.f k l0 = some (r1, r2, r3, r4)) :
  Calls Try.prog 34 #[.slice A0 l0.length c0] w fun e w' => e = .returned (.tuple #[.int .i64 r1, .int .i64 r2, .int .i64 r3, .string r4]) ∧ Below w.heap.size w w' := by
 have hu93 := Try.underlying93
 have hu102 := Try.underlying102
 have HR0 := Aside0.mk hr0
 have HC0 := Aside0.mk hc0
 clear hr0 hc0
 have HB := Aside0.mk (Below.refl w.heap.size w)
 have H : ((spec_l1Cur_frame.f l0 0 0).bind fun bt170 => ((spec_l1Cur_body.f k l0 bt170.2.2.2.2.1 bt170.2.2.2.2.2).bind fun bt177 => (some (bt170.1, bt170.2.1, bt170.2.2.1, bt177.1)))) = some (r1, r2, r3, r4) := h
 clear h
 replace H := Option.bind_eq_some_iff.mp H
 obtain ⟨⟨t170, t171, t172, t173, t174, t175⟩, A20, H⟩ := H
 have A2 := Aside0.mk A20
 clear A20
 replace H := Option.bind_eq_some_iff.mp H
 obtain ⟨⟨t177, t178, t179⟩, A30, H⟩ := H
 have A3 := Aside0.mk A30
 clear A30
 simp only [Option.some.injEq, Prod.mk.injEq] at H
 obtain ⟨rfl, rfl, rfl, rfl⟩ := H
 go_enter Try.func34, Try.ntmps34
 try go_wp2_with (first | ((with_reducible refine gate_dst (N := 10) rfl ?_); refine boxE 10 #[.slice A0 l0.length c0, .int .i64 0, .int .u64 0] 93 ?_; intro gb169 hg w4 hbox hb; have HI169 := Aside0.mk ((⟨_, _, hbox, by rw [hg]; exact (below_size (bez HB.out)), HR0.out⟩ : IsS93 w w4 gb169 l0 0 0)); replace HB := Aside0.mk (below_step (bez HB.out) hb); clear hb hbox hg) | (go_at_call 107; (with_reducible refine (spec_l1Cur_frame.calls gb169 l0 0 0 t170 t171 t172 t173 t174 t175 w _ ?side1 ?side2 A2.out).mono ?_); (case side1 => exact (isS93 HI169.out)); (case side2 => exact (belS93 HB.out HI169.out)); rintro e w5 ⟨rfl, hi, hb, hk⟩; replace HB := Aside0.mk (hb); replace HI169 := Aside0.mk (hi); (try clear hb); (try clear hb2); (try clear hk); (try clear hi)) | ((with_reducible refine gate_dst (N := 7) rfl ?_); refine boxE 7 #[.int .i64 0, .int .i64 0, .int .i64 0, .string (⟨#[]⟩ : ByteArray)] 102 ?_; intro gb176 hg w6 hbox hb; have BK176 := Aside0.mk (hbox); have GW176 := Aside0.mk ((by rw [hg]; exact (below_size (belS93 HB.out HI169.out)) : w.heap.size ≤ gb176)); have GE176 := Aside0.mk ((by rw [hg]; exact (below_size (belS93 HB.out HI169.out)) : w.heap.size ≤ gb176)); replace HB := Aside0.mk (below_step (belS93 HB.out HI169.out) hb); have NB169_176 := Aside0.mk ((by rw [hg]; exact Nat.ne_of_lt (IsS93.lt (show IsS93 w _ gb169 l0 t174 t175 from (isS93 HI169.out))) : gb169 ≠ gb176)); have NB176_169 := Aside0.mk ((by rw [hg]; exact Nat.ne_of_gt (IsS93.lt (show IsS93 w _ gb169 l0 t174 t175 from (isS93 HI169.out))) : gb176 ≠ gb169)); replace HI169 := Aside0.mk (IsS93.below (isS93 HI169.out) hb); clear hb hbox hg; have hnb7 := NB176_169.out; have hnc7 := NB169_176.out; obtain ⟨⟨hcz8_0, hcz8_1, hcz8_2, hcz8_3⟩, hfz8_0, hfz8_1, hfz8_2, hfz8_3⟩ := blk4 BK176.out))
 have n0_ : Aside0 (((((w6.setCell ⟨gb176, 0, none⟩ (.int .i64 t170)).setCell ⟨gb176, 1, none⟩ (.int .i64 t171)).setCell ⟨gb176, 2, none⟩ (.int .i64 t172)).setCell ⟨gb176, 3, none⟩ (.string t173)).heap[gb176]? = some (.cells #[.int .i64 t170, .int .i64 t171, .int .i64 t172, .string t173] 102 (0, 0))) := ⟨by (with_reducible repeat (first | refine blk_drewN ?_ _ | refine blk_drew ?_ | refine blk_alloc ?_ _)); refine blk_put (cs := #[.int .i64 t170, .int .i64 t171, .int .i64 t172, .string (⟨#[]⟩ : ByteArray)]) ?_ 3 _ rfl; (with_reducible repeat (first | refine blk_drewN ?_ _ | refine blk_drew ?_ | refine blk_alloc ?_ _)); refine blk_put (cs := #[.int .i64 t170, .int .i64 t171, .int .i64 0, .string (⟨#[]⟩ : ByteArray)]) ?_ 2 _ rfl; (with_reducible repeat (first | refine blk_drewN ?_ _ | refine blk_drew ?_ | refine blk_alloc ?_ _)); refine blk_put (cs := #[.int .i64 t170, .int .i64 0, .int .i64 0, .string (⟨#[]⟩ : ByteArray)]) ?_ 1 _ rfl; (with_reducible repeat (first | refine blk_drewN ?_ _ | refine blk_drew ?_ | refine blk_alloc ?_ _)); refine blk_put (cs := #[.int .i64 0, .int .i64 0, .int .i64 0, .string (⟨#[]⟩ : ByteArray)]) ?_ 0 _ rfl; (with_reducible repeat (first | refine blk_drewN ?_ _ | refine blk_drew ?_ | refine blk_alloc ?_ _)); exact BK176.out⟩
 have n1_ : Aside0 (IsS93 w ((((w6.setCell ⟨gb176, 0, none⟩ (.int .i64 t170)).setCell ⟨gb176, 1, none⟩ (.int .i64 t171)).setCell ⟨gb176, 2, none⟩ (.int .i64 t172)).setCell ⟨gb176, 3, none⟩ (.string t173)) gb169 l0 t174 t175) := ⟨(isT93 HI169.out)⟩
 have n2_ : Aside0 (Below w.heap.size w ((((w6.setCell ⟨gb176, 0, none⟩ (.int .i64 t170)).setCell ⟨gb176, 1, none⟩ (.int .i64 t171)).setCell ⟨gb176, 2, none⟩ (.int .i64 t172)).setCell ⟨gb176, 3, none⟩ (.string t173))) := ⟨(belT93 HB.out HI169.out)⟩
 (try clear BK176)
 (try clear HI169)
 (try clear HB)
 generalize ((((w6.setCell ⟨gb176, 0, none⟩ (.int .i64 t170)).setCell ⟨gb176, 1, none⟩ (.int .i64 t171)).setCell ⟨gb176, 2, none⟩ (.int .i64 t172)).setCell ⟨gb176, 3, none⟩ (.string t173)) = w9 at n0_ n1_ n2_ ⊢
 have BK176 := n0_
 have HI169 := n1_
 have HB := n2_
 clear n0_ n1_ n2_
 replace BK176 := Aside0.mk (blk_drew BK176.out)
 replace HI169 := Aside0.mk (IsS93.drew HI169.out)
 replace HB := Aside0.mk (below_drew1 HB.out)
 refine start_ (n := 12) (S := fun w' => C4 w' gb176 (.int .i64 t170) (.int .i64 t171) (.int .i64 t172) (.string t173)) (ds := []) (bs 12 0) (by kernel_rfl) rfl rfl ⟨(blk_cell BK176.out 0).trans rfl, (blk_cell BK176.out 1).trans rfl, (blk_cell BK176.out 2).trans rfl, (blk_cell BK176.out 3).trans rfl⟩ (fun hHeld => ?_); refine with_tabW spec_DrawFrameAll.tab3 spec_DrawFrameAll.bits3 (fun HT_ HW_ => ?_)
 generalize w9.drew = w10 at BK176 HI169 HB hHeld ⊢
 refine pureS 0 13 (bs 12 1) HT_.out (h := ?_)
 refine pureS 2 15 (bs 12 5) HT_.out (h := ?_)
 refine pureS 4 17 (bs 12 21) HT_.out (h := ?_)
 refine pureS 6 19 (bs 12 85) HT_.out (h := ?_)
 refine takeS 1 14 (bs 12 87) HT_.out HW_.out hHeld (h := ?_)
 refine takeS 3 16 (bs 12 95) HT_.out HW_.out hHeld (h := ?_)
 refine takeS 5 18 (bs 12 127) HT_.out HW_.out hHeld (h := ?_)
 refine one_ (i := 7) (N := some 20) (bs 12 255) rfl rfl (one_of HT_.out (by kernel_rfl)) (by decide) (fun K hK => ?_)
 refine goes_ Try.func108 (by kernel_rfl) rfl #[.pointer (some ⟨gb169, 0, none⟩)] (by rfl) rfl rfl (by (try simp only [List.map_toArray, List.map_cons, List.map_nil]); first | done | rfl | (simp only [List.length_drop, List.length_take]; rfl)) ?_
 with_reducible refine (spec_l1Cur_body.calls k gb169 l0 t174 t175 t177 t178 t179 w _ ?side1 ?side2 A3.out).mono ?_
 (case side1 => exact (isT93 HI169.out))
 (case side2 => exact (belT93 HB.out HI169.out))
 rintro e w11 ⟨rfl, hi, hb, hk⟩
 refine ⟨_, rfl, ?_⟩
 replace BK176 := Aside0.mk (KeepBut.blk hk (g' := gb176) (o := .cells #[.int .i64 t170, .int .i64 t171, .int .i64 t172, .string t173] 102 (0, 0)) (blkd BK176.out) NB176_169.out (by simp))
 replace HB := Aside0.mk (hb)
 replace HI169 := Aside0.mk (hi)
 (try clear hb)
 (try clear hb2)
 (try clear hk)
 (try clear hi)
 refine hK.out _ _ ⟨(blk_cell BK176.out 0).trans rfl, (blk_cell BK176.out 1).trans rfl, (blk_cell BK176.out 2).trans rfl, (blk_cell BK176.out 3).trans rfl⟩ (fun hHeld => ?_)
 clear hK K
 refine norm_ (a' := ?_) ?_ ?_
 rotate_left
 ·show Act.put _ (some 20) _ = _
  simp only [Act.put, List.setIfInBounds_toArray, List.set_cons_zero, List.set_cons_succ, i64_w, i32_w]
  rfl
 refine pureS 8 2 (bs 12 511) HT_.out (h := ?_)
 refine pureS 9 3 (bs 12 1023) HT_.out (h := ?_)
 refine pureS 10 4 (bs 12 2047) HT_.out (h := ?_)
 refine pureS 11 5 (bs 12 4095) HT_.out (h := ?_)
 refine done_ (done_of HT_.out (by kernel_rfl)) ?_
 try go_wp2
 refine bodyPost_ret (results_list (rs := [.tmp 2, .tmp 3, .tmp 4, .tmp 5]) rfl (by simp) (.tmp (.tmp (.tmp (.tmp .nil))))) rfl ?_
 exact ⟨by first | rfl | simp [*], (belT93 HB.out HI169.out)⟩

end Go.Proofs.Ytldlldfoaicjcaa.MFnBodies
-- SHRUNK
