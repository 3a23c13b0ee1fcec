/- The machine's side of FnFrames, written by this session's program out of the kit's print of the program, with contracts of this session's own. No conditions beyond those typed. -/
import Derived.Test.YtncgojfhaagkkaaProg
import Derived.Below
import Derived.Deep.Draws
import Derived.Deep.AppendLies
import Derived.Maps.AppendAt
import Derived.OwnWalk
import Derived.Laws.BytesArg
import Derived.Laws.MakeOwn
import Derived.Laws.OwnMore
import Derived.Deep.OwnRows
import Derived.Tactics
import Derived.Lib.ConvBytes
import Derived.Laws.Slices
import Derived.WalkKit
import Derived.KernelRfl
import Derived.RowKit3
import Derived.Deep.LoopGhost
import Derived.Deep.QuietTactic
import Derived.BigQuiet
import Derived.WideLaws
import Derived.Deep.DeepCutAuto
import Derived.Deep.CutBlock
import Derived.Deep.RegionHeld3
import Derived.Laws.Rows
import Derived.Lib.AppendStr
import Derived.ArgAppend
import Derived.Laws.IdiomCopy
import Derived.OrdersHeld
import Derived.Laws.BitsLemmas
import Derived.RowKit
import Derived.Laws.IdiomStrings
import Derived.Shelf.Abstract
import Derived.Lib.SliceRun
import Derived.Test.YtncgojfhaagkkaaWWords
import Derived.Test.YtncgojfhaagkkaaWLast
import Derived.Test.YtncgojfhaagkkaaWTab
import Derived.Test.YtncgojfhaagkkaaWApart
import Derived.Test.YtncgojfhaagkkaaWArr
import Derived.Test.YtncgojfhaagkkaaWZeros
import Derived.Test.YtncgojfhaagkkaaWFoot
import Derived.Test.YtncgojfhaagkkaaWKept
import Derived.Test.YtncgojfhaagkkaaWRepsOne
import Derived.Test.YtncgojfhaagkkaaWGuard
import Derived.Test.YtncgojfhaagkkaaMWore
namespace Go.Proofs.Ytncgojfhaagkkaa.MFnFrames
open Go.RowKit Go.Proofs.YtncgojfhaagkkaaW.PrintWords Go.Proofs.YtncgojfhaagkkaaW.PrintLast Go.Proofs.YtncgojfhaagkkaaW.PrintMore
attribute [local go_sem] max2_int min2_int max_two min_two max_three min_three max_four min_four   -- for this text's walks alone
set_option linter.unusedVariables false
set_option linter.unusedSimpArgs false



def errW : Option Int → Value
 | none => .nilIface
 | some c => .iface 0 (.int .i64 c)
theorem errW_none : errW none = .nilIface := rfl
theorem errW_some (c : Int) : errW (some c) = .iface 0 (.int .i64 c) := rfl

theorem info3 : (Try.prog.info? 3).map (fun i => (i.zero, i.size, i.bytes)) = some (some (.int .i64 0), 1, 8) := by kernel_rfl
theorem info5 : (Try.prog.info? 5).map (fun i => (i.zero, i.size, i.bytes)) = some (some (.int .u8 0), 1, 1) := by kernel_rfl
theorem info9 : (Try.prog.info? 9).map (fun i => (i.zero, i.size, i.bytes)) = some (some (.string ⟨#[]⟩), 1, 16) := by kernel_rfl
-- the values' own types

/-- A row of bytes that '[]byte(s)' has made: its block bears a conversion's mark behind its cells. -/
def Bw (e : Nat) (w : World) (base : Nat) (v : Value) (xs : List Int) : Prop :=
 ∃ (g cap m : Nat) (C : Array Value), v = .slice (some ⟨g, 0, none⟩) xs.length cap ∧ base ≤ g ∧ w.heap[g]? = some (.cells C e (C.size, m)) ∧ xs.length ≤ C.size ∧ ∀ j, j < xs.length → C[j]? = some (.int .u8 (xs.getD j 0))
namespace Bw
section
variable {P : Program} {ops : Array Oper} {rest : List Oper} {o : Oper} {a : Act} {Q : Exit → Act → World → Prop}
theorem conv {w0 W : World} (base e : Nat) (hgd : o.guard = none) {N : Tmp} (_hd : o.dst = some N) (t : TypeId) (s : ByteArray) {src : TypeId} {x : Operand} (ho : o.op = .convert src t x) (hx : a.eval x = .string s)
  (ht : P.underlying t = some (.slice e)) (he : P.underlying e = some (.int .u8)) (hs : P.underlying src = some .string) (HB : Below base w0 W) (hbase : base ≤ W.heap.size)
  (h : ∀ v1 w1, Bw e w1 base v1 (bytesOf s) → Below base w0 w1 → True → True → wpList P ops Q rest (a.put o.dst v1) w1) : wpList P ops Q (o :: rest) a W := by
 have hr := run_bytes_of_string W src t e s hs ht he
 refine Kd.event_run hgd (v := .slice (some ⟨W.heap.size, 0, none⟩) s.size (grownCap W s.size 0 e)) (w1 := W.drew.alloc (.cells (bytesRow s (grownCap W s.size 0 e)) e ((bytesRow s (grownCap W s.size 0 e)).size, (bytesRow s (grownCap W s.size 0 e)).size + 1))) (by simp [execOp, ho, hx, hr]) (h _ _ ?_ ((below_drew HB).alloc hbase _) trivial trivial)
 have hl : (bytesOf s).length = s.size := bytesOf_length s
 have hb : s.size ≤ (bytesRow s (grownCap W s.size 0 e)).size := by
  unfold bytesRow
  rw [Array.size_append, Array.size_map]
  exact Nat.le_add_right _ _
 refine ⟨W.heap.size, grownCap W s.size 0 e, (bytesRow s (grownCap W s.size 0 e)).size + 1, bytesRow s (grownCap W s.size 0 e), by rw [hl], hbase, ?_, by rw [hl]; exact hb, fun j hj => ?_⟩
 ·show (W.heap.push _)[W.heap.size]? = _
  simp
 ·rw [hl] at hj
  have h1 : j < s.data.size := hj
  rw [bytesRow_at s _ j h1]
  congr 2
  rw [List.getD_eq_getElem?_getD]
  unfold bytesOf
  rw [List.getElem?_map, Array.getElem?_toList, Array.getElem?_eq_getElem h1]
  rfl
end
section
variable {e base g n cap : Nat} {w w1 W : World} {v : Value} {xs : List Int}
theorem below_ (h : Bw e w base v xs) (hb : Below w.heap.size w w1) : Bw e w1 base v xs := by
 obtain ⟨g, cap, m, C, hv, h0, hh, hc, hx⟩ := h
 refine ⟨g, cap, m, C, hv, h0, ?_, hc, hx⟩
 rw [hb.block g (by
  rcases Nat.lt_or_ge g w.heap.size with h' | h'
  ·exact h'
  ·rw [Array.getElem?_eq_none h'] at hh; cases hh)]
 exact hh
theorem R_alloc (h : Bw e w base v xs) (o : Obj) : Bw e (w.alloc o) base v xs := below_ h (below_alloc (Below.refl _ _) o)
theorem R_drew (h : Bw e w base v xs) : Bw e w.drew base v xs := below_ h (below_drew (Below.refl _ _))
theorem R_drewN (h : Bw e w base v xs) (m : Nat) : Bw e (w.drewN m) base v xs := below_ h (pw_below_drewN (Below.refl _ _) m)
theorem R_lower {base' : Nat} (h : Bw e w base v xs) (hb : base' ≤ base) : Bw e w base' v xs := by
 obtain ⟨g, cap, m, C, hv, h0, hr⟩ := h
 exact ⟨g, cap, m, C, hv, Nat.le_trans hb h0, hr⟩
theorem R_slice (h : Bw e w base v xs) : ∃ A c, v = .slice A xs.length c := by
 obtain ⟨g, cap, m, C, hv, _⟩ := h
 exact ⟨_, _, hv⟩
theorem R_form (h : Bw e w base v xs) (_hp : 0 < xs.length) : ∃ g cap, v = .slice (some ⟨g, 0, none⟩) xs.length cap ∧ base ≤ g ∧ g < w.heap.size ∧ ∃ cells, ∃ fr, w.heap[g]? = some (.cells cells e fr) := by
 obtain ⟨g, cap, m, C, hv, h0, hh, _⟩ := h
 refine ⟨g, cap, hv, h0, ?_, C, _, hh⟩
 rcases Nat.lt_or_ge g w.heap.size with h' | h'
 ·exact h'
 ·rw [Array.getElem?_eq_none h'] at hh; cases hh
theorem cells_ {A : Option Addr} (h : Bw e w base (.slice A n cap) xs) : ∃ g, A = some ⟨g, 0, none⟩ ∧ n = xs.length ∧ base ≤ g ∧ ∀ j, j < xs.length → w.cell? ⟨g, j, none⟩ = some (.int .u8 (xs.getD j 0)) ∧ w.frozen? ⟨g, j, none⟩ = false := by
 obtain ⟨g, cap, m, C, hv, h0, hh, hc, hx⟩ := h
 injection hv with h1 h2 h3
 refine ⟨g, h1, h2, h0, fun j hj => ⟨?_, ?_⟩⟩
 ·unfold World.cell?
  rw [hh]
  exact hx j hj
 ·unfold World.frozen?
  rw [hh]
  simp; omega
theorem at_ {A : Option Addr} (h : Bw e w base (.slice A n cap) xs) (i : Int) (h0 : 0 ≤ i) (h1 : i < xs.length) : ∃ ad, A = some ad ∧ w.cell? (ad.add i.toNat) = some (.int .u8 (rd xs i)) := by
 obtain ⟨g, rfl, rfl, _, hc⟩ := cells_ h
 refine ⟨_, rfl, ?_⟩
 rw [add_plain]
 exact (hc i.toNat (by omega)).1
theorem R_celln (_d : Int) (h : Bw e W base (.slice (some ⟨g, 0, none⟩) n cap) xs) (i : Int) (h0 : 0 ≤ i) (hi : i < n) : W.cell? ⟨g, i.toNat, none⟩ = some (.int .u8 (rd xs i)) ∧ W.frozen? ⟨g, i.toNat, none⟩ = false := by
 obtain ⟨g', he, hn, _, hc⟩ := cells_ h
 injection he with he
 injection he with he
 subst he
 exact hc i.toNat (by omega)
theorem R_putg (h : Bw e W base (.slice (some ⟨g, 0, none⟩) n cap) xs) (i : Int) (x : Int) : Bw e (W.setCell ⟨g, i.toNat, none⟩ (.int .u8 x)) base (.slice (some ⟨g, 0, none⟩) n cap) (xs.set i.toNat x) ∧ W.grownBy (W.setCell ⟨g, i.toNat, none⟩ (.int .u8 x)) (some g) := by
 refine ⟨?_, ⟨rfl, rfl, rfl, by simp, fun k hk hne => Below.heap_setCell W _ _ k (fun e => hne (by rw [e]))⟩⟩
 obtain ⟨g', cap', m, C, hv, h0, hh, hc, hx⟩ := h
 injection hv with h1 h2 h3
 injection h1 with h1
 injection h1 with h1
 subst h1 h2 h3
 refine ⟨g, cap, m, C.setIfInBounds i.toNat (.int .u8 x), by rw [List.length_set], h0, ?_, by rw [List.length_set, Array.size_setIfInBounds]; exact hc, fun j hj => ?_⟩
 ·rw [Array.size_setIfInBounds, setCell_eq_setRow W g i.toNat C e (C.size, m) _ hh]
  exact setRow_heap W g C _ e _ hh
 ·rw [List.length_set] at hj
  rw [Array.getElem?_setIfInBounds, List.getD_eq_getElem?_getD, List.getElem?_set]
  by_cases hij : i.toNat = j
  ·rw [if_pos hij, if_pos hij, if_pos (by omega), if_pos (by omega)]; rfl
  ·rw [if_neg hij, if_neg hij, hx j hj, List.getD_eq_getElem?_getD]
theorem R_putn (h : Bw e W base (.slice (some ⟨g, 0, none⟩) n cap) xs) (i : Int) (x : Int) : Bw e (W.setCell ⟨g, i.toNat, none⟩ (.int .u8 x)) base (.slice (some ⟨g, 0, none⟩) n cap) (xs.set i.toNat x) := (R_putg h i x).1
theorem string_ {P : Program} {src dst e' : TypeId} (hs : P.underlying src = some (.slice e')) (he : P.underlying e' = some (.int .u8)) (hd : P.underlying dst = some .string) (h : Bw e w base v xs) : (convert src dst v).run P w = .ok (.string (strOfNums xs)) w := by
 obtain ⟨g, cap, m, C, rfl, h0, hh, hc, hx⟩ := h
 refine run_convert_bytes_arg w src e' hs he g 0 _ cap xs rfl (fun i hi => ?_) dst hd
 unfold World.cell?
 rw [hh]
 simpa using hx i hi
end
end Bw

end Go.Proofs.Ytncgojfhaagkkaa.MFnFrames
-- SLIMMED
