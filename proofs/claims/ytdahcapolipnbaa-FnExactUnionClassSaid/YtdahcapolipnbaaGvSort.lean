/- slices.Sort and slices.Compact of int64s in the printed form; out of the shelf's contracts. -/
import Derived.Test.YtdahcapolipnbaaShSort
import Derived.Test.YtdahcapolipnbaaWLast
import Derived.Test.YtdahcapolipnbaaWMore
import Derived.Test.YtdahcapolipnbaaWKept
import Derived.Sort.OwnSortedInts
import Derived.Lib.OwnBridge
namespace Go.Proofs.Ytdahcapolipnbaa.Gv
open Go.RowKit Go.Sort Go.Proofs.YtdahcapolipnbaaW.PrintWords Go.Proofs.YtdahcapolipnbaaW.PrintLast Go.Proofs.YtdahcapolipnbaaW.PrintMore
set_option linter.unusedVariables false
/-- A row of numbers, sorted in place. -/
def sortF (l0 : List Int) : Option (List Int) := if l0.length ≤ 1099511627776 then some (l0.mergeSort fun x y => decide (x ≤ y)) else none
theorem sortF_calls (P0_ : Nat → Prop) (u9000_ : Value) (l0 : List Int) (r : List Int) (w0 w : World) (hB : Below w0.heap.size w0 w) (ho0 : Kd.R (Kd.int .i64) 2 w w0.heap.size P0_ u9000_ l0) (h : sortF l0 = some r) :
    Calls Try.prog 128 #[u9000_] w fun e w' => e = .returned (.tuple #[]) ∧ Kd.R (Kd.int .i64) 2 w' w0.heap.size (fun k_ => (P0_ k_ ∨ w.heap.size ≤ k_)) u9000_ r ∧ Below w0.heap.size w0 w' ∧ Kept w w' (fun k_ => P0_ k_) := by
  unfold sortF at h
  split at h
  · rename_i hb
    obtain rfl := Option.some.inj h
    have hown : w.ownsRow w0.heap.size 2 1 u9000_ l0.length (l0.map (Value.int .i64)) := Kd.own_of_R (enc := Value.int .i64) (h1 := fun _ => rfl) ho0
    have hP := ho0.1
    rcases hown.2 with ⟨rfl, hn⟩ | ⟨g, cap, cur, rfl, hg, hh, hn, hm, hs, ht⟩
    · obtain rfl := List.eq_nil_of_length_eq_zero hn
      refine (Try.slices_Sort_int_none none 0 w).mono ?_
      rintro e w' ⟨rfl, rfl⟩
      exact ⟨rfl, by simpa using Kd.R_nil _ _ _ _ _, hB, Kept.refl _ _⟩
    · rw [Nat.mul_one] at ht
      have hlt : g < w.heap.size := blk_lt hh
      refine (Try.slices_Sort_int g 0 cap l0 w (holds_of_blockI hh ht) hlt (by omega)).mono ?_
      rintro e w' ⟨rfl, n, os, rfl⟩
      have hgr := grownBy_sortedI (w := w) (g := g) (n := n) (os := os) (l0.mergeSort fun x y => decide (x ≤ y)).toArray
      have hl : (l0.mergeSort fun x y => decide (x ≤ y)).length = l0.length := List.length_mergeSort _
      refine ⟨rfl, ?_, pw_below_grown hB _ hB.size hgr (fun k hk => by injection hk with hk; omega), Kept.of_grown hgr (Kept.refl _ _) (fun k hk => .inl (hP k (by rw [← hk]; rfl)))⟩
      refine Kd.R_of_own (enc := Value.int .i64) (h1 := fun _ => rfl) ?_ (fun k hk => .inl (hP k hk))
      have := ownsRow_sortedI (w := w) (n := n) (os := os) (ss := l0) (ts := l0.mergeSort fun x y => decide (x ≤ y)) hl hg hh hn hm hs
      rw [hl]
      exact this
  · cases h
/-- Equal neighbours told once, in place. -/
def compF (l0 : List Int) : Option (List Int) := if l0.length ≤ 1099511627776 then some (Lib.compact l0) else none
theorem compF_calls (P0_ : Nat → Prop) (u9000_ : Value) (l0 : List Int) (r : List Int) (w0 w : World) (hB : Below w0.heap.size w0 w) (ho0 : Kd.R (Kd.int .i64) 2 w w0.heap.size P0_ u9000_ l0) (h : compF l0 = some r) :
    Calls Try.prog 129 #[u9000_] w fun e w' => ∃ v0_ : Value, e = .returned v0_ ∧ Kd.R (Kd.int .i64) 2 w' w0.heap.size (fun k_ => (P0_ k_ ∨ w.heap.size ≤ k_)) v0_ r ∧ Below w0.heap.size w0 w' ∧ Kept w w' (fun k_ => P0_ k_) := by
  unfold compF at h
  split at h
  · rename_i hb
    obtain rfl := Option.some.inj h
    have hown : w.ownsRow w0.heap.size 2 1 u9000_ l0.length (l0.map (Value.int .i64)) := Kd.own_of_R (enc := Value.int .i64) (h1 := fun _ => rfl) ho0
    have hP := ho0.1
    rcases hown.2 with ⟨rfl, hn⟩ | ⟨g, cap, cur, rfl, hg, hh, hn, hm, hs, ht⟩
    · obtain rfl := List.eq_nil_of_length_eq_zero hn
      refine (Try.slices_Compact_int_empty none 0 w).mono ?_
      rintro e w' ⟨rfl, rfl⟩
      exact ⟨_, rfl, Kd.R_nil _ _ _ _ _, hB, Kept.refl _ _⟩
    · rw [Nat.mul_one] at ht
      have hlt : g < w.heap.size := blk_lt hh
      refine (Try.slices_Compact_int g 0 cap l0 w (holds_of_blockI hh ht) (by omega) hn).mono ?_
      rintro e w' ⟨rfl, q, rfl⟩
      have hk : (Lib.compact l0).length ≤ l0.length := Lib.compact_length_le l0
      have hgr := grownBy_sortedI (w := w) (g := g) (n := q) (os := #[]) (Lib.compact l0 ++ List.replicate (l0.length - (Lib.compact l0).length) 0).toArray
      have e0 : ∀ W : World, grow W #[] = W := fun W => by simp [grow]
      rw [e0] at hgr
      refine ⟨_, rfl, ?_, pw_below_grown hB _ hB.size hgr (fun k hk => by injection hk with hk; omega), Kept.of_grown hgr (Kept.refl _ _) (fun k hk => .inl (hP k (by rw [← hk]; rfl)))⟩
      refine Kd.R_of_own (enc := Value.int .i64) (h1 := fun _ => rfl) ?_ (fun k hk => .inl (hP k hk))
      have := Lib.ownsRow_putRow (q := q) (k := (Lib.compact l0).length) (ys := Lib.compact l0 ++ List.replicate (l0.length - (Lib.compact l0).length) 0) hown (by simp; omega) hk
      rw [List.take_left' rfl] at this
      exact this
  · cases h
end Go.Proofs.Ytdahcapolipnbaa.Gv
