/- slices.Grow of nil in the printed form; out of the shelf's contract. -/
import Derived.Shelf.Spec.SlicesGrow
import Derived.Shelf.SlGeneric
import Derived.Test.YtfabhfdjabehpaaProg
import Derived.Test.YtfabhfdjabehpaaShGrow
import Derived.Test.YtfabhfdjabehpaaWLast
import Derived.Test.YtfabhfdjabehpaaWMore
import Derived.KernelRfl
namespace Go.Proofs.Ytfabhfdjabehpaa.Gv
open Go.RowKit Go.Shelf Go.Proofs.YtfabhfdjabehpaaW.PrintWords Go.Proofs.YtfabhfdjabehpaaW.PrintLast Go.Proofs.YtfabhfdjabehpaaW.PrintMore
set_option linter.unusedVariables false
/-- slices.Grow of nil, in the printed form: a new row that holds nothing yet. -/
theorem grow_nil {P : Program} {ρ : Ren} {α : Type} (L : Lays8.n4 P ρ) (d : Kd α) {z : Value} {bytes : Nat} (hinfo : (P.info? (ρ.t 25)).map (fun i => (i.zero, i.size, i.bytes)) = some (some z, d.sz, bytes)) (hz : z.cells.size = d.sz) (hs0 : 0 < d.sz) (hb0 : 0 < bytes)
    (a1 : Int) (h0 : 0 ≤ a1) (h1 : a1.toNat * bytes ≤ 140737488355328) (w : World) :
    Calls P (ρ.f 4) #[.slice none 0 0, .int .i64 a1] w fun e w' => ∃ v0_ : Value, e = .returned v0_ ∧ Kd.R d (ρ.t 25) w' w.heap.size (fun _ => True) v0_ [] ∧ Below w.heap.size w w' := by
  obtain ⟨i0, hi, hzz⟩ := Option.map_eq_some_iff.1 hinfo
  simp only [Prod.mk.injEq] at hzz
  obtain ⟨hz0, hz1, hz2⟩ := hzz
  obtain ⟨n, rfl⟩ : ∃ n : Nat, a1 = n := ⟨a1.toNat, by omega⟩
  rw [Int.toNat_natCast] at h1
  have hn : n ≤ 140737488355328 := Nat.le_trans (Nat.le_mul_of_pos_right n hb0) h1
  rcases Nat.eq_zero_or_pos n with hn0 | hn0
  · subst hn0
    refine (Any8.slices_Grow_room L none 0 0 0 w (by omega) (by omega) (by omega) (by omega)).mono ?_
    rintro e w' ⟨rfl, rfl⟩
    exact ⟨_, rfl, Kd.R_nil _ _ _ _ _, Below.refl _ _⟩
  · refine (Any8.slices_Grow_grow L i0 z hi hz0 (by omega) none 0 0 n [] w (by omega) (by omega) (by rw [hz2, Nat.zero_add]; exact h1) (by omega) (by simp) (fun _ => rfl) (fun a h => by cases h)).mono ?_
    rintro e w' ⟨rfl, rfl⟩
    refine ⟨_, rfl, ⟨fun _ _ => trivial, [], ⟨by simp, .inr ⟨w.heap.size, _, _, rfl, Nat.le_refl _, heap_alloc_new _ _, Nat.zero_le _, ?_, ?_, by simp⟩⟩, Reps.none _ _⟩, (below_drew1 (Below.refl _ _)).alloc (Nat.le_refl _) _⟩
    · exact grownCap_le_maxLen _ _ _ _ (by unfold maxLen; omega)
    · have hg := grownCap_ge w (0 + n) 0 (ρ.t 25)
      rw [Array.size_append, Array.size_append, size_zeroCells, size_zeroCells, hz]
      simp only [List.size_toArray, List.length_nil, Nat.zero_add]
      rw [← Nat.add_mul]
      simp only [Nat.zero_add, Nat.sub_zero] at hg ⊢
      congr 1
      omega
end Go.Proofs.Ytfabhfdjabehpaa.Gv
