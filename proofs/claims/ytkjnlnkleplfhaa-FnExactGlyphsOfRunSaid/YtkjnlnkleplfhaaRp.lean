/- A pointer that is only read: it leads to an element of a row that reads as a list; a variable of one's own is a row of one. -/
import Derived.Test.YtkjnlnkleplfhaaWMore
namespace Go.Proofs.Ytkjnlnkleplfhaa.Rp
open Go.RowKit Go.Proofs.YtkjnlnkleplfhaaW.PrintWords
set_option linter.unusedVariables false
section
variable {α : Type} {d : Kd α} {off : Nat} {w : World} {p : Addr} {xs : List α} {i : Int}
/-- Where a pointer leads: an element of a row that is read. -/
def RPtr (d : Kd α) (off : Nat) (w : World) (p : Addr) (xs : List α) (i : Int) : Prop :=
  ∃ ad : Addr, p = ad.add off ∧ d.C w (some ad) xs.length xs ∧ 0 ≤ i ∧ i < (xs.length : Int)
theorem RPtr.mk_ {ad : Addr} (hr : d.C w (some ad) xs.length xs) (hp : p = ad.add off) (h0 : 0 ≤ i) (h1 : i < (xs.length : Int)) : RPtr d off w p xs i := ⟨ad, hp, hr, h0, h1⟩
theorem RPtr.box {g : Nat} {T : TypeId} {x : α} {cs : List Value} (hK : d.K w x cs) (hb : w.heap[g]? = some (.cells cs.toArray T (0, 0))) (ho : off = 0) : RPtr d off w ⟨g, 0, none⟩ [x] 0 := by
  subst ho
  refine ⟨⟨g, 0, none⟩, (Addr.add_zero' _).symm, ⟨rfl, by simp, fun _ => ⟨_, rfl, fun j q hj => ?_⟩⟩, by omega, by simp⟩
  cases j with
  | succ j => simp at hj
  | zero =>
    simp at hj
    subst hj
    refine ⟨cs, d.K_len hK, hK, fun k u hk => ?_⟩
    have hlt : k < cs.length := (List.getElem?_eq_some_iff.1 hk).1
    have hc := blk_cell hb k
    simp only [Nat.zero_mul, Nat.zero_add]
    rw [add_plain]
    rw [hc]
    simpa using hk
end
/-! Short names for what recurs in long texts. -/
theorem h2_ {p q : Nat → Prop} : ∀ k, p k ∧ q k → q k := fun _ h => h.2
theorem h1_ {p q : Nat → Prop} : ∀ k, p k ∧ q k → p k := fun _ h => h.1
theorem aM {p : Prop} (h : p) : Aside0 p := ⟨h⟩
abbrev rA := @Kd.R_alloc
abbrev rN := @Kd.R_drewN
abbrev rD := @Kd.R_drew
end Go.Proofs.Ytkjnlnkleplfhaa.Rp
