/- What strings.Join returns, in the printed form; out of the shelf's contract. -/
import Derived.Test.YtfabhfdjabehpaaProg
import Derived.Test.YtfabhfdjabehpaaRp
import Derived.Test.YtfabhfdjabehpaaWMore
import Derived.Test.YtfabhfdjabehpaaWLast
import Derived.Below
import Derived.Tactics
import Derived.Lib.ConvBytes
import Derived.Laws.Slices
import Derived.WalkKit
import Derived.KernelRfl
import Derived.RowKit3
import Derived.Deep.LoopGhost
import Derived.Deep.QuietTactic
import Derived.BigQuiet
import Derived.WideLaws
import Derived.RowKit
import Derived.Test.YtfabhfdjabehpaaShJoin
namespace Go.Proofs.Ytfabhfdjabehpaa.Gv
open Go.RowKit Go.Proofs.YtfabhfdjabehpaaW.PrintWords Go.Proofs.YtfabhfdjabehpaaW.PrintLast Go.Proofs.YtfabhfdjabehpaaW.PrintMore Go.Proofs.Ytfabhfdjabehpaa.Rp
set_option linter.unusedVariables false
set_option linter.unusedSimpArgs false
/-- Texts with a separator between them. -/
def joinB (sep : ByteArray) : List ByteArray → ByteArray
  | [] => ⟨#[]⟩
  | x :: r => r.foldl (fun a y => (a ++ sep) ++ y) x
theorem ba_toList_append (a b : ByteArray) : (a ++ b).data.toList = a.data.toList ++ b.data.toList := by
  rw [ByteArray.data_append]; simp
theorem ba_ext {a b : ByteArray} (h : a.data.toList = b.data.toList) : a = b := by
  cases a; cases b; simp only at h; congr 1; exact Array.toList_inj.1 h
theorem joinB_list (sep : ByteArray) (xs : List ByteArray) : (joinB sep xs).data.toList = Lib.join (xs.map (·.data.toList)) sep.data.toList := by
  cases xs with
  | nil => rfl
  | cons x r =>
    rw [List.map_cons, Lib.join_cons]
    show (r.foldl (fun a y => (a ++ sep) ++ y) x).data.toList = _
    unfold Lib.joinTail
    induction r generalizing x with
    | nil => simp
    | cons y r ih =>
      rw [List.foldl_cons, ih, ba_toList_append, ba_toList_append, List.map_cons, List.map_cons, List.flatten_cons]
      simp
def joinF (l0 : List ByteArray) (a1 : ByteArray) : Option ByteArray := if l0.length ≤ 140737488355328 ∧ (joinB a1 l0).size ≤ 140737488355328 then some (joinB a1 l0) else none
theorem joinF_calls (A0 : Option Addr) (c0 : Nat) (l0 : List ByteArray) (a1 : ByteArray) (r : ByteArray) (w : World) (hr0 : Kd.C Kd.string w A0 l0.length l0) (hc0 : l0.length ≤ c0) (h : joinF l0 a1 = some r) :
    Calls Try.prog 37 #[.slice A0 l0.length c0, .string a1] w fun e w' => e = .returned (.string r) ∧ Below w.heap.size w w' := by
  unfold joinF at h
  split at h
  · rename_i hb
    obtain rfl := Option.some.inj h
    have hsz : (Lib.join (l0.map (·.data.toList)) a1.data.toList).length ≤ 140737488355328 := by
      rw [← joinB_list]
      have e : (joinB a1 l0).data.toList.length = (joinB a1 l0).size := Array.length_toList
      rw [e]
      exact hb.2
    have hret : (⟨(Lib.join (l0.map (·.data.toList)) a1.data.toList).toArray⟩ : ByteArray) = joinB a1 l0 := by
      apply ba_ext; rw [joinB_list]
    cases l0 with
    | nil =>
      refine (Try.strings_Join_none A0 c0 a1 w).mono ?_
      rintro e w' ⟨rfl, rfl⟩
      exact ⟨rfl, Below.refl _ _⟩
    | cons x xs =>
      have hrd := Kd.reads_of_C (enc := Value.string) (d := ByteArray.empty) (h1 := fun _ => rfl) hr0
      obtain ⟨ad, rfl, hc⟩ := hrd.2.2 (by simp)
      have hcell : ∀ (j : Nat) y, (x :: xs)[j]? = some y → w.cell? (ad.add j) = some (.string y) := by
        intro j y hj
        have hlt := (List.getElem?_eq_some_iff.1 hj).1
        have := hc j hlt
        rw [List.getD_eq_getElem?_getD, hj] at this
        exact this
      have h0 := hcell 0 x rfl
      have hsp : ad.spot = none := by
        have : (ad.add 0) = ad := by simp [Addr.add]
        rw [this] at h0
        unfold World.cell? at h0
        cases hsp : ad.spot with
        | none => rfl
        | some s => split at h0 <;> simp_all
      obtain ⟨bk, o, sp⟩ := ad
      simp only at hsp
      subst hsp
      have hadd : ∀ j, (Addr.mk bk o none).add j = ⟨bk, o + j, none⟩ := by intro j; simp only [Addr.add]; split <;> simp_all
      refine (Try.strings_Join bk o c0 (x :: xs) a1 w (fun j y hj => by rw [← hadd]; exact hcell j y hj) ?_ hb.1 hc0 hsz).mono ?_
      · have := World.block_lt_of_cell? w _ h0
        rw [hadd] at this
        exact this
      · rintro e w' ⟨rfl, hb'⟩
        exact ⟨by rw [hret], hb'⟩
  · cases h
end Go.Proofs.Ytfabhfdjabehpaa.Gv
