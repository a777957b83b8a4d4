/- A strings.Builder that the call itself has made: what its methods do; out of the shelf's contracts. -/
import Derived.Test.YtfabhfdjabehpaaShJoin
import Derived.Test.YtfabhfdjabehpaaWMore
import Derived.Shelf.Strings.BuilderK
namespace Go.Proofs.Ytfabhfdjabehpaa.Gv
open Go.RowKit Go.Shelf Go.Proofs.YtfabhfdjabehpaaW.PrintWords Go.Proofs.YtfabhfdjabehpaaW.PrintMore
set_option linter.unusedVariables false
/-- A builder at block b that holds these bytes. -/
def Bld (B b : Nat) (s : ByteArray) (w : World) : Prop := Lib.IsBuilderF 59 5 B b (Lib.byteCells s.data.toList) w
theorem Bld.new (w : World) : Bld w.heap.size w.heap.size ⟨#[]⟩ (w.alloc (.cells #[.pointer none, .slice none 0 0] 59)) :=
  .inl ⟨Nat.le_refl _, .slice none 0 0, heap_alloc_new _ _, ⟨rfl, .inl ⟨rfl, rfl⟩⟩, by simp [Value.ownBlock]⟩
theorem Bld.newB {B : Nat} (w : World) (h : B ≤ w.heap.size) : Bld B w.heap.size ⟨#[]⟩ (w.alloc (.cells #[.pointer none, .slice none 0 0] 59)) :=
  .inl ⟨h, .slice none 0 0, heap_alloc_new _ _, ⟨rfl, .inl ⟨rfl, rfl⟩⟩, by simp [Value.ownBlock]⟩
theorem below_new {B : Nat} {w0 w : World} (h : Below B w0 w) (hB : B ≤ w.heap.size) : Below B w0 (w.alloc (.cells #[.pointer none, .slice none 0 0] 59)) := h.alloc hB _
theorem Bld.new0 (w : World) : Below w.heap.size w (w.alloc (.cells #[.pointer none, .slice none 0 0] 59)) := below_alloc (Below.refl w.heap.size w) _
theorem bldAt_below {T e : TypeId} {B b : Nat} {p : Value} {bs : List Value} {w w1 : World} (h : Lib.BuilderAtF T e B b p bs w) (hb : Below w.heap.size w w1) : Lib.BuilderAtF T e B b p bs w1 := by
  have hlt := h.lt
  obtain ⟨hB, v, hbk, hown, hne⟩ := h
  refine ⟨hB, v, (hb.block b hlt).trans hbk, ?_, hne⟩
  obtain ⟨h1, h2⟩ := hown
  refine ⟨h1, h2.imp id ?_⟩
  rintro ⟨g, cap, cur, fz, rfl, hg, hh, r⟩
  exact ⟨g, cap, cur, fz, rfl, hg, (hb.block g (blk_lt hh)).trans hh, r⟩
theorem Bld.below {B b : Nat} {s : ByteArray} {w w1 : World} (h : Bld B b s w) (hb : Below w.heap.size w w1) : Bld B b s w1 :=
  h.elim (fun x => .inl (bldAt_below x hb)) (fun x => .inr (bldAt_below x hb))
theorem byteCells_app (a b : ByteArray) : Lib.byteCells a.data.toList ++ Lib.strCells b = Lib.byteCells (a ++ b).data.toList := by
  rw [ByteArray.data_append]
  simp [Lib.byteCells, Lib.strCells]
/-- WriteString. -/
theorem Bld.write {B b : Nat} {s t : ByteArray} {w : World} (h : Bld B b s w) (hl : s.size + t.size ≤ 140737488355328) (hB : B ≤ w.heap.size) :
    Calls Try.prog 40 #[.pointer (some ⟨b, 0, none⟩), .string t] w fun e w' => e = .returned (.tuple #[.int .i64 t.size, .nilIface]) ∧ Bld B b (s ++ t) w' ∧ Below B w w' := by
  have hlen : (Lib.byteCells s.data.toList).length = s.size := by unfold Lib.byteCells; rw [List.length_map]; exact Array.length_toList
  refine (Any.Builder_WriteString_k (P := Try.prog) (ρ := Try.lays156_ren) { Try.lays156 with } Try.Builder_Extra_156 B b _ t w h (by rw [hlen]; exact hl) hB).mono ?_
  rintro e w' ⟨he, h1, h2, _⟩
  refine ⟨he, ?_, h2⟩
  rw [byteCells_app] at h1
  exact .inr h1
/-- String. -/
theorem Bld.string {B b : Nat} {s : ByteArray} {w : World} (h : Bld B b s w) (hB : B ≤ w.heap.size) :
    Calls Try.prog 41 #[.pointer (some ⟨b, 0, none⟩)] w fun e w' => e = .returned (.string s) ∧ Below B w w' := by
  refine (Any.Builder_String_any_k (P := Try.prog) (ρ := Try.lays156_ren) { Try.lays156 with } Try.Builder_Extra_156 B b s.data.toList w h hB).mono ?_
  rintro e w' ⟨he, _, h2, _⟩
  refine ⟨?_, h2⟩
  rw [he]
end Go.Proofs.Ytfabhfdjabehpaa.Gv
