/- The bytes of a string as a row that the call itself has made by a conversion: what it holds, and what a store leaves. -/
import Derived.Test.YtdahcapolipnbaaProg
import Derived.Test.YtdahcapolipnbaaWMore
import Derived.Test.YtdahcapolipnbaaWLast
import Derived.Lib.ConvBytes
import Derived.Laws.BytesArg
import Derived.KernelRfl
namespace Go.Proofs.Ytdahcapolipnbaa.Gv
open Go.RowKit Go.Proofs.YtdahcapolipnbaaW.PrintWords Go.Proofs.YtdahcapolipnbaaW.PrintLast Go.Proofs.YtdahcapolipnbaaW.PrintMore
set_option linter.unusedVariables false
/-- Block b, from B on, begins with these bytes. -/
def Cb (B b : Nat) (xs : List Int) (w : World) : Prop := B ≤ b ∧ ∃ cs : Array Value, w.heap[b]? = some (.cells cs 5 (cs.size, cs.size + 1)) ∧ ∀ j, j < xs.length → cs[j]? = some (.int .u8 (xs.getD j 0))
/-- A string's bytes, as numbers. -/
def bytesI (s : ByteArray) : List Int := s.data.toList.map fun b => (b.toNat : Int)
theorem bytesI_length (s : ByteArray) : (bytesI s).length = s.size := by
  unfold bytesI
  rw [List.length_map]
  exact Array.length_toList
theorem bytesI_get (s : ByteArray) (j : Nat) (h : j < s.size) : (bytesI s).getD j 0 = ((s.data.toList.getD j 0).toNat : Int) := by
  have h' : j < s.data.toList.length := by rw [Array.length_toList]; exact h
  unfold bytesI
  simp only [List.getD_eq_getElem?_getD, List.getElem?_map, List.getElem?_eq_getElem h', Option.map_some, Option.getD_some]
theorem Cb.new (w : World) (s : ByteArray) (B : Nat) (hB : B ≤ w.heap.size) : Cb B w.heap.size (bytesI s) (Lib.bytesWorld w 5 s) := by
  refine ⟨hB, _, Lib.bytesWorld_at_new w 5 s, fun j hj => ?_⟩
  rw [bytesI_length] at hj
  have h := Lib.bytesWorld_cell w 5 s j hj
  rw [cell_of_row _ _ _ _ _ _ (Lib.bytesWorld_at_new w 5 s)] at h
  rw [h, bytesI_get s j hj]
theorem bytes_below (w : World) (s : ByteArray) : Below w.heap.size w (Lib.bytesWorld w 5 s) :=
  ⟨rfl, rfl, rfl, by rw [Lib.bytesWorld_size]; omega, fun i hi => Lib.bytesWorld_at_old w 5 s i hi⟩
variable {B b : Nat} {xs : List Int} {w w1 : World}
theorem Cb.cell (h : Cb B b xs w) (i : Nat) (hi : i < xs.length) : w.cell? ⟨b, i, none⟩ = some (.int .u8 (xs.getD i 0)) := by
  obtain ⟨_, cs, hb, hc⟩ := h
  rw [cell_of_row _ _ _ _ _ _ hb, hc i hi]
theorem Cb.frozen (h : Cb B b xs w) (i : Nat) (hi : i < xs.length) : w.frozen? ⟨b, i, none⟩ = false := by
  obtain ⟨_, cs, hb, hc⟩ := h
  have := (Array.getElem?_eq_some_iff.1 (hc i hi)).1
  simp only [World.frozen?, hb]
  simp
  omega
theorem Cb.set (h : Cb B b xs w) (i : Nat) (v : Int) : Cb B b (xs.set i v) (w.setCell ⟨b, i, none⟩ (.int .u8 v)) := by
  obtain ⟨h1, cs, hb, hc⟩ := h
  refine ⟨h1, cs.setIfInBounds i (.int .u8 v), ?_, fun j hj => ?_⟩
  · have hlt := blk_lt hb
    simp only [World.setCell, Array.getElem?_modify, hb]
    simp
  · rw [List.length_set] at hj
    have hcj := hc j hj
    have hjs := (Array.getElem?_eq_some_iff.1 hcj).1
    by_cases hij : i = j
    · subst hij
      rw [Array.getElem?_setIfInBounds_self_of_lt hjs]
      simp [List.getD_eq_getElem?_getD, hj]
    · rw [Array.getElem?_setIfInBounds_ne hij, hcj]
      simp [List.getD_eq_getElem?_getD, List.getElem?_set_ne hij]
theorem Cb.same (h : Cb B b xs w) (hw : w1.heap[b]? = w.heap[b]?) : Cb B b xs w1 := by
  obtain ⟨h1, cs, hb, hc⟩ := h
  exact ⟨h1, cs, hw.trans hb, hc⟩
theorem Cb.string (h : Cb B b xs w) (cap : Nat) : (convert 184 9 (.slice (some ⟨b, 0, none⟩) xs.length cap)).run Try.prog w = .ok (.string (strOfNums xs)) w :=
  run_convert_bytes_arg (P := Try.prog) w 184 5 Try.underlying184 Try.underlying5 b 0 xs.length cap xs rfl (fun i hi => by rw [Nat.zero_add]; exact h.cell i hi) 9 Try.underlying9
theorem run_bytes (w : World) (s : ByteArray) : (convert 9 184 (.string s)).run Try.prog w = .ok (.slice (some ⟨w.heap.size, 0, none⟩) s.size (grownCap w s.size 0 5)) (Lib.bytesWorld w 5 s) :=
  Lib.run_convert_string_bytes (P := Try.prog) w 9 184 5 s Try.underlying9 Try.underlying184 Try.underlying5
theorem bytes_event {ops : Array Oper} {rest : List Oper} {o : Oper} {a : Act} {Q : Exit → Act → World → Prop} {N : Tmp} {x : Operand} {s : ByteArray} (hgd : o.guard = none) (ho : o.op = .convert 9 184 x) (hN : o.dst = some N) (hx : a.eval x = .string s)
    (h : wpList Try.prog ops Q rest (a.put (some N) (.slice (some ⟨w.heap.size, 0, none⟩) s.size (grownCap w s.size 0 5))) (Lib.bytesWorld w 5 s)) : wpList Try.prog ops Q (o :: rest) a w := by
  refine wpList_plain hgd fun K hK => ?_
  have hrun : (execOp a.eval o).run Try.prog w = .ok (.value (.slice (some ⟨w.heap.size, 0, none⟩) s.size (grownCap w s.size 0 5))) (Lib.bytesWorld w 5 s) := by
    have := run_bytes w s
    unfold execOp
    simp [ho, hx, this]
  unfold Oper.wp
  rw [hrun]
  rw [← hN] at h
  exact hK _ _ h
/-- Blanks as commas. -/
def comL (xs : List Int) : List Int := xs.map fun x => if x = 32 then 44 else x
end Go.Proofs.Ytdahcapolipnbaa.Gv
