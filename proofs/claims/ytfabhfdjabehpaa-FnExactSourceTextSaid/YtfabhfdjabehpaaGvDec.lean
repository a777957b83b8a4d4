/- What the program's Decimal returns, and that the machine's call returns it. -/
import Derived.Test.YtfabhfdjabehpaaProg
import Derived.Test.YtfabhfdjabehpaaRp
import Derived.Test.YtfabhfdjabehpaaWMore
import Derived.Test.YtfabhfdjabehpaaWLast
import Derived.Below
import Derived.Tactics
import Derived.Lib.ConvBytes
import Derived.Laws.Slices
import Derived.WalkKit
import Derived.KernelRfl
import Derived.RowKit3
import Derived.Deep.LoopGhost
import Derived.Deep.QuietTactic
import Derived.BigQuiet
import Derived.WideLaws
import Derived.RowKit
namespace Go.Proofs.Ytfabhfdjabehpaa.Gv
open Go.RowKit Go.Proofs.YtfabhfdjabehpaaW.PrintWords Go.Proofs.YtfabhfdjabehpaaW.PrintLast Go.Proofs.YtfabhfdjabehpaaW.PrintMore Go.Proofs.Ytfabhfdjabehpaa.Rp
set_option linter.unusedVariables false
set_option linter.unusedSimpArgs false
/-- The digits of a number, as bytes. -/
def digP (u : Nat) : List Int := if u < 10 then [48 + (u : Int)] else digP (u / 10) ++ [48 + ((u % 10 : Nat) : Int)]
theorem digP_one {u : Nat} (h : u < 10) : digP u = [48 + (u : Int)] := by rw [digP, if_pos h]
theorem digP_more {u : Nat} (h : ¬ u < 10) : digP u = digP (u / 10) ++ [48 + ((u % 10 : Nat) : Int)] := by rw [digP, if_neg h]
theorem digP_pos (u : Nat) : 0 < (digP u).length := by
  rw [digP]; split <;> simp
theorem digP_len : ∀ (n u : Nat), 0 < n → u < 10 ^ n → (digP u).length ≤ n := by
  intro n
  induction n with
  | zero => intro u h; omega
  | succ n ih =>
    intro u _ h
    by_cases h9 : u < 10
    · rw [digP_one h9]; simp
    · rw [digP_more h9, List.length_append, List.length_singleton]
      have hn : 0 < n := by
        rcases Nat.eq_zero_or_pos n with h0 | h0
        · subst h0; simp at h; omega
        · exact h0
      have := ih (u / 10) hn (by rw [Nat.pow_succ] at h; omega)
      omega
/-- A number's decimal form, as bytes. -/
def decL (n : Int) : List Int := if n < 0 then 45 :: digP n.natAbs else digP n.natAbs
def dcells (acc : List Int) : Array Value := ((List.replicate (20 - acc.length) (0 : Int) ++ acc).map (Value.int .u8)).toArray
theorem dcells_get (acc : List Int) (h : acc.length ≤ 20) (i : Nat) (hi : i < 20) : ∃ v, (dcells acc)[i]? = some (Value.int .u8 v) := by
  refine ⟨(List.replicate (20 - acc.length) (0 : Int) ++ acc)[i]'(by simp; omega), ?_⟩
  unfold dcells
  rw [List.getElem?_toArray, List.getElem?_map, List.getElem?_eq_getElem (by simp; omega)]
  rfl
theorem dcells_set (acc : List Int) (h : acc.length < 20) (v : Int) : (dcells acc).setIfInBounds (20 - (acc.length + 1)) (Value.int .u8 v) = dcells (v :: acc) := by
  unfold dcells
  rw [List.setIfInBounds_toArray, ← List.map_set]
  congr 2
  obtain ⟨m, hm⟩ : ∃ m, 20 - acc.length = m + 1 := ⟨20 - acc.length - 1, by omega⟩
  have e : 20 - (acc.length + 1) = m := by omega
  rw [hm, e, List.length_cons, e, List.replicate_succ', List.append_assoc, List.set_append_right _ _ (by simp)]
  simp
theorem reads_dec {W : World} {g : Nat} {acc : List Int} (hl : acc.length ≤ 20) (hb : W.heap[g]? = some (.cells (dcells acc) 91 (0, 0))) {o n : Nat} (ho : o = 20 - acc.length) (hn : n = acc.length) : ReadsInt W .u8 (some ⟨g, o, none⟩) n acc := by
  subst ho hn
  refine ⟨rfl, by omega, fun _ => ⟨_, rfl, fun j hj => ?_⟩⟩
  have : (Addr.mk g (20 - acc.length) none).add j = ⟨g, 20 - acc.length + j, none⟩ := by simp [Addr.add]
  rw [this, blk_cell hb]
  unfold dcells
  rw [List.getElem?_toArray, List.getElem?_map, List.getElem?_append_right (by simp)]
  simp [List.getElem?_eq_getElem hj, List.getD_eq_getElem?_getD]
theorem slice_dec (W : World) (g m : Nat) (hm : m < 20) (l : Int) (hl : l = m) : (Instr.sliceAt 91 (.pointer (some ⟨g, 0, none⟩)) (some (.int .i64 l)) none none).run Try.prog W = .ok (.slice (some ⟨g, m, none⟩) (20 - m) (20 - m)) W := by
  subst hl
  have al : Try.prog.arrayLen 91 = 20 := by kernel_rfl
  have el : Try.prog.elem 91 = 5 := by kernel_rfl
  rw [run_sliceAt_array_l W 91 ⟨g, 0, none⟩ (by rw [al, el]; exact Try.underlying91) .i64 (m : Int) (by omega) (by rw [al]; omega), el, al, Try.sizeOf5]
  show Result.ok _ W = _
  unfold slicedAt
  rw [if_neg (by simp; omega)]
  have : (Addr.mk g 0 none).add ((m : Int).toNat * 1) = ⟨g, m, none⟩ := by simp [Addr.add]; omega
  rw [this, Int.toNat_natCast]
set_option maxRecDepth 100000 in
theorem dec_walk (a0 : Int) (h0 : -9223372036854775808 ≤ a0) (h1 : a0 ≤ 9223372036854775807) (w : World) :
  Calls Try.prog 63 #[.int .i64 a0] w fun e w' => e = .returned (.string (strOfNums (decL a0))) ∧ Below w.heap.size w w' := by
  have HT : Hid ((digP a0.natAbs).length ≤ 19) := digP_len 19 _ (by omega) (by omega)
  have hz : dcells [] = #[Value.int IntKind.u8 0, Value.int IntKind.u8 0, Value.int IntKind.u8 0, Value.int IntKind.u8 0,
          Value.int IntKind.u8 0, Value.int IntKind.u8 0, Value.int IntKind.u8 0, Value.int IntKind.u8 0,
          Value.int IntKind.u8 0, Value.int IntKind.u8 0, Value.int IntKind.u8 0, Value.int IntKind.u8 0,
          Value.int IntKind.u8 0, Value.int IntKind.u8 0, Value.int IntKind.u8 0, Value.int IntKind.u8 0,
          Value.int IntKind.u8 0, Value.int IntKind.u8 0, Value.int IntKind.u8 0, Value.int IntKind.u8 0] := rfl
  have HZ : Hid _ := hz
  clear hz
  by_cases hn : a0 < 0
  · go_enter Try.func63, Try.ntmps63
    go_wp2
    go_loopw [4, 5] (fun v4 v5 wr => ∃ (u m : Nat) (acc : List Int), v4 = .int .i64 (m : Int) ∧ v5 = .int .u64 (u : Int) ∧ Hid (digP u ++ acc = digP a0.natAbs) ∧ Hid (m + acc.length = 20) ∧ u ≤ 9223372036854775808 ∧ Hid (wr.heap[w.heap.size]? = some (.cells (dcells acc) 91 (0, 0))) ∧ Hid (Below w.heap.size w wr)) (fun _ v5 _ => (intOf v5).toNat)
    case atStart => exact ⟨a0.natAbs, 20, [], rfl, by rw [IntKind.wrap_u64]; congr 1; simp only [IntKind.wrap_u64]; omega, List.append_nil _, rfl, by omega, by show _ = _; rw [HZ.out]; exact blk_new _ _, below_alloc (Below.refl _ _) _⟩
    case round =>
      obtain ⟨u, m, acc, rfl, rfl, hT, hm, hu, hb, hB⟩ := hrel
      have hp := digP_pos u
      have hl := congrArg List.length hT.out
      rw [List.length_append] at hl
      have hT19 := HT.out
      have hm' := hm.out
      have hm1 : 2 ≤ m := by omega
      have hm2 : m ≤ 20 := by omega
      have hacc : acc.length < 20 := by omega
      have e1 : m - 1 = 20 - (acc.length + 1) := by omega
      obtain ⟨x, hx⟩ := dcells_get acc (by omega) (20 - (acc.length + 1)) (by omega)
      have hc : wr.cell? ⟨w.heap.size, m - 1, none⟩ = some (.int .u8 x) := by rw [e1, blk_cell hb.out]; exact hx
      have hf : wr.frozen? ⟨w.heap.size, m - 1, none⟩ = false := blk_frozen hb.out _
      have HS : Hid ((dcells acc).setIfInBounds (m - 1) (Value.int .u8 (48 + (u : Int) % 10)) = dcells ((48 + (u : Int) % 10) :: acc)) := by rw [e1]; exact dcells_set acc hacc _
      clear e1 hl hm' hT19 hx hp
      by_cases h9 : u < 10
      · have h10 : ((u : Int) / 10 == 0) = true := by simp; omega
        have hT9 : Hid ((48 + (u : Int) % 10) :: acc = digP a0.natAbs) := by have := hT.out; rw [digP_one h9] at this; show _ = _; rw [← this, show (u : Int) % 10 = u by omega]; rfl
        have hm9 := hm.out
        have HS2 : Hid ((dcells ((48 + (u : Int) % 10) :: acc)).setIfInBounds (m - 1 - 1) (Value.int .u8 45) = dcells (45 :: (48 + (u : Int) % 10) :: acc)) := by
          have e3 : m - 1 - 1 = 20 - (((48 + (u : Int) % 10) :: acc).length + 1) := by simp only [List.length_cons]; omega
          rw [e3]
          exact dcells_set ((48 + (u : Int) % 10) :: acc) (by simp only [List.length_cons]; omega) _
        have hsl : ∀ W, (Instr.sliceAt 91 (.pointer (some ⟨w.heap.size, 0, none⟩)) (some (.int .i64 ((m : Int) - 1 - 1))) none none).run Try.prog W = .ok (.slice (some ⟨w.heap.size, m - 1 - 1, none⟩) (20 - (m - 1 - 1)) (20 - (m - 1 - 1))) W := fun W => slice_dec W _ (m - 1 - 1) (by omega) _ (by omega)
        have hcv : ∀ W, ReadsInt W .u8 (some ⟨w.heap.size, m - 1 - 1, none⟩) (20 - (m - 1 - 1)) (45 :: (48 + (u : Int) % 10) :: acc) → (convert 57 9 (.slice (some ⟨w.heap.size, m - 1 - 1, none⟩) (20 - (m - 1 - 1)) (20 - (m - 1 - 1)))).run Try.prog W = .ok (.string (strOfNums (45 :: (48 + (u : Int) % 10) :: acc))) W := fun W hrd => string_of_reads (P := Try.prog) (src := 57) (dst := 9) (e := 5) (c := 20 - (m - 1 - 1)) Try.underlying57 Try.underlying5 Try.underlying9 hrd
        have HCV : Hid _ := hcv
        clear hcv
        clear hm9
        have hm9 := hm
        go_wp2_with (first
          | ((with_reducible refine gate_store (t := 5) (p := 19) rfl ?_); refine store_event (t := 5) (p := 19) (v := ?vo1) (w1 := (wr.setCell ⟨w.heap.size, m - 1, none⟩ (.int .u8 (48 + (u : Int) % 10)))) ?hg ?ho ?hn ?hr ?_; (case ho => rfl); (case hg => rfl); (case hn => rfl); (case hr => first | (go_simp; done) | (go_simp; rfl)); intro w8 hw; clear hc hf; have hb8 : Hid (w8.heap[w.heap.size]? = some (.cells (dcells ((48 + (u : Int) % 10) :: acc)) 91 (0, 0))) := (by rw [hw]; exact blk_put hb.out _ _ HS.out); have hB8 : Hid (Below w.heap.size w w8) := (by rw [hw]; exact below_set hB.out (Nat.le_refl _)); clear hw; obtain ⟨x2, hx2⟩ := dcells_get ((48 + (u : Int) % 10) :: acc) (by simp; omega) (m - 1 - 1) (by omega); have hc2 : w8.cell? ⟨w.heap.size, m - 1 - 1, none⟩ = some (.int .u8 x2) := (by rw [blk_cell hb8.out]; exact hx2); have hf2 : w8.frozen? ⟨w.heap.size, m - 1 - 1, none⟩ = false := blk_frozen hb8.out _; clear hx2)
          | ((with_reducible refine gate_store (t := 5) (p := 29) rfl ?_); refine store_event (t := 5) (p := 29) (v := ?vo2) (w1 := (w8.setCell ⟨w.heap.size, m - 1 - 1, none⟩ (.int .u8 45))) ?hg ?ho ?hn ?hr ?_; (case ho => rfl); (case hg => rfl); (case hn => rfl); (case hr => first | (go_simp; done) | (go_simp; rfl)); intro w9 hw; clear hc2 hf2; have hb9 : Hid (w9.heap[w.heap.size]? = some (.cells (dcells (45 :: (48 + (u : Int) % 10) :: acc)) 91 (0, 0))) := (by rw [hw]; exact blk_put hb8.out _ _ HS2.out); have hB9 : Hid (Below w.heap.size w w9) := (by rw [hw]; exact below_set hB8.out (Nat.le_refl _)); clear hw; have hrd : ReadsInt w9 .u8 (some ⟨w.heap.size, m - 1 - 1, none⟩) (20 - (m - 1 - 1)) (45 :: (48 + (u : Int) % 10) :: acc) := reads_dec (by have := hm9.out; simp only [List.length_cons]; omega) hb9.out (by have := hm9.out; simp only [List.length_cons]; omega) (by have := hm9.out; simp only [List.length_cons]; omega); have hcv := HCV.out w9 hrd; clear hrd))
        go_ret
        exact ⟨by rw [decL, if_pos hn, ← hT9.out]; rfl, hB9.out⟩
      · have h10 : ((u : Int) / 10 == 0) = false := by simp; omega
        have hT9 : Hid (digP (u / 10) ++ ((48 + (u : Int) % 10) :: acc) = digP a0.natAbs) := by have := hT.out; rw [digP_more h9, List.append_assoc] at this; exact this
        have hm9 : Hid (m - 1 + ((48 + (u : Int) % 10) :: acc).length = 20) := by have := hm.out; show _ = _; simp only [List.length_cons]; omega
        go_wp2_with (((with_reducible refine gate_store (t := 5) (p := 19) rfl ?_); refine store_event (t := 5) (p := 19) (v := ?vo1) (w1 := (wr.setCell ⟨w.heap.size, m - 1, none⟩ (.int .u8 (48 + (u : Int) % 10)))) ?hg ?ho ?hn ?hr ?_; (case ho => rfl); (case hg => rfl); (case hn => rfl); (case hr => first | (go_simp; done) | (go_simp; rfl)); intro w8 hw; clear hc hf; have hb8 : Hid (w8.heap[w.heap.size]? = some (.cells (dcells ((48 + (u : Int) % 10) :: acc)) 91 (0, 0))) := (by rw [hw]; exact blk_put hb.out _ _ HS.out); have hB8 : Hid (Below w.heap.size w w8) := (by rw [hw]; exact below_set hB.out (Nat.le_refl _)); clear hw))
        go_roundw
        case rel => exact ⟨u / 10, m - 1, (48 + (u : Int) % 10) :: acc, congrArg (Value.int .i64) (by omega : (m : Int) - 1 = ((m - 1 : Nat) : Int)), congrArg (Value.int .u64) (Int.natCast_ediv u 10).symm, hT9, hm9, by omega, hb8, hB8⟩
        case measure => show ((u : Int) / 10).toNat < ((u : Int)).toNat; omega
  · go_enter Try.func63, Try.ntmps63
    go_wp2
    go_loopw [4, 5] (fun v4 v5 wr => ∃ (u m : Nat) (acc : List Int), v4 = .int .i64 (m : Int) ∧ v5 = .int .u64 (u : Int) ∧ Hid (digP u ++ acc = digP a0.natAbs) ∧ Hid (m + acc.length = 20) ∧ u ≤ 9223372036854775808 ∧ Hid (wr.heap[w.heap.size]? = some (.cells (dcells acc) 91 (0, 0))) ∧ Hid (Below w.heap.size w wr)) (fun _ v5 _ => (intOf v5).toNat)
    case atStart => exact ⟨a0.natAbs, 20, [], rfl, by congr 1; omega, List.append_nil _, rfl, by omega, by show _ = _; rw [HZ.out]; exact blk_new _ _, below_alloc (Below.refl _ _) _⟩
    case round =>
      obtain ⟨u, m, acc, rfl, rfl, hT, hm, hu, hb, hB⟩ := hrel
      have hp := digP_pos u
      have hl := congrArg List.length hT.out
      rw [List.length_append] at hl
      have hT19 := HT.out
      have hm' := hm.out
      have hm1 : 2 ≤ m := by omega
      have hm2 : m ≤ 20 := by omega
      have hacc : acc.length < 20 := by omega
      have e1 : m - 1 = 20 - (acc.length + 1) := by omega
      obtain ⟨x, hx⟩ := dcells_get acc (by omega) (20 - (acc.length + 1)) (by omega)
      have hc : wr.cell? ⟨w.heap.size, m - 1, none⟩ = some (.int .u8 x) := by rw [e1, blk_cell hb.out]; exact hx
      have hf : wr.frozen? ⟨w.heap.size, m - 1, none⟩ = false := blk_frozen hb.out _
      have HS : Hid ((dcells acc).setIfInBounds (m - 1) (Value.int .u8 (48 + (u : Int) % 10)) = dcells ((48 + (u : Int) % 10) :: acc)) := by rw [e1]; exact dcells_set acc hacc _
      clear e1 hl hm' hT19 hx hp
      by_cases h9 : u < 10
      · have h10 : ((u : Int) / 10 == 0) = true := by simp; omega
        have hT9 : Hid ((48 + (u : Int) % 10) :: acc = digP a0.natAbs) := by have := hT.out; rw [digP_one h9] at this; show _ = _; rw [← this, show (u : Int) % 10 = u by omega]; rfl
        have hm9 := hm.out
        have hsl : ∀ W, (Instr.sliceAt 91 (.pointer (some ⟨w.heap.size, 0, none⟩)) (some (.int .i64 ((m : Int) - 1))) none none).run Try.prog W = .ok (.slice (some ⟨w.heap.size, m - 1, none⟩) (20 - (m - 1)) (20 - (m - 1))) W := fun W => slice_dec W _ (m - 1) (by omega) _ (by omega)
        go_wp2_with (((with_reducible refine gate_store (t := 5) (p := 19) rfl ?_); refine store_event (t := 5) (p := 19) (v := ?vo1) (w1 := (wr.setCell ⟨w.heap.size, m - 1, none⟩ (.int .u8 (48 + (u : Int) % 10)))) ?hg ?ho ?hn ?hr ?_; (case ho => rfl); (case hg => rfl); (case hn => rfl); (case hr => first | (go_simp; done) | (go_simp; rfl)); intro w8 hw; clear hc hf; have hb8 : Hid (w8.heap[w.heap.size]? = some (.cells (dcells ((48 + (u : Int) % 10) :: acc)) 91 (0, 0))) := (by rw [hw]; exact blk_put hb.out _ _ HS.out); have hB8 : Hid (Below w.heap.size w w8) := (by rw [hw]; exact below_set hB.out (Nat.le_refl _)); clear hw; have hrd : ReadsInt w8 .u8 (some ⟨w.heap.size, m - 1, none⟩) (20 - (m - 1)) ((48 + (u : Int) % 10) :: acc) := reads_dec (by simp; omega) hb8.out (by simp; omega) (by simp; omega); have hcv := string_of_reads (P := Try.prog) (src := 57) (dst := 9) (e := 5) (c := 20 - (m - 1)) Try.underlying57 Try.underlying5 Try.underlying9 hrd; clear hrd; rw [hT9.out] at hcv))
        go_ret
        exact ⟨by rw [decL, if_neg (by omega)]; rfl, hB8.out⟩
      · have h10 : ((u : Int) / 10 == 0) = false := by simp; omega
        have hT9 : Hid (digP (u / 10) ++ ((48 + (u : Int) % 10) :: acc) = digP a0.natAbs) := by have := hT.out; rw [digP_more h9, List.append_assoc] at this; exact this
        have hm9 : Hid (m - 1 + ((48 + (u : Int) % 10) :: acc).length = 20) := by have := hm.out; show _ = _; simp only [List.length_cons]; omega
        go_wp2_with (((with_reducible refine gate_store (t := 5) (p := 19) rfl ?_); refine store_event (t := 5) (p := 19) (v := ?vo1) (w1 := (wr.setCell ⟨w.heap.size, m - 1, none⟩ (.int .u8 (48 + (u : Int) % 10)))) ?hg ?ho ?hn ?hr ?_; (case ho => rfl); (case hg => rfl); (case hn => rfl); (case hr => first | (go_simp; done) | (go_simp; rfl)); intro w8 hw; clear hc hf; have hb8 : Hid (w8.heap[w.heap.size]? = some (.cells (dcells ((48 + (u : Int) % 10) :: acc)) 91 (0, 0))) := (by rw [hw]; exact blk_put hb.out _ _ HS.out); have hB8 : Hid (Below w.heap.size w w8) := (by rw [hw]; exact below_set hB.out (Nat.le_refl _)); clear hw))
        go_roundw
        case rel => exact ⟨u / 10, m - 1, (48 + (u : Int) % 10) :: acc, congrArg (Value.int .i64) (by omega : (m : Int) - 1 = ((m - 1 : Nat) : Int)), congrArg (Value.int .u64) (Int.natCast_ediv u 10).symm, hT9, hm9, by omega, hb8, hB8⟩
        case measure => show ((u : Int) / 10).toNat < ((u : Int)).toNat; omega

/-- The printed form of it. -/
def decF (a0 : Int) : Option ByteArray := if -9223372036854775808 ≤ a0 ∧ a0 ≤ 9223372036854775807 then some (strOfNums (decL a0)) else none
theorem decF_calls (a0 : Int) (r : ByteArray) (w : World) (h : decF a0 = some r) : Calls Try.prog 63 #[.int .i64 a0] w fun e w' => e = .returned (.string r) ∧ Below w.heap.size w w' := by
  unfold decF at h
  split at h
  · rename_i hb
    obtain rfl := Option.some.inj h
    exact dec_walk a0 hb.1 hb.2 w
  · cases h
end Go.Proofs.Ytfabhfdjabehpaa.Gv
