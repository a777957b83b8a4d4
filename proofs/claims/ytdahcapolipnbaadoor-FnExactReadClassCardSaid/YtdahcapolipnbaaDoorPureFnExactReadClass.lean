/- The plain statement of FnExactReadClass: the program and the reference agree on every input that the guards let in. -/
import Derived.Test.YtdahcapolipnbaaDoorArgFnExactReadClass
namespace Go.Proofs.YtdahcapolipnbaaDoor.Pure
open Go.RowKit Go.Proofs.YtdahcapolipnbaaDoor.QFnExactReadClass Go.Proofs.YtdahcapolipnbaaDoor.ArgFnExactReadClass Go.Proofs.YtdahcapolipnbaaDoorW.PrintWords Go.Proofs.YtdahcapolipnbaaDoorW.PrintLast Go.Proofs.YtdahcapolipnbaaDoorW.PrintMore
set_option linter.unusedVariables false
set_option linter.unusedSimpArgs false
-- part: base
theorem w64 {x : Int} (h : -9223372036854775808 ≤ x) (h' : x < 9223372036854775808) : wrap64 x = x := by
  unfold wrap64; omega
theorem evPos {α : Type} {c : Prop} [Decidable c] {g f : Nat → Option α} {r : α} (h : c) (k : Ev g r) : Ev (fun n => if c then g n else f n) r := by
  simpa only [if_pos h] using k
theorem evNeg {α : Type} {c : Prop} [Decidable c] {g f : Nat → Option α} {r : α} (h : ¬ c) (k : Ev f r) : Ev (fun n => if c then g n else f n) r := by
  simpa only [if_neg h] using k
theorem rd_get {xs : List Int} {i : Nat} (h : i < xs.length) : rd xs (i : Int) = xs[i] := by
  simp [rd, h]
/-- The numbers from s on, n of them. -/
def marks (s : Int) : Nat → List Int
  | 0 => []
  | n + 1 => s :: marks (s + 1) n
theorem marks_length (s : Int) (n : Nat) : (marks s n).length = n := by
  induction n generalizing s with
  | zero => rfl
  | succ n ih => simp [marks, ih]
theorem marks_get (s : Int) (n : Nat) : ∀ (i : Nat) (h : i < (marks s n).length), (marks s n)[i] = s + i := by
  induction n generalizing s with
  | zero => intro i h; simp [marks] at h
  | succ n ih =>
    intro i h
    cases i with
    | zero => simp [marks]
    | succ i => simp only [marks, List.getElem_cons_succ]; rw [ih]; push_cast; omega
theorem marks_snoc (s : Int) (n : Nat) : marks s (n + 1) = marks s n ++ [s + n] := by
  induction n generalizing s with
  | zero => simp [marks]
  | succ n ih => rw [marks, ih, marks]; simp; omega
-- part: eqInts
theorem eqInt64S_l0 (xs : List Int) (hn : xs.length ≤ 1099511627776) : ∀ (d i : Nat), i + d = xs.length → Ev (fun k => laws_eqInt64S.l0 k xs xs (i : Int)) true := by
  intro d
  induction d with
  | zero =>
    intro i h
    refine Ev.step (f := fun _ => some true) (fun k => ?_) (Ev.now _)
    simp only [laws_eqInt64S.l0]
    rw [if_neg (by omega)]
  | succ d ih =>
    intro i h
    refine Ev.step (fun k => ?_) (ih (i + 1) (by omega))
    simp only [laws_eqInt64S.l0]
    rw [if_pos (by omega), if_pos (by omega), if_pos (by omega), if_pos trivial, w64 (by omega) (by omega)]
    push_cast
    rfl
theorem eqInt64S_ev (xs : List Int) (hn : xs.length ≤ 1099511627776) : Ev (fun k => laws_eqInt64S.f k xs xs) true := by
  refine Ev.congr (fun k => ?_) (eqInt64S_l0 xs hn xs.length 0 (by omega))
  unfold laws_eqInt64S.f
  rw [if_pos rfl]; rfl
-- part: markInts
theorem markInt64S_l0 (n : Nat) (s : Int) (hs : 0 ≤ s) (hs2 : s ≤ 4611686018427387904) (hn : n ≤ 1099511627776) : ∀ (d i : Nat) (xs : List Int), xs.length = n → i + d = n → xs.take i = marks s i →
    Ev (fun k => laws_markInt64S.l0 k xs (s + i) (i : Int)) (s + n, marks s n) := by
  intro d
  induction d with
  | zero =>
    intro i xs hl h ht
    refine Ev.step (f := fun _ => some (s + n, marks s n)) (fun k => ?_) (Ev.now _)
    simp only [laws_markInt64S.l0]
    rw [if_neg (by omega)]
    obtain rfl : i = n := by omega
    rw [List.take_of_length_le (by omega)] at ht
    rw [ht]
  | succ d ih =>
    intro i xs hl h ht
    have ht' : (xs.set i (s + i)).take (i + 1) = marks s (i + 1) := by
      rw [marks_snoc, ← ht]
      apply List.ext_getElem
      · simp; omega
      · intro j h1 h2
        simp at h1
        simp only [List.getElem_take, List.getElem_set, List.getElem_append, List.length_take]
        by_cases hj : i = j
        · subst hj
          rw [if_pos rfl, dif_neg (by omega)]
          simp [show min i xs.length = i by omega]
        · rw [if_neg hj, dif_pos (by omega)]
    refine Ev.step (fun k => ?_) (ih (i + 1) (xs.set i (s + i)) (by simpa using hl) (by omega) ht')
    simp only [laws_markInt64S.l0]
    rw [if_pos (by omega), if_pos (by omega), w64 (x := s + (i : Int) + 1) (by omega) (by omega), w64 (x := (i : Int) + 1) (by omega) (by omega)]
    simp only [Int.toNat_natCast]
    push_cast
    rw [Int.add_assoc]
theorem markInt64S_ev (xs : List Int) (s : Int) (hs : 0 ≤ s) (hs2 : s ≤ 4611686018427387904) (hn : xs.length ≤ 1099511627776) : Ev (fun k => laws_markInt64S.f k xs s) (s + xs.length, marks s xs.length) := by
  refine Ev.congr (fun k => ?_) (markInt64S_l0 xs.length s hs hs2 hn xs.length 0 xs rfl (by omega) (by simp [marks]))
  unfold laws_markInt64S.f
  simp
-- part: heldInts
theorem heldInt64S_l0 (n : Nat) (s : Int) (hs : 0 ≤ s) (hs2 : s ≤ 4611686018427387904) (hn : n ≤ 1099511627776) : ∀ (d i : Nat), i + d = n → Ev (fun k => laws_heldInt64S.l0 k (marks s n) (s + i) (i : Int)) (s + n) := by
  intro d
  induction d with
  | zero =>
    intro i h
    refine Ev.step (f := fun _ => some (s + n)) (fun k => ?_) (Ev.now _)
    simp only [laws_heldInt64S.l0]
    rw [if_neg (by rw [marks_length]; omega)]
    obtain rfl : i = n := by omega
    rfl
  | succ d ih =>
    intro i h
    refine Ev.step (fun k => ?_) (ih (i + 1) (by omega))
    simp only [laws_heldInt64S.l0]
    rw [if_pos (by rw [marks_length]; omega), if_pos (by omega), rd_get (by rw [marks_length]; omega), marks_get, if_pos rfl, w64 (x := s + (i : Int) + 1) (by omega) (by omega), w64 (x := (i : Int) + 1) (by omega) (by omega)]
    push_cast
    rw [Int.add_assoc]
theorem heldInt64S_ev (n : Nat) (s : Int) (hs : 0 ≤ s) (hs2 : s ≤ 4611686018427387904) (hn : n ≤ 1099511627776) : Ev (fun k => laws_heldInt64S.f k (marks s n) s) (s + n) := by
  refine Ev.congr (fun k => ?_) (heldInt64S_l0 n s hs hs2 hn n 0 (by omega))
  unfold laws_heldInt64S.f
  simp
-- part: rangeRd
theorem rdR_get {xs : List S63} {i : Nat} (h : i < xs.length) : rd_T63 xs (i : Int) = xs[i] := by
  simp [rd_T63, h]
-- part: ranges
/-- One glyph more. -/
def joinR (out : List S63) (g : Int) : List S63 :=
  if 0 < out.length ∧ (rd_T63 out ((out.length : Int) - 1)).f1 = g - 1 then out.set (out.length - 1) ⟨(rd_T63 out ((out.length : Int) - 1)).f0, g⟩ else out ++ [⟨g, g⟩]
def rangesM (xs : List Int) : List S63 := xs.foldl joinR []
theorem joinR_length (out : List S63) (g : Int) : 0 < (joinR out g).length ∧ (joinR out g).length ≤ out.length + 1 := by
  unfold joinR
  split
  · rename_i h; simp; omega
  · simp
theorem joinR_last (out : List S63) (g : Int) : (rd_T63 (joinR out g) (((joinR out g).length : Int) - 1)).f1 = g := by
  obtain ⟨n, hn⟩ : ∃ n, (joinR out g).length = n + 1 := ⟨(joinR out g).length - 1, by have := joinR_length out g; omega⟩
  rw [hn, show (((n + 1 : Nat) : Int) - 1) = (n : Int) by omega, rdR_get (by omega)]
  unfold joinR at hn ⊢
  by_cases h : 0 < out.length ∧ (rd_T63 out ((out.length : Int) - 1)).f1 = g - 1
  · simp only [if_pos h, List.length_set] at hn ⊢
    simp [List.getElem_set, show out.length - 1 = n by omega]
  · simp only [if_neg h, List.length_append, List.length_singleton] at hn ⊢
    simp [List.getElem_append, show n = out.length by omega]
theorem implRanges_l0 (xs : List Int) (hn : xs.length ≤ 1048576) (hx : ∀ x ∈ xs, 0 ≤ x ∧ x ≤ 65535) : ∀ (d i : Nat) (out : List S63), i + d = xs.length → out.length ≤ i →
    Ev (fun k => impl_rangesOf.l0 k out xs (xs.length : Int) (i : Int)) ((xs.drop i).foldl joinR out) := by
  intro d
  induction d with
  | zero =>
    intro i out h ho
    refine Ev.step (f := fun _ => some _) (fun k => ?_) (Ev.now _)
    simp only [impl_rangesOf.l0]
    rw [if_neg (by omega), List.drop_of_length_le (by omega)]
    rfl
  | succ d ih =>
    intro i out h ho
    have hi : i < xs.length := by omega
    have hb := hx xs[i] (List.getElem_mem hi)
    rw [List.drop_eq_getElem_cons hi, List.foldl_cons]
    have hl := joinR_length out xs[i]
    refine Ev.step (fun k => ?_) (ih (i + 1) (joinR out xs[i]) (by omega) (by omega))
    simp only [impl_rangesOf.l0]
    rw [if_pos (by omega), if_pos (by omega), if_pos (by omega), rd_get hi, w64 (x := (i : Int) + 1) (by omega) (by omega), if_pos (by omega : out.length < 8796093022208), w64 (x := xs[i] - 1) (by omega) (by omega), w64 (x := (out.length : Int) - 1) (by omega) (by omega)]
    unfold joinR
    by_cases h1 : 0 < out.length
    · rw [if_pos (by omega), if_pos (by omega), if_pos (by omega)]
      by_cases h2 : (rd_T63 out ((out.length : Int) - 1)).f1 = xs[i] - 1
      · rw [if_pos h2, if_pos ⟨h1, h2⟩, show ((out.length : Int) - 1).toNat = out.length - 1 by omega]
        push_cast; rfl
      · rw [if_neg h2, if_neg (fun h => h2 h.2)]
        push_cast; rfl
    · rw [if_neg (by omega), if_neg (fun h => h1 h.1)]
      push_cast; rfl
theorem implRanges_ev (xs : List Int) (hn : xs.length ≤ 1048576) (hx : ∀ x ∈ xs, 0 ≤ x ∧ x ≤ 65535) : Ev (fun k => impl_rangesOf.f k xs) (rangesM xs) :=
  implRanges_l0 xs hn hx xs.length 0 [] (by omega) (by simp)
theorem specRanges_l0 (xs : List Int) (hn : xs.length ≤ 1048576) (hx : ∀ x ∈ xs, 0 ≤ x ∧ x ≤ 65535) : ∀ (d i : Nat) (out : List S63), i + d = xs.length → out.length ≤ i → (i = 0 → out = []) → (∀ j : Nat, i = j + 1 → 0 < out.length ∧ (rd_T63 out ((out.length : Int) - 1)).f1 = rd xs j) →
    Ev (fun k => spec_l23Ranges.l0 k xs out (i : Int)) ((xs.drop i).foldl joinR out) := by
  intro d
  induction d with
  | zero =>
    intro i out h ho h0 hj
    refine Ev.step (f := fun _ => some _) (fun k => ?_) (Ev.now _)
    simp only [spec_l23Ranges.l0]
    rw [if_neg (by omega), List.drop_of_length_le (by omega)]
    rfl
  | succ d ih =>
    intro i out h ho h0 hj
    have hi : i < xs.length := by omega
    have hb := hx xs[i] (List.getElem_mem hi)
    rw [List.drop_eq_getElem_cons hi, List.foldl_cons]
    have hl := joinR_length out xs[i]
    refine Ev.step (fun k => ?_) (ih (i + 1) (joinR out xs[i]) (by omega) (by omega) (by omega) (fun j e => ⟨hl.1, by rw [joinR_last, show j = i by omega, rd_get hi]⟩))
    simp only [spec_l23Ranges.l0]
    rw [if_pos (show (i : Int) < (xs.length : Int) by omega), rd_get hi, w64 (x := (i : Int) + 1) (by omega) (by omega), if_pos (by omega : out.length < 8796093022208)]
    unfold joinR
    cases i with
    | zero =>
      have e := h0 rfl
      subst e
      rw [if_neg (show ¬ (((0 : Nat) : Int) > 0) by omega), if_pos (show (0 : Int) ≤ ((0 : Nat) : Int) by omega), if_neg (by simp)]
      rfl
    | succ j =>
      obtain ⟨h1, h2⟩ := hj j rfl
      have hb' := hx xs[j] (List.getElem_mem (by omega))
      rw [if_pos (show ((j + 1 : Nat) : Int) > 0 by omega), if_pos (show (0 : Int) ≤ ((j + 1 : Nat) : Int) by omega), w64 (x := ((j + 1 : Nat) : Int) - 1) (by omega) (by omega), w64 (x := (out.length : Int) - 1) (by omega) (by omega), if_pos (by omega), if_pos (by omega), show (((j + 1 : Nat) : Int) - 1) = (j : Int) by omega, h2, rd_get (by omega), w64 (x := xs[j] + 1) (by omega) (by omega)]
      by_cases h3 : xs[j + 1] = xs[j] + 1
      · rw [if_pos h3, if_pos (show (0 : Int) ≤ (out.length : Int) - 1 by omega), if_pos (show (out.length : Int) - 1 < (out.length : Int) by omega), if_pos ⟨h1, by omega⟩, show ((out.length : Int) - 1).toNat = out.length - 1 by omega]
        push_cast; rfl
      · rw [if_neg h3, if_neg (fun h => h3 (by omega))]
        push_cast; rfl
theorem specRanges_ev (xs : List Int) (hn : xs.length ≤ 1048576) (hx : ∀ x ∈ xs, 0 ≤ x ∧ x ≤ 65535) : Ev (fun k => spec_l23Ranges.f k xs) (rangesM xs) :=
  specRanges_l0 xs hn hx xs.length 0 [] (by omega) (by simp) (by simp) (by simp)
theorem rangesM_length (xs : List Int) : (rangesM xs).length ≤ xs.length := by
  have key : ∀ (xs : List Int) (out : List S63), (xs.foldl joinR out).length ≤ out.length + xs.length := by
    intro xs
    induction xs with
    | nil => intro out; simp
    | cons x xs ih =>
      intro out
      have := ih (joinR out x)
      have := joinR_length out x
      simp only [List.foldl_cons, List.length_cons]
      omega
  simpa [rangesM] using key xs []
-- part: rangesOk
def okR (r : S63) : Prop := (0 ≤ r.f0 ∧ r.f0 ≤ 65535) ∧ 0 ≤ r.f1 ∧ r.f1 ≤ 65535
theorem joinR_ok (out : List S63) (g : Int) (ho : ∀ r ∈ out, okR r) (hg : 0 ≤ g ∧ g ≤ 65535) : ∀ r ∈ joinR out g, okR r := by
  intro r hr
  unfold joinR at hr
  split at hr
  · rename_i h
    rcases List.mem_or_eq_of_mem_set hr with h1 | h1
    · exact ho r h1
    · subst h1
      refine ⟨?_, hg⟩
      have hi : out.length - 1 < out.length := by omega
      have : rd_T63 out ((out.length : Int) - 1) = out[out.length - 1] := by
        rw [show ((out.length : Int) - 1) = ((out.length - 1 : Nat) : Int) by omega, rdR_get hi]
      simp only [this]
      exact (ho _ (List.getElem_mem hi)).1
  · rcases List.mem_append.1 hr with h1 | h1
    · exact ho r h1
    · rw [List.mem_singleton.1 h1]
      exact ⟨hg, hg⟩
theorem rangesM_ok (xs : List Int) (hx : ∀ x ∈ xs, 0 ≤ x ∧ x ≤ 65535) : ∀ r ∈ rangesM xs, okR r := by
  have key : ∀ (xs : List Int) (out : List S63), (∀ x ∈ xs, 0 ≤ x ∧ x ≤ 65535) → (∀ r ∈ out, okR r) → ∀ r ∈ xs.foldl joinR out, okR r := by
    intro xs
    induction xs with
    | nil => intro out _ ho; exact ho
    | cons x xs ih =>
      intro out hx ho
      rw [List.foldl_cons]
      exact ih _ (fun y hy => hx y (List.mem_cons_of_mem _ hy)) (joinR_ok out x ho (hx x List.mem_cons_self))
  exact key xs [] hx (by simp)
-- part: bytes
theorem bx_ext {a b : ByteArray} (h : a.data.toList = b.data.toList) : a = b := by
  cases a; cases b; simp only at h; congr 1; exact Array.toList_inj.1 h
theorem bx_app (a b : ByteArray) : (a ++ b).data.toList = a.data.toList ++ b.data.toList := by
  rw [ByteArray.data_append]; simp
theorem bx_assoc (a b c : ByteArray) : (a ++ b) ++ c = a ++ (b ++ c) := by
  apply bx_ext; simp only [bx_app, List.append_assoc]
theorem bx_size (a b : ByteArray) : (a ++ b).size = a.size + b.size := ByteArray.size_append
theorem bx_nil (a : ByteArray) : (⟨#[]⟩ : ByteArray) ++ a = a := by apply bx_ext; rw [bx_app]; rfl
theorem bx_nil' (a : ByteArray) : a ++ (⟨#[]⟩ : ByteArray) = a := by apply bx_ext; rw [bx_app]; simp
theorem son_app (xs ys : List Int) : strOfNums (xs ++ ys) = strOfNums xs ++ strOfNums ys := by
  apply bx_ext; rw [bx_app]; simp only [strOfNums_data, List.map_append]
theorem son_cons (x : Int) (xs : List Int) : strOfNums (x :: xs) = strOfNums [x] ++ strOfNums xs := son_app [x] xs
-- part: dec
open Go.Proofs.YtdahcapolipnbaaDoor.Gv
/-- A number's decimal form. -/
def decB (n : Int) : ByteArray := strOfNums (decL n)
theorem decL_len (n : Int) (h0 : -9223372036854775808 ≤ n) (h1 : n ≤ 9223372036854775807) : (decL n).length ≤ 20 := by
  have := digP_len 19 n.natAbs (by omega) (by omega)
  unfold decL
  split
  · rw [List.length_cons]; omega
  · omega
theorem decB_size (n : Int) (h0 : -9223372036854775808 ≤ n) (h1 : n ≤ 9223372036854775807) : (decB n).size ≤ 20 := by
  unfold decB
  rw [strOfNums_size]
  exact decL_len n h0 h1
theorem implDec (n : Int) (h0 : -9223372036854775808 ≤ n) (h1 : n ≤ 9223372036854775807) : impl_Decimal.f n = some (decB n) := by
  unfold impl_Decimal.f decF
  rw [if_pos ⟨h0, h1⟩]
  rfl
def digZ (u : Nat) : List Int := if u = 0 then [] else digP u
theorem digZ_step (u : Nat) (h : u ≠ 0) (acc : List Int) : digZ u ++ acc = digZ (u / 10) ++ ((48 + ((u % 10 : Nat) : Int)) :: acc) := by
  unfold digZ
  rw [if_neg h]
  by_cases h9 : u < 10
  · rw [digP_one h9, if_pos (by omega), show u % 10 = u by omega]; rfl
  · rw [digP_more h9, if_neg (by omega), List.append_assoc]; rfl
def finD (x0 : Int) (l : List Int) : ByteArray := if l.length = 0 then ⟨#[48]⟩ else if x0 < 0 then (⟨#[45]⟩ : ByteArray) ++ strOfNums l else strOfNums l
theorem specDec_l0 (x0 : Int) : ∀ (n u : Nat) (kk : Int) (acc : List Int), u < 10 ^ n → kk.natAbs = u → acc.length + n ≤ 20 → -9223372036854775808 ≤ kk → kk ≤ 9223372036854775807 →
    Ev (fun k => spec_l01Dec.l0 k x0 acc kk) (finD x0 (digZ u ++ acc)) := by
  intro n
  have base : ∀ (acc : List Int), acc.length ≤ 20 → Ev (fun k => spec_l01Dec.l0 k x0 acc 0) (finD x0 (digZ 0 ++ acc)) := by
    intro acc ha
    refine Ev.step (f := fun _ => some _) (fun k => ?_) (Ev.now _)
    simp only [spec_l01Dec.l0]
    rw [if_pos trivial]
    show _ = some (finD x0 acc)
    unfold finD
    by_cases h0 : acc.length = 0
    · rw [if_pos (by omega), if_pos h0]
    · rw [if_neg (by omega), if_neg h0]
      by_cases hs : x0 < 0
      · rw [if_pos hs, if_pos hs, if_pos (by rw [strOfNums_size]; omega)]
      · rw [if_neg hs, if_neg hs]
  induction n with
  | zero =>
    intro u kk acc hu hk ha _ _
    have hu0 : u = 0 := by simpa using hu
    obtain rfl : kk = 0 := by omega
    subst hu0
    exact base acc (by omega)
  | succ n ih =>
    intro u kk acc hu hk ha hb0 hb1
    by_cases h0 : u = 0
    · obtain rfl : kk = 0 := by omega
      subst h0
      exact base acc (by omega)
    · have hk0 : ¬ kk = 0 := by omega
      have hu10 : u / 10 < 10 ^ n := by rw [Nat.pow_succ] at hu; omega
      have ht : Int.tmod kk 10 = if kk < 0 then -((u % 10 : Nat) : Int) else ((u % 10 : Nat) : Int) := by
        split
        · rename_i hs
          have e : kk = -(u : Int) := by omega
          rw [e, Int.neg_tmod, Int.tmod_eq_emod_of_nonneg (by omega)]; push_cast; rfl
        · rename_i hs
          have e : kk = (u : Int) := by omega
          rw [e, Int.tmod_eq_emod_of_nonneg (by omega)]; push_cast; rfl
      have hd : Int.tdiv kk 10 = if kk < 0 then -((u / 10 : Nat) : Int) else ((u / 10 : Nat) : Int) := by
        split
        · rename_i hs
          have e : kk = -(u : Int) := by omega
          rw [e, Int.neg_tdiv, Int.tdiv_eq_ediv_of_nonneg (by omega)]; push_cast; rfl
        · rename_i hs
          have e : kk = (u : Int) := by omega
          rw [e, Int.tdiv_eq_ediv_of_nonneg (by omega)]; push_cast; rfl
      generalize hT : Int.tmod kk 10 = T at ht
      generalize hD : Int.tdiv kk 10 = D at hd
      have hD' : D.natAbs = u / 10 ∧ -9223372036854775808 ≤ D ∧ D ≤ 9223372036854775807 := by
        rw [hd]; split <;> omega
      rw [digZ_step u h0]
      refine Ev.step (fun k => ?_) (ih (u / 10) D ((48 + ((u % 10 : Nat) : Int)) :: acc) hu10 hD'.1 (by simp only [List.length_cons]; omega) hD'.2.1 hD'.2.2)
      simp only [spec_l01Dec.l0]
      rw [if_neg hk0, hT, hD, w64 (x := D) (by omega) (by omega)]
      by_cases hm : T < 0
      · have hTu : -T = ((u % 10 : Nat) : Int) := by
          by_cases hq : kk < 0
          · rw [if_pos hq] at ht; omega
          · rw [if_neg hq] at ht; omega
        rw [if_pos hm]
        simp only [Option.bind_some]
        rw [if_pos (by simp only [List.length_singleton]; omega), hTu, w64 (x := ((u % 10 : Nat) : Int)) (by omega) (by omega), w64 (by omega) (by omega), show (48 + ((u % 10 : Nat) : Int)) % 256 = 48 + ((u % 10 : Nat) : Int) by omega]
        rfl
      · have hTu : T = ((u % 10 : Nat) : Int) := by
          by_cases hq : kk < 0
          · rw [if_pos hq] at ht; omega
          · rw [if_neg hq] at ht; omega
        rw [if_neg hm]
        simp only [Option.bind_some]
        rw [if_pos (by simp only [List.length_singleton]; omega), hTu, w64 (by omega) (by omega), show (48 + ((u % 10 : Nat) : Int)) % 256 = 48 + ((u % 10 : Nat) : Int) by omega]
        rfl
theorem specDec_ev (n : Int) (h0 : -9223372036854775808 ≤ n) (h1 : n ≤ 9223372036854775807) : Ev (fun k => spec_l01Dec.f k n) (decB n) := by
  have e : decB n = finD n (digZ n.natAbs ++ []) := by
    rw [List.append_nil]
    unfold decB decL finD digZ
    by_cases hz : n.natAbs = 0
    · obtain rfl : n = 0 := by omega
      rw [if_pos hz, if_neg (show ¬ (0 : Int) < 0 by omega), hz, digP_one (by omega)]
      rfl
    · have hp := digP_pos n.natAbs
      rw [if_neg hz, if_neg (show ¬ (digP n.natAbs).length = 0 by omega)]
      by_cases hs : n < 0
      · rw [if_pos hs, if_pos hs, son_cons]; rfl
      · rw [if_neg hs, if_neg hs]
  rw [e]
  exact specDec_l0 n 20 n.natAbs n [] (by omega) rfl (by simp) h0 h1
-- part: classText
/-- A range's text. -/
def wordT (r : S63) : ByteArray := if r.f1 > r.f0 then decB r.f0 ++ ((⟨#[45]⟩ : ByteArray) ++ decB r.f1) else decB r.f0
theorem wordT_size (r : S63) (h : okR r) : (wordT r).size ≤ 41 := by
  have h0 := decB_size r.f0 (by have := h.1.1; omega) (by have := h.1.2; omega)
  have h1 := decB_size r.f1 (by have := h.2.1; omega) (by have := h.2.2; omega)
  unfold wordT
  split
  · rw [bx_size, bx_size]
    have : (⟨#[45]⟩ : ByteArray).size = 1 := rfl
    omega
  · omega
theorem joinB_size (sep : ByteArray) (xs : List ByteArray) (b : Nat) (hs : sep.size ≤ 1) (hx : ∀ x ∈ xs, x.size ≤ b) : (joinB sep xs).size ≤ xs.length * (b + 1) := by
  cases xs with
  | nil => exact Nat.zero_le _
  | cons x r =>
    have key : ∀ (r : List ByteArray) (a : ByteArray), (∀ x ∈ r, x.size ≤ b) → (r.foldl (fun a y => (a ++ sep) ++ y) a).size ≤ a.size + r.length * (b + 1) := by
      intro r
      induction r with
      | nil => intro a _; simp
      | cons y r ih =>
        intro a hr
        rw [List.foldl_cons]
        have := ih ((a ++ sep) ++ y) (fun z hz => hr z (List.mem_cons_of_mem _ hz))
        have hy := hr y List.mem_cons_self
        rw [bx_size, bx_size] at this
        rw [List.length_cons, Nat.succ_mul]
        omega
    have h1 := key r x (fun z hz => hx z (List.mem_cons_of_mem _ hz))
    have h2 := hx x List.mem_cons_self
    show (r.foldl (fun a y => (a ++ sep) ++ y) x).size ≤ _
    rw [List.length_cons, Nat.succ_mul]
    omega
theorem implText_l0 (sep : ByteArray) (hs : sep.size ≤ 1) (rs : List S63) (hn : rs.length ≤ 1048576) (hr : ∀ r ∈ rs, okR r) : ∀ (d i : Nat) (acc : List ByteArray), i + d = rs.length → acc = (rs.take i).map wordT →
    Ev (fun k => impl_classText.l0 k sep acc rs (rs.length : Int) (i : Int)) (joinB sep (rs.map wordT)) := by
  intro d
  induction d with
  | zero =>
    intro i acc h ha
    obtain rfl : i = rs.length := by omega
    rw [List.take_length] at ha
    have hb := joinB_size sep acc 41 hs (by rw [ha]; intro x hx; obtain ⟨r, h1, rfl⟩ := List.mem_map.1 hx; exact wordT_size r (hr r h1))
    have hl : acc.length = rs.length := by rw [ha, List.length_map]
    refine Ev.step (f := fun _ => some _) (fun k => ?_) (Ev.now _)
    simp only [impl_classText.l0]
    rw [if_neg (by omega)]
    unfold strings_Join.f joinF
    rw [if_pos ⟨by omega, by omega⟩, ha]
    rfl
  | succ d ih =>
    intro i acc h ha
    have hi : i < rs.length := by omega
    have ho := hr rs[i] (List.getElem_mem hi)
    have hl : acc.length = i := by rw [ha, List.length_map, List.length_take]; omega
    have h0 := decB_size rs[i].f0 (by have := ho.1.1; omega) (by have := ho.1.2; omega)
    have h1 := decB_size rs[i].f1 (by have := ho.2.1; omega) (by have := ho.2.2; omega)
    have e45 : (⟨#[45]⟩ : ByteArray).size = 1 := rfl
    refine Ev.step (fun k => ?_) (ih (i + 1) (acc ++ [wordT rs[i]]) (by omega) (by rw [ha, List.take_succ_eq_append_getElem hi, List.map_append]; rfl))
    simp only [impl_classText.l0]
    rw [if_pos (by omega), if_pos (by omega), if_pos (by omega), rdR_get hi, implDec _ (by have := ho.1.1; omega) (by have := ho.1.2; omega), w64 (x := (i : Int) + 1) (by omega) (by omega)]
    simp only [Option.bind_some]
    unfold wordT
    by_cases hc : rs[i].f1 > rs[i].f0
    · rw [if_pos hc, if_pos hc, implDec _ (by have := ho.2.1; omega) (by have := ho.2.2; omega)]
      simp only [Option.bind_some]
      rw [if_pos (by omega), if_pos (by rw [bx_size]; omega), if_pos (by omega)]
      push_cast; rfl
    · rw [if_neg hc, if_neg hc, if_pos (by omega)]
      push_cast; rfl
theorem implText_ev (sep : ByteArray) (hs : sep.size ≤ 1) (xs : List Int) (hn : xs.length ≤ 1048576) (hx : ∀ x ∈ xs, 0 ≤ x ∧ x ≤ 65535) : Ev (fun k => impl_classText.f k xs sep) (joinB sep ((rangesM xs).map wordT)) := by
  have := rangesM_length xs
  refine Ev.bind (implRanges_ev xs hn hx) ?_
  exact implText_l0 sep hs _ (by omega) (rangesM_ok xs hx) (rangesM xs).length 0 [] (by omega) (by simp)
theorem specText_l0 (rs : List S63) (hn : rs.length ≤ 1048576) (hr : ∀ r ∈ rs, okR r) : ∀ (d i : Nat) (out : ByteArray), i + d = rs.length → out.size ≤ i * 42 → out = joinB (⟨#[32]⟩ : ByteArray) ((rs.take i).map wordT) →
    Ev (fun k => spec_l23Text.l0 k rs out (i : Int)) (joinB (⟨#[32]⟩ : ByteArray) (rs.map wordT)) := by
  intro d
  induction d with
  | zero =>
    intro i out h hs ho
    obtain rfl : i = rs.length := by omega
    rw [List.take_length] at ho
    refine Ev.step (f := fun _ => some _) (fun k => ?_) (Ev.now _)
    simp only [spec_l23Text.l0]
    rw [if_neg (by omega), ho]
  | succ d ih =>
    intro i out h hs ho
    have hi : i < rs.length := by omega
    have hok := hr rs[i] (List.getElem_mem hi)
    have h0 := decB_size rs[i].f0 (by have := hok.1.1; omega) (by have := hok.1.2; omega)
    have h1 := decB_size rs[i].f1 (by have := hok.2.1; omega) (by have := hok.2.2; omega)
    have hw := wordT_size rs[i] hok
    have e45 : (⟨#[45]⟩ : ByteArray).size = 1 := rfl
    have e32 : (⟨#[32]⟩ : ByteArray).size = 1 := rfl
    -- from the separator's end on
    have tail : ∀ (o : ByteArray), o.size ≤ i * 42 + 1 → o ++ wordT rs[i] = joinB (⟨#[32]⟩ : ByteArray) ((rs.take (i + 1)).map wordT) → Ev (fun k => spec_l23Text.j1 k rs o (i : Int)) (joinB (⟨#[32]⟩ : ByteArray) (rs.map wordT)) := by
      intro o hos hoe
      have hnext := ih (i + 1) (o ++ wordT rs[i]) (by omega) (by rw [bx_size]; omega) hoe
      refine Ev.step (fun k => by rw [spec_l23Text.j1]) ?_
      refine evPos (by omega) (evPos (by omega) ?_)
      rw [rdR_get hi]
      refine Ev.bind (specDec_ev _ (by have := hok.1.1; omega) (by have := hok.1.2; omega)) ?_
      refine evPos (by omega) ?_
      rw [w64 (x := (i : Int) + 1) (by omega) (by omega)]
      unfold wordT at hnext
      by_cases hc : rs[i].f1 > rs[i].f0
      · rw [if_pos hc, ← bx_assoc] at hnext
        refine evPos hc (Ev.bind (specDec_ev _ (by have := hok.2.1; omega) (by have := hok.2.2; omega)) ?_)
        refine evPos (by omega) (evPos (by rw [bx_size, bx_size]; omega) ?_)
        exact hnext
      · rw [if_neg hc] at hnext
        exact evNeg hc hnext
    refine Ev.step (fun k => by rw [spec_l23Text.l0]) (evPos (by omega) ?_)
    cases i with
    | zero =>
      refine evNeg (by omega) (tail out (by omega) ?_)
      have : out = ⟨#[]⟩ := by rw [ho]; rfl
      rw [this, bx_nil, List.take_succ_eq_append_getElem hi]
      rfl
    | succ j =>
      refine evPos (by omega) (evPos (by omega) (tail _ (by rw [bx_size]; omega) ?_))
      rw [ho, List.take_succ_eq_append_getElem hi, List.map_append]
      have hne : (rs.take (j + 1)).map wordT ≠ [] := by
        intro e
        have := congrArg List.length e
        simp only [List.length_map, List.length_take, List.length_nil] at this
        omega
      obtain ⟨x, r, hxr⟩ := List.exists_cons_of_ne_nil hne
      rw [hxr]
      show _ = (r ++ [wordT rs[j + 1]]).foldl (fun a y => (a ++ (⟨#[32]⟩ : ByteArray)) ++ y) x
      rw [List.foldl_append]
      rfl
theorem specText_ev (xs : List Int) (hn : xs.length ≤ 1048576) (hx : ∀ x ∈ xs, 0 ≤ x ∧ x ≤ 65535) : Ev (fun k => spec_l23Text.f k xs) (joinB (⟨#[32]⟩ : ByteArray) ((rangesM xs).map wordT)) := by
  have := rangesM_length xs
  refine Ev.bind (specRanges_ev xs hn hx) ?_
  exact specText_l0 _ (by omega) (rangesM_ok xs hx) (rangesM xs).length 0 (⟨#[]⟩ : ByteArray) (by omega) (Nat.le_of_eq rfl) rfl
-- part: inF
theorem in_f (a b c : Int) : spec_l00In.f a b c = some (decide (b ≤ a ∧ a ≤ c)) := by
  unfold spec_l00In.f
  by_cases h : a ≥ b <;> simp [h]
-- part: classRanges
theorem num_f (a : Int) : impl_isGlyphNumber.f a = some (decide (0 ≤ a ∧ a ≤ 39)) := by
  unfold impl_isGlyphNumber.f
  by_cases h : a ≥ 0
  · rw [if_pos h]; congr 1; rw [decide_eq_decide]; omega
  · rw [if_neg h, decide_eq_false (by omega)]
/-- The glyphs from g on, d of them. -/
def span : Int → Nat → List Int
  | _, 0 => []
  | g, d + 1 => g :: span (g + 1) d
theorem span_length (d : Nat) : ∀ g, (span g d).length = d := by
  induction d with
  | zero => intro g; rfl
  | succ d ih => intro g; simp [span, ih]
def spanR (x : S63) : List Int := span x.f0 (x.f1 + 1 - x.f0).toNat
/-- What one range obeys; p: the end of what lies before it. -/
def ranAt (x : S63) (p : Int) : Prop := (0 ≤ x.f0 ∧ x.f0 ≤ 39) ∧ (x.f0 ≤ x.f1 ∧ x.f1 ≤ 39) ∧ p < x.f0
instance (x : S63) (p : Int) : Decidable (ranAt x p) := by unfold ranAt; infer_instance
def ranFrom : List S63 → Int → Bool
  | [], _ => true
  | x :: xs, p => decide (ranAt x p) && ranFrom xs x.f1
theorem ranFrom_all : ∀ (xs : List S63) (p : Int), ranFrom xs p = true → ∀ x ∈ xs, 0 ≤ x.f0 ∧ x.f0 ≤ x.f1 ∧ x.f1 ≤ 39 := by
  intro xs
  induction xs with
  | nil => intro p _ x hx; cases hx
  | cons y ys ih =>
    intro p h x hx
    rw [ranFrom, Bool.and_eq_true, decide_eq_true_iff] at h
    obtain ⟨⟨h1, h2, h3⟩, h4⟩ := h
    rcases List.mem_cons.1 hx with rfl | hx
    · omega
    · exact ih _ h4 x hx
theorem specSpan (xs : List S63) (i : Nat) (hi : i < xs.length) (hn : xs.length ≤ 2097152) (hf : xs[i].f1 ≤ 39) (r : List Int × Int) :
    ∀ (d : Nat) (g : Int) (out : List Int), g + d = xs[i].f1 + 1 → 0 ≤ g → out.length + d ≤ 100000000 →
      Ev (fun k => spec_ClassOfRanges.l1 k xs (out ++ span g d) ((i + 1 : Nat) : Int)) r → Ev (fun k => spec_ClassOfRanges.l2 k xs out (i : Int) g) r := by
  intro d
  induction d with
  | zero =>
    intro g out h h0 ho e
    rw [span, List.append_nil] at e
    refine Ev.step (fun k => ?_) e
    simp only [spec_ClassOfRanges.l2]
    rw [if_pos (by omega), if_pos (by omega), rdR_get hi, if_neg (by omega), w64 (by omega) (by omega)]
    push_cast
    rfl
  | succ d ih =>
    intro g out h h0 ho e
    have := ih (g + 1) (out ++ [g]) (by omega) (by omega) (by simp; omega) (by rw [List.append_assoc, List.singleton_append]; exact e)
    refine Ev.step (fun k => ?_) this
    simp only [spec_ClassOfRanges.l2]
    rw [if_pos (by omega), if_pos (by omega), rdR_get hi, if_pos (show g ≤ xs[i].f1 by omega), if_pos (by omega), w64 (by omega) (by omega)]
theorem specBuild (xs : List S63) (hn : xs.length ≤ 2097152) (hx : ∀ x ∈ xs, 0 ≤ x.f0 ∧ x.f0 ≤ x.f1 ∧ x.f1 ≤ 39) :
    ∀ (d i : Nat) (out : List Int), i + d = xs.length → out.length ≤ 40 * i → Ev (fun k => spec_ClassOfRanges.l1 k xs out (i : Int)) (out ++ (xs.drop i).flatMap spanR, 0) := by
  intro d
  induction d with
  | zero =>
    intro i out h ho
    refine Ev.step (f := fun _ => some _) (fun k => ?_) (Ev.now _)
    simp only [spec_ClassOfRanges.l1]
    rw [if_neg (by omega), List.drop_of_length_le (by omega)]
    simp
  | succ d ih =>
    intro i out h ho
    have hi : i < xs.length := by omega
    have hb := hx xs[i] (List.getElem_mem hi)
    rw [List.drop_eq_getElem_cons hi, List.flatMap_cons, ← List.append_assoc]
    refine Ev.step (fun k => by
      simp only [spec_ClassOfRanges.l1]
      rw [if_pos (by omega), if_pos (by omega), rdR_get hi]) ?_
    refine specSpan xs i hi hn hb.2.2 _ (xs[i].f1 + 1 - xs[i].f0).toNat xs[i].f0 out (by omega) (by omega) (by omega) ?_
    exact ih (i + 1) (out ++ spanR xs[i]) (by omega) (by rw [List.length_append, spanR, span_length]; omega)
theorem specRan (xs : List S63) (hn : xs.length ≤ 2097152) (R : List Int) (hR : ranFrom xs (-1) = true → Ev (fun k => spec_ClassOfRanges.l1 k xs [] 0) (R, 0)) :
    ∀ (d i : Nat) (p : Int), i + d = xs.length → ranFrom xs (-1) = ranFrom (xs.drop i) p → (i = 0 → p = -1) → (∀ j : Nat, i = j + 1 → ∃ h : j < xs.length, p = xs[j].f1) →
      Ev (fun k => spec_ClassOfRanges.l0 k xs (i : Int)) (if ranFrom xs (-1) = true then (R, 0) else ([], 1)) := by
  intro d
  induction d with
  | zero =>
    intro i p h he h0 hj
    rw [List.drop_of_length_le (by omega), ranFrom] at he
    rw [if_pos he]
    refine Ev.step (fun k => ?_) (hR he)
    simp only [spec_ClassOfRanges.l0]
    rw [if_neg (by omega)]
  | succ d ih =>
    intro i p h he h0 hj
    have hi : i < xs.length := by omega
    rw [List.drop_eq_getElem_cons hi, ranFrom] at he
    have bad : ¬ ranAt xs[i] p → (if ranFrom xs (-1) = true then (R, (0:Int)) else ([], 1)) = ([], 1) := fun hr => by
      rw [he, decide_eq_false hr, Bool.false_and]; rfl
    by_cases r1 : 0 ≤ xs[i].f0 ∧ xs[i].f0 ≤ 39
    · by_cases r2 : xs[i].f0 ≤ xs[i].f1 ∧ xs[i].f1 ≤ 39
      · have go : ranAt xs[i] p → Ev (fun k => spec_ClassOfRanges.l0 k xs ((i + 1 : Nat) : Int)) (if ranFrom xs (-1) = true then (R, 0) else ([], 1)) := fun hr =>
          ih (i + 1) xs[i].f1 (by omega) (by rw [he, decide_eq_true hr, Bool.true_and]) (by omega) (fun j e => by
            obtain rfl : j = i := by omega
            exact ⟨hi, rfl⟩)
        cases i with
        | zero =>
          have e := h0 rfl
          refine Ev.step (fun k => ?_) (go ⟨r1, r2, by omega⟩)
          simp only [spec_ClassOfRanges.l0, in_f, Option.bind_some]
          rw [if_pos (by omega), if_pos (by omega), rdR_get hi, decide_eq_true r1, decide_eq_true r2, if_pos rfl, if_pos rfl, if_neg (by omega), w64 (by omega) (by omega)]
          rfl
        | succ j =>
          obtain ⟨hj1, e⟩ := hj j rfl
          by_cases r3 : xs[j + 1].f0 ≤ p
          · rw [bad (fun hr => by have := hr.2.2; omega)]
            refine Ev.step (f := fun _ => some _) (fun k => ?_) (Ev.now _)
            simp only [spec_ClassOfRanges.l0, in_f, Option.bind_some]
            rw [if_pos (by omega), if_pos (by omega), rdR_get hi, decide_eq_true r1, decide_eq_true r2, if_pos rfl, if_pos rfl, if_pos (by omega), w64 (x := ((j + 1 : Nat) : Int) - 1) (by omega) (by omega), if_pos (by omega), if_pos (by omega), show (((j + 1 : Nat) : Int) - 1) = (j : Int) by omega, rdR_get hj1, ← e, if_pos r3]
          · refine Ev.step (fun k => ?_) (go ⟨r1, r2, by omega⟩)
            simp only [spec_ClassOfRanges.l0, in_f, Option.bind_some]
            rw [if_pos (by omega), if_pos (by omega), rdR_get hi, decide_eq_true r1, decide_eq_true r2, if_pos rfl, if_pos rfl, if_pos (by omega), w64 (x := ((j + 1 : Nat) : Int) - 1) (by omega) (by omega), if_pos (by omega), if_pos (by omega), show (((j + 1 : Nat) : Int) - 1) = (j : Int) by omega, rdR_get hj1, ← e, if_neg r3, w64 (x := ((j + 1 : Nat) : Int) + 1) (by omega) (by omega)]
            push_cast
            rfl
      · rw [bad (fun hr => r2 hr.2.1)]
        refine Ev.step (f := fun _ => some _) (fun k => ?_) (Ev.now _)
        simp only [spec_ClassOfRanges.l0, in_f, Option.bind_some]
        rw [if_pos (by omega), if_pos (by omega), rdR_get hi, decide_eq_true r1, decide_eq_false r2, if_pos rfl, if_neg (by simp)]
    · rw [bad (fun hr => r1 hr.1)]
      refine Ev.step (f := fun _ => some _) (fun k => ?_) (Ev.now _)
      simp only [spec_ClassOfRanges.l0, in_f, Option.bind_some]
      rw [if_pos (by omega), if_pos (by omega), rdR_get hi, decide_eq_false r1, if_neg (by simp)]
theorem implSpan (xs : List S63) (i : Nat) (hi : i < xs.length) (hn : xs.length ≤ 2097152) (a b : Int) (hb : b ≤ 39) (r : List Int × Int) :
    ∀ (d : Nat) (g : Int) (out : List Int), g + d = b + 1 → 0 ≤ g → out.length + d ≤ 100000000 →
      Ev (fun k => impl_ClassOfRanges.l0 k xs (out ++ span g d) xs (xs.length : Int) ((i + 1 : Nat) : Int)) r → Ev (fun k => impl_ClassOfRanges.l1 k xs out g xs (xs.length : Int) (i : Int) a b) r := by
  intro d
  induction d with
  | zero =>
    intro g out h h0 ho e
    rw [span, List.append_nil] at e
    refine Ev.step (fun k => ?_) e
    simp only [impl_ClassOfRanges.l1]
    rw [if_neg (by omega), w64 (by omega) (by omega)]
    push_cast
    rfl
  | succ d ih =>
    intro g out h h0 ho e
    have := ih (g + 1) (out ++ [g]) (by omega) (by omega) (by simp; omega) (by rw [List.append_assoc, List.singleton_append]; exact e)
    refine Ev.step (fun k => ?_) this
    simp only [impl_ClassOfRanges.l1]
    rw [if_pos (show g ≤ b by omega), if_pos (by omega), w64 (by omega) (by omega)]
theorem implRan (xs : List S63) (hn : xs.length ≤ 2097152) :
    ∀ (d i : Nat) (p : Int) (out : List Int), i + d = xs.length → out.length ≤ 40 * i → (i = 0 → p = -1) → (∀ j : Nat, i = j + 1 → ∃ h : j < xs.length, p = xs[j].f1) →
      Ev (fun k => impl_ClassOfRanges.l0 k xs out xs (xs.length : Int) (i : Int)) (if ranFrom (xs.drop i) p = true then (out ++ (xs.drop i).flatMap spanR, 0) else ([], 1)) := by
  intro d
  induction d with
  | zero =>
    intro i p out h ho h0 hj
    refine Ev.step (f := fun _ => some _) (fun k => ?_) (Ev.now _)
    simp only [impl_ClassOfRanges.l0]
    rw [if_neg (by omega), List.drop_of_length_le (by omega)]
    simp [ranFrom]
  | succ d ih =>
    intro i p out h ho h0 hj
    have hi : i < xs.length := by omega
    rw [List.drop_eq_getElem_cons hi, ranFrom]
    have bad : ∀ a b, Ev (fun k => impl_ClassOfRanges.j1 k xs out xs (xs.length : Int) (i : Int) true a b) ([], 1) := fun a b =>
      Ev.step (f := fun _ => some ([], 1)) (fun k => by simp [impl_ClassOfRanges.j1]) (Ev.now _)
    have go : ranAt xs[i] p → Ev (fun k => impl_ClassOfRanges.j1 k xs out xs (xs.length : Int) (i : Int) false xs[i].f0 xs[i].f1) (if ranFrom (xs.drop (i + 1)) xs[i].f1 = true then (out ++ (xs[i] :: xs.drop (i + 1)).flatMap spanR, 0) else ([], 1)) := by
      intro hr
      obtain ⟨r1, r2, r3⟩ := hr
      refine Ev.step (f := fun k => impl_ClassOfRanges.l1 k xs out xs[i].f0 xs (xs.length : Int) (i : Int) xs[i].f0 xs[i].f1) (fun k => by simp [impl_ClassOfRanges.j1]) ?_
      refine implSpan xs i hi hn _ _ r2.2 _ (xs[i].f1 + 1 - xs[i].f0).toNat xs[i].f0 out (by omega) (by omega) (by omega) ?_
      rw [List.flatMap_cons, ← List.append_assoc]
      exact ih (i + 1) xs[i].f1 (out ++ spanR xs[i]) (by omega) (by rw [List.length_append, spanR, span_length]; omega) (by omega) (fun j e => by
        obtain rfl : j = i := by omega
        exact ⟨hi, rfl⟩)
    refine Ev.step (fun k => by
      simp only [impl_ClassOfRanges.l0, num_f, Option.bind_some]
      rw [if_pos (by omega), if_pos (by omega), if_pos (by omega), rdR_get hi]) ?_
    by_cases r1 : 0 ≤ xs[i].f0 ∧ xs[i].f0 ≤ 39
    · refine evPos (decide_eq_true r1) ?_
      by_cases r2 : 0 ≤ xs[i].f1 ∧ xs[i].f1 ≤ 39
      · refine evPos (decide_eq_true r2) ?_
        by_cases r4 : xs[i].f1 < xs[i].f0
        · rw [decide_eq_false (fun hr : ranAt xs[i] p => by have := hr.2.1; omega), Bool.false_and]
          exact evPos r4 (bad _ _)
        · refine evNeg r4 ?_
          cases i with
          | zero =>
            have e := h0 rfl
            rw [decide_eq_true (show ranAt xs[0] p from ⟨r1, by omega, by omega⟩), Bool.true_and]
            exact evNeg (by omega) (go ⟨r1, by omega, by omega⟩)
          | succ j =>
            obtain ⟨hj1, e⟩ := hj j rfl
            refine Ev.congr (f := fun k => impl_ClassOfRanges.j1 k xs out xs (xs.length : Int) ((j + 1 : Nat) : Int) (decide (xs[j + 1].f0 ≤ p)) xs[j + 1].f0 xs[j + 1].f1) (fun k => by
              rw [if_pos (by omega), w64 (x := ((j + 1 : Nat) : Int) - 1) (by omega) (by omega), if_pos (by omega), if_pos (by omega), show (((j + 1 : Nat) : Int) - 1) = (j : Int) by omega, rdR_get hj1, ← e]) ?_
            by_cases r3 : xs[j + 1].f0 ≤ p
            · rw [decide_eq_false (fun hr : ranAt xs[j + 1] p => by have := hr.2.2; omega), Bool.false_and, decide_eq_true r3]
              exact bad _ _
            · rw [decide_eq_true (show ranAt xs[j + 1] p from ⟨r1, by omega, by omega⟩), Bool.true_and, decide_eq_false r3]
              exact go ⟨r1, by omega, by omega⟩
      · rw [decide_eq_false (fun hr : ranAt xs[i] p => by have := hr.1; have := hr.2.1; omega), Bool.false_and]
        exact evNeg (by simpa using r2) (bad _ _)
    · rw [decide_eq_false (fun hr : ranAt xs[i] p => by have := hr.1; omega), Bool.false_and]
      exact evNeg (by simpa using r1) (bad _ _)
theorem flat_length (xs : List S63) (hx : ∀ x ∈ xs, 0 ≤ x.f0 ∧ x.f0 ≤ x.f1 ∧ x.f1 ≤ 39) : (xs.flatMap spanR).length ≤ 40 * xs.length := by
  induction xs with
  | nil => simp
  | cons x xs ih =>
    have h1 := hx x (List.mem_cons_self ..)
    have h2 := ih (fun y hy => hx y (List.mem_cons_of_mem _ hy))
    rw [List.flatMap_cons, List.length_append, spanR, span_length, List.length_cons]
    omega
-- part: cutNeg
theorem extract_toList (s : ByteArray) (a b : Nat) : (s.extract a b).toList = (s.data.toList.drop a).take (b - a) := by
  rw [ByteArray.toList_eq, ByteArray.data_extract, Array.toList_extract, List.extract_eq_take_drop]
theorem bt_zero (s : ByteArray) (h : 0 < s.size) : ∃ c : UInt8, s.data.toList.take 1 = [c] ∧ bt s 0 = c.toNat := by
  have hl : 0 < s.data.toList.length := by rw [data_length]; exact h
  obtain ⟨c, l, e⟩ : ∃ c l, s.data.toList = c :: l := by
    match s.data.toList, hl with
    | c :: l, _ => exact ⟨c, l, rfl⟩
  refine ⟨c, by rw [e]; rfl, ?_⟩
  rw [← rd_bytesOf, bytesOf, e]
  rfl
theorem cutNeg_f (s : ByteArray) : strings_CutPrefix.f s (⟨#[45]⟩ : ByteArray) = some (if 0 < s.size ∧ bt s 0 = 45 then (s.extract 1 s.size, true) else (s, false)) := by
  have e1 : (ByteArray.mk #[45]).size = 1 := rfl
  have e2 : (ByteArray.mk #[45]).toList = [45] := by rw [ByteArray.toList_eq]
  unfold strings_CutPrefix.f stringslite_CutPrefix.f stringslite_HasPrefix.f
  simp only [e1, e2]
  by_cases h : 0 < s.size
  · obtain ⟨c, hc, hb⟩ := bt_zero s h
    have e3 : (s.extract 0 (((1 : Nat) : Int)).toNat).toList = [c] := by rw [extract_toList]; exact hc
    rw [if_pos (by omega), if_pos (by omega), if_pos (by omega), e3]
    simp only [Option.bind_some]
    by_cases h2 : bt s 0 = 45
    · have e4 : c = 45 := UInt8.toNat_inj.1 (show c.toNat = 45 by omega)
      subst e4
      rw [if_pos (by rfl), if_pos (by omega), if_pos (by omega), if_pos ⟨h, h2⟩]
      rfl
    · have e4 : c ≠ 45 := fun e => h2 (by rw [hb, e]; rfl)
      rw [if_neg (by simpa using e4), if_neg (fun h => h2 h.2)]
      rfl
  · rw [if_neg (by omega)]
    simp only [Option.bind_some]
    rw [if_neg (by simp), if_neg (fun h' => h h'.1)]
    rfl
-- part: signs
theorem digP_sign : ∀ (n u : Nat), u < 10 ^ n → ∀ x ∈ digP u, 48 ≤ x ∧ x ≤ 57 := by
  intro n
  induction n with
  | zero => intro u h x hx; rw [digP_one (by simp at h; omega)] at hx; simp at hx h; omega
  | succ n ih =>
    intro u h x hx
    by_cases h9 : u < 10
    · rw [digP_one h9] at hx; simp at hx; omega
    · rw [digP_more h9] at hx
      rcases List.mem_append.1 hx with h1 | h1
      · exact ih (u / 10) (by rw [Nat.pow_succ] at h; omega) x h1
      · simp at h1; omega
-- part: number
theorem digitS (c : Int) : spec_l01Digit.f c = some (decide (48 ≤ c ∧ c ≤ 57)) := by
  unfold spec_l01Digit.f
  by_cases h : c ≥ 48 <;> simp [h]
theorem digitI (c : Int) : impl_isDigit.f c = some (decide (48 ≤ c ∧ c ≤ 57)) := by
  unfold impl_isDigit.f
  by_cases h : c ≥ 48 <;> simp [h]
/-- What a number that was read obeys. -/
def numOk (s : ByteArray) (z : Int × Bool) : Prop := z.2 = true → -1000000000000000000 < z.1 ∧ z.1 < 1000000000000000000 ∧ (decB z.1).toList = s.toList
theorem num_l0 (s t : ByteArray) (neg : Bool) (hn : neg = decide ((t.size : Int) < (s.size : Int))) (ht : t.size ≤ 18) : ∀ (d i : Nat) (n : Int), i + d = t.size → 0 ≤ n → n < 10 ^ i →
    ∃ z : Int × Bool, Ev (fun k => spec_l01Number.l0 k s t n (i : Int)) z ∧ Ev (fun k => impl_ReadDecimal.l0 k s t neg n (i : Int)) z ∧ numOk s z := by
  intro d
  induction d with
  | zero =>
    intro i n h h0 h1
    have hp : (10 : Int) ^ i ≤ 10 ^ 18 := by exact_mod_cast Nat.pow_le_pow_right (by decide) (by omega : i ≤ 18)
    have hp2 : (10 : Int) ^ 18 = 1000000000000000000 := by decide
    have hm : wrap64 (-n) = -n := w64 (by omega) (by omega)
    have fin : ∀ m : Int, -1000000000000000000 < m → m < 1000000000000000000 → ∃ z : Int × Bool, (if (decB m).toList = s.toList then some (m, true) else some ((0 : Int), false)) = some z ∧ numOk s z := by
      intro m m0 m1
      by_cases he : (decB m).toList = s.toList
      · exact ⟨(m, true), if_pos he, fun _ => ⟨m0, m1, he⟩⟩
      · exact ⟨(0, false), if_neg he, fun h => by cases h⟩
    cases hc : neg with
    | true =>
      have hlt : (t.size : Int) < (s.size : Int) := by rw [hc] at hn; exact of_decide_eq_true hn.symm
      obtain ⟨z, ez, oz⟩ := fin (-n) (by omega) (by omega)
      refine ⟨z, ?_, ?_, oz⟩
      · refine Ev.step (fun k => by rw [spec_l01Number.l0, hm]) ?_
        refine evNeg (by omega) (evPos hlt (Ev.bind (specDec_ev (-n) (by omega) (by omega)) ?_))
        rw [ez]
        exact Ev.now _
      · refine Ev.step (fun k => by rw [impl_ReadDecimal.l0, hm]) ?_
        refine evNeg (by omega) (evPos rfl (Ev.bind (a := decB (-n)) ?_ ?_))
        · rw [implDec (-n) (by omega) (by omega)]
          exact Ev.now _
        · rw [ez]
          exact Ev.now _
    | false =>
      have hge : ¬ (t.size : Int) < (s.size : Int) := by rw [hc] at hn; exact of_decide_eq_false hn.symm
      obtain ⟨z, ez, oz⟩ := fin n (by omega) (by omega)
      refine ⟨z, ?_, ?_, oz⟩
      · refine Ev.step (fun k => by rw [spec_l01Number.l0]) ?_
        refine evNeg (by omega) (evNeg hge (Ev.bind (specDec_ev n (by omega) (by omega)) ?_))
        rw [ez]
        exact Ev.now _
      · refine Ev.step (fun k => by rw [impl_ReadDecimal.l0]) ?_
        refine evNeg (by omega) (evNeg (by simp) (Ev.bind (a := decB n) ?_ ?_))
        · rw [implDec n (by omega) (by omega)]
          exact Ev.now _
        · rw [ez]
          exact Ev.now _
  | succ d ih =>
    intro i n h h0 h1
    have hp : (10 : Int) ^ i ≤ 10 ^ 17 := by exact_mod_cast Nat.pow_le_pow_right (by decide) (by omega : i ≤ 17)
    have hp2 : (10 : Int) ^ 17 = 100000000000000000 := by decide
    have hp3 : (10 : Int) ^ (i + 1) = 10 * 10 ^ i := by rw [Int.pow_succ]; omega
    have hi : wrap64 ((i : Int) + 1) = ((i + 1 : Nat) : Int) := by rw [w64 (by omega) (by omega)]; push_cast; rfl
    by_cases hd : 48 ≤ bt t (i : Int) ∧ bt t (i : Int) ≤ 57
    · have hm : ((bt t (i : Int)) - 48) % 256 = bt t (i : Int) - 48 := by omega
      have hv : wrap64 (wrap64 (10 * n) + (bt t (i : Int) - 48)) = 10 * n + (bt t (i : Int) - 48) := by
        rw [w64 (x := 10 * n) (by omega) (by omega)]
        exact w64 (by omega) (by omega)
      have hv2 : wrap64 (wrap64 (n * 10) + (bt t (i : Int) - 48)) = 10 * n + (bt t (i : Int) - 48) := by rw [Int.mul_comm n 10]; exact hv
      obtain ⟨z, z1, z2, oz⟩ := ih (i + 1) (10 * n + (bt t (i : Int) - 48)) (by omega) (by omega) (by rw [hp3]; omega)
      refine ⟨z, ?_, ?_, oz⟩
      · refine Ev.step (fun k => by rw [spec_l01Number.l0, digitS, Option.bind_some, hm, hv, hi]) ?_
        exact evPos (by omega) (evPos (by omega) (evPos (decide_eq_true hd) z1))
      · refine Ev.step (fun k => by rw [impl_ReadDecimal.l0, digitI, Option.bind_some, hm, hv2, hi]) ?_
        exact evPos (by omega) (evPos (by omega) (evPos (decide_eq_true hd) z2))
    · refine ⟨(0, false), ?_, ?_, fun h => by cases h⟩
      · refine Ev.step (fun k => by rw [spec_l01Number.l0, digitS, Option.bind_some]) ?_
        exact evPos (by omega) (evPos (by omega) (evNeg (by simpa using hd) (Ev.now _)))
      · refine Ev.step (fun k => by rw [impl_ReadDecimal.l0, digitI, Option.bind_some]) ?_
        exact evPos (by omega) (evPos (by omega) (evNeg (by simpa using hd) (Ev.now _)))
theorem nil_list (s : ByteArray) : s.toList = ([] : List UInt8) ↔ s.size = 0 := by
  rw [ByteArray.toList_eq, ← List.length_eq_zero_iff, data_length]
theorem num_both (s : ByteArray) (hs : s.size ≤ 1048576) : ∃ z : Int × Bool, Ev (fun k => spec_l01Number.f k s) z ∧ Ev (fun k => impl_ReadDecimal.f k s) z ∧ numOk s z := by
  -- from the sign on
  have tail : ∀ (t : ByteArray) (neg : Bool), neg = decide ((t.size : Int) < (s.size : Int)) → ∃ z : Int × Bool, Ev (fun k => spec_l01Number.j1 k s t) z ∧
      Ev (fun k => if (t.size : Int) < 1 then (impl_ReadDecimal.j0 k s t neg true) else (impl_ReadDecimal.j0 k s t neg (decide ((t.size : Int) > 18)))) z ∧ numOk s z := by
    intro t neg hn
    have bS : Ev (fun k => spec_l01Number.j2 k s t true) (0, false) := Ev.step (f := fun _ => some _) (fun k => by rw [spec_l01Number.j2]; rfl) (Ev.now _)
    have bI : Ev (fun k => impl_ReadDecimal.j0 k s t neg true) (0, false) := Ev.step (f := fun _ => some _) (fun k => by rw [impl_ReadDecimal.j0]; rfl) (Ev.now _)
    by_cases h1 : (t.size : Int) < 1
    · exact ⟨(0, false), Ev.step (fun k => by rw [spec_l01Number.j1]) (evPos h1 bS), evPos h1 bI, fun h => by cases h⟩
    · by_cases h18 : (t.size : Int) > 18
      · refine ⟨(0, false), Ev.step (fun k => by rw [spec_l01Number.j1, decide_eq_true h18]) (evNeg h1 bS), ?_, fun h => by cases h⟩
        rw [decide_eq_true h18]
        exact evNeg h1 bI
      · obtain ⟨z, z1, z2, oz⟩ := num_l0 s t neg hn (by omega) t.size 0 0 (by omega) (by omega) (by decide)
        refine ⟨z, ?_, ?_, oz⟩
        · refine Ev.step (fun k => by rw [spec_l01Number.j1, decide_eq_false h18]) (evNeg h1 ?_)
          exact Ev.step (fun k => by rw [spec_l01Number.j2]; rfl) z1
        · rw [decide_eq_false h18]
          refine evNeg h1 ?_
          exact Ev.step (fun k => by rw [impl_ReadDecimal.j0]; rfl) z2
  by_cases h : 0 < s.size ∧ bt s 0 = 45
  · have hz : (s.extract 1 s.size).size = s.size - 1 := by rw [ByteArray.size_extract]; omega
    obtain ⟨z, z1, z2, oz⟩ := tail (s.extract 1 s.size) true (by rw [hz]; exact (decide_eq_true (by omega)).symm)
    refine ⟨z, ?_, ?_, oz⟩
    · refine evNeg (by rw [nil_list]; omega) (evPos (by omega) ?_)
      rw [show (bt s 0 == 45) = true by rw [h.2]; rfl]
      refine Ev.step (fun k => by rw [spec_l01Number.j0]) ?_
      exact evPos rfl (evPos (by omega) z1)
    · refine Ev.bind (a := (s.extract 1 s.size, true)) ?_ z2
      rw [cutNeg_f, if_pos h]
      exact Ev.now _
  · obtain ⟨z, z1, z2, oz⟩ := tail s false (by exact (decide_eq_false (by omega)).symm)
    refine ⟨z, ?_, ?_, oz⟩
    · have st : Ev (fun k => spec_l01Number.j0 k s s false) z := Ev.step (fun k => by rw [spec_l01Number.j0]; rfl) z1
      by_cases h0 : s.size = 0
      · exact evPos ((nil_list s).2 h0) st
      · refine evNeg (by rw [nil_list]; exact h0) (evPos (by omega) ?_)
        rw [show (bt s 0 == 45) = false from beq_eq_false_iff_ne.2 (fun e => h ⟨by omega, e⟩)]
        exact st
    · refine Ev.bind (a := (s, false)) ?_ z2
      rw [cutNeg_f, if_neg h]
      exact Ev.now _
/-- A number that is not negative has no sign. -/
theorem dec_sign (n : Int) (h0 : -1000000000000000000 < n) (h1 : n < 1000000000000000000) (h : (45 : UInt8) ∈ (decB n).data.toList) : n < 0 := by
  by_cases hn : n < 0
  · exact hn
  · unfold decB at h
    rw [strOfNums_data] at h
    obtain ⟨x, hx, e⟩ := List.mem_map.1 h
    unfold decL at hx
    rw [if_neg hn] at hx
    have := digP_sign 19 n.natAbs (by omega) x hx
    have e2 := congrArg UInt8.toNat e
    rw [UInt8.toNat_ofNat'] at e2
    have : (45 : UInt8).toNat = 45 := rfl
    omega
-- part: splitM
/-- A text cut at a sign; what is taken already, and what is left. -/
def splitA (c : UInt8) : List UInt8 → List UInt8 → List (List UInt8)
  | pref, [] => [pref]
  | pref, b :: l => if b = c then pref :: splitA c [] l else splitA c (pref ++ [b]) l
theorem splitA_first (c : UInt8) : ∀ (l pref : List UInt8), splitA c pref l = if Lib.indexByte l c = -1 then [pref ++ l] else (pref ++ l.take (Lib.indexByte l c).toNat) :: splitA c [] (l.drop ((Lib.indexByte l c).toNat + 1)) := by
  intro l
  induction l with
  | nil => intro pref; simp [splitA, Lib.indexByte]
  | cons b l ih =>
    intro pref
    have hge := Lib.indexByte_ge l c
    by_cases hb : b = c
    · have e : Lib.indexByte (b :: l) c = 0 := by rw [Lib.indexByte]; exact if_pos (by simpa using hb)
      rw [splitA, if_pos hb, e, if_neg (by decide)]
      simp
    · by_cases h1 : Lib.indexByte l c = -1
      · have e : Lib.indexByte (b :: l) c = -1 := by rw [Lib.indexByte, if_neg (by simpa using hb)]; exact if_pos (by simpa using h1)
        rw [splitA, if_neg hb, e, ih, if_pos h1, if_pos rfl, List.append_assoc, List.singleton_append]
      · have e : Lib.indexByte (b :: l) c = Lib.indexByte l c + 1 := by rw [Lib.indexByte, if_neg (by simpa using hb)]; exact if_neg (by simpa using h1)
        rw [splitA, if_neg hb, e, ih, if_neg h1, if_neg (by omega)]
        rw [show (Lib.indexByte l c + 1).toNat = (Lib.indexByte l c).toNat + 1 by omega, List.take_succ_cons, List.drop_succ_cons, List.append_assoc, List.singleton_append]
theorem count_first (c : UInt8) : ∀ l : List UInt8, (Lib.indexByte l c = -1 → l.count c = 0) ∧ (Lib.indexByte l c ≠ -1 → l.count c = (l.drop ((Lib.indexByte l c).toNat + 1)).count c + 1) := by
  intro l
  induction l with
  | nil => simp [Lib.indexByte]
  | cons b l ih =>
    have hge := Lib.indexByte_ge l c
    rw [Lib.indexByte]
    by_cases hb : b = c
    · rw [if_pos (by simpa using hb)]
      refine ⟨fun h => by simp at h, fun _ => ?_⟩
      rw [hb]
      simp
    · rw [if_neg (by simpa using hb)]
      have hcnt : (b :: l).count c = l.count c := by rw [List.count_cons]; simp [hb]
      by_cases h1 : Lib.indexByte l c = -1
      · rw [if_pos (by simpa using h1), hcnt]
        exact ⟨fun _ => ih.1 h1, fun h => absurd rfl h⟩
      · rw [if_neg (by simpa using h1), hcnt]
        refine ⟨fun h => by omega, fun _ => ?_⟩
        rw [show (Lib.indexByte l c + 1).toNat = (Lib.indexByte l c).toNat + 1 by omega, List.drop_succ_cons]
        exact ih.2 h1
theorem splitK_A (c : UInt8) : ∀ (n : Nat) (l : List UInt8), l.count c = n → Lib.splitK [c] 0 n l = splitA c [] l := by
  intro n
  induction n with
  | zero =>
    intro l h
    rw [splitA_first]
    have h1 : Lib.indexByte l c = -1 := by
      by_cases h1 : Lib.indexByte l c = -1
      · exact h1
      · have := (count_first c l).2 h1; omega
    rw [if_pos h1]
    rfl
  | succ n ih =>
    intro l h
    have h1 : Lib.indexByte l c ≠ -1 := fun h1 => by have := (count_first c l).1 h1; omega
    have h2 := (count_first c l).2 h1
    rw [Lib.splitK, Lib.index_one, if_neg (by simpa using h1), splitA_first, if_neg h1, List.nil_append, Nat.add_zero, List.length_singleton]
    rw [ih _ (by omega)]
def ofL (l : List UInt8) : ByteArray := ⟨l.toArray⟩
theorem ofL_list (s : ByteArray) : ofL s.data.toList = s := by
  apply bx_ext
  simp [ofL]
theorem ofL_data (l : List UInt8) : (ofL l).data.toList = l := by simp [ofL]
/-- The parts of a text between a sign. -/
def partsM (s : ByteArray) (c : UInt8) : List ByteArray := (splitA c [] s.data.toList).map ofL
theorem splitB_parts (s : ByteArray) (c : UInt8) : Lib.splitB ⟨#[c]⟩ 0 (Lib.countB s ⟨#[c]⟩) s = partsM s c := by
  have h := Lib.splitB_data ⟨#[c]⟩ 0 (Lib.countB s ⟨#[c]⟩) s
  have hc : Lib.countB s ⟨#[c]⟩ = s.data.toList.count c := Lib.count_one c _
  rw [hc] at h ⊢
  have h2 := splitK_A c (s.data.toList.count c) s.data.toList rfl
  have h3 : (Lib.splitB ⟨#[c]⟩ 0 (s.data.toList.count c) s).map (·.data.toList) = splitA c [] s.data.toList := h.trans h2
  unfold partsM
  rw [← h3, List.map_map]
  exact ((List.map_congr_left fun x _ => ofL_list x).trans (List.map_id _)).symm
theorem split_ev (s : ByteArray) (c : UInt8) (hs : s.size ≤ 1048576) : Ev (fun _ => strings_Split.f s ⟨#[c]⟩) (partsM s c) := by
  have e : strings_Split.f s ⟨#[c]⟩ = some (partsM s c) := by
    rw [← splitB_parts]
    show (if s.size < 4294967281 then some (Lib.splitB ⟨#[c]⟩ 0 (Lib.countB s ⟨#[c]⟩) s) else none) = _
    exact if_pos (by omega)
  rw [e]
  exact Ev.now _
theorem bt_nat (s : ByteArray) (i : Nat) (h : i < s.data.toList.length) : bt s (i : Int) = (s.data.toList[i].toNat : Int) := by
  have h' : i < s.size := by rw [← data_length]; exact h
  unfold bt
  rw [dif_pos (by omega)]
  rfl
theorem specSplit_l0 (s : ByteArray) (c : UInt8) (hs : s.size ≤ 1048576) : ∀ (d i fr : Nat) (out : List ByteArray), i + d = s.data.toList.length → fr ≤ i → out.length ≤ i →
    Ev (fun k => spec_l01Split.l0 k s (c.toNat : Int) out (fr : Int) (i : Int)) (out ++ (splitA c ((s.data.toList.drop fr).take (i - fr)) (s.data.toList.drop i)).map ofL) := by
  have hlen : s.data.toList.length = s.size := data_length s
  have hex : ∀ a b : Nat, s.extract a b = ofL ((s.data.toList.drop a).take (b - a)) := by
    intro a b
    apply bx_ext
    rw [ofL_data, ← extract_toList, ByteArray.toList_eq]
  intro d
  induction d with
  | zero =>
    intro i fr out h hf ho
    rw [List.drop_of_length_le (by omega : s.data.toList.length ≤ i), splitA]
    refine Ev.step (fun k => by rw [spec_l01Split.l0]) (evNeg (by omega) (evPos (by omega) (evPos (by omega) (evPos (by omega) ?_))))
    rw [hex, show ((fr : Int)).toNat = fr by omega, show s.size = i by omega]
    exact Ev.now _
  | succ d ih =>
    intro i fr out h hf ho
    have hi : i < s.data.toList.length := by omega
    rw [List.drop_eq_getElem_cons hi, splitA]
    have hw : wrap64 ((i : Int) + 1) = ((i + 1 : Nat) : Int) := by rw [w64 (by omega) (by omega)]; push_cast; rfl
    by_cases hc : s.data.toList[i] = c
    · rw [if_pos hc]
      have := ih (i + 1) (i + 1) (out ++ [s.extract fr i]) (by omega) (by omega) (by rw [List.length_append, List.length_singleton]; omega)
      rw [Nat.sub_self, List.take_zero, hex, List.append_assoc, List.singleton_append] at this
      refine Ev.step (fun k => by rw [spec_l01Split.l0]) (evPos (by omega) (evPos (by omega) (evPos (by rw [bt_nat s i hi, hc]) (evPos (by omega) (evPos (by omega) (evPos (by omega) (evPos (by omega) ?_)))))))
      rw [hw, show ((fr : Int)).toNat = fr by omega, show ((i : Int)).toNat = i by omega, hex]
      exact this
    · rw [if_neg hc]
      have := ih (i + 1) fr out (by omega) (by omega) (by omega)
      rw [show i + 1 - fr = (i - fr) + 1 by omega, List.take_succ_eq_append_getElem (by rw [List.length_drop]; omega), List.getElem_drop] at this
      refine Ev.step (fun k => by rw [spec_l01Split.l0]) (evPos (by omega) (evPos (by omega) (evNeg ?_ ?_)))
      · rw [bt_nat s i hi]
        intro e
        exact hc (UInt8.toNat_inj.1 (by omega))
      · rw [hw]
        simp only [show fr + (i - fr) = i by omega] at this
        exact this
theorem specSplit_ev (s : ByteArray) (c : UInt8) (hs : s.size ≤ 1048576) : Ev (fun k => spec_l01Split.f k s (c.toNat : Int)) (partsM s c) := by
  have := specSplit_l0 s c hs s.data.toList.length 0 0 [] (by omega) (by omega) (by simp)
  exact this
theorem splitA_one (c : UInt8) : ∀ (l pref : List UInt8), (c ∉ l → splitA c pref l = [pref ++ l]) ∧ (c ∈ l → 2 ≤ (splitA c pref l).length) ∧ (splitA c pref l).length ≤ l.length + 1 ∧ 1 ≤ (splitA c pref l).length := by
  intro l
  induction l with
  | nil => intro pref; simp [splitA]
  | cons b l ih =>
    intro pref
    rw [splitA]
    by_cases hb : b = c
    · rw [if_pos hb]
      have := ih []
      refine ⟨fun h => absurd (by rw [hb]; exact List.mem_cons_self) h, fun _ => ?_, ?_, ?_⟩
      · rw [List.length_cons]; omega
      · rw [List.length_cons, List.length_cons]; omega
      · rw [List.length_cons]; omega
    · rw [if_neg hb]
      have := ih (pref ++ [b])
      refine ⟨fun h => ?_, fun h => ?_, ?_, this.2.2.2⟩
      · rw [this.1 (fun h' => h (List.mem_cons_of_mem _ h')), List.append_assoc, List.singleton_append]
      · rcases List.mem_cons.1 h with e | h'
        · exact absurd e.symm hb
        · exact this.2.1 h'
      · have := this.2.2.1; rw [List.length_cons]; omega
theorem splitA_mem (c : UInt8) : ∀ (l pref : List UInt8), ∀ p ∈ splitA c pref l, p.length ≤ pref.length + l.length := by
  intro l
  induction l with
  | nil => intro pref p hp; simp [splitA] at hp; rw [hp]; simp
  | cons b l ih =>
    intro pref p hp
    rw [splitA] at hp
    split at hp
    · rcases List.mem_cons.1 hp with rfl | hp
      · omega
      · have := ih [] p hp; simp at this ⊢; omega
    · have := ih _ p hp; simp at this ⊢; omega
theorem ofL_size (l : List UInt8) : (ofL l).size = l.length := by simp [ofL, ByteArray.size]
theorem parts_size (s : ByteArray) (c : UInt8) : ∀ p ∈ partsM s c, p.size ≤ s.size := by
  intro p hp
  obtain ⟨q, hq, rfl⟩ := List.mem_map.1 hp
  have := splitA_mem c s.data.toList [] q hq
  rw [ofL_size, ← data_length s]
  simpa using this
theorem parts_len (s : ByteArray) (c : UInt8) : (partsM s c).length ≤ s.size + 1 ∧ 1 ≤ (partsM s c).length := by
  have := (splitA_one c s.data.toList []).2.2
  unfold partsM
  rw [List.length_map, ← data_length s]
  exact this
-- part: strRd
theorem rdS_get {xs : List ByteArray} {i : Nat} (h : i < xs.length) : rdOf ByteArray.empty xs (i : Int) = xs[i] := by
  simp [rdOf, List.getD_eq_getElem?_getD, h]
-- part: readClass
/-- A word cut at its first sign. -/
theorem word_cut (w : ByteArray) (hw : w.size ≤ 1048576) : ∃ a b two, Ev (fun _ => strings_Cut.f w (⟨#[45]⟩ : ByteArray)) (a, b, two) ∧ a.size ≤ 1048576 ∧ b.size ≤ 1048576 ∧
    (two = false → partsM w 45 = [a] ∧ a = w) ∧ (two = true → ((45 : UInt8) ∉ b.data.toList → partsM w 45 = [a, b]) ∧ ((45 : UInt8) ∈ b.data.toList → 2 < (partsM w 45).length)) := by
  have hlen := data_length w
  have hidx : Lib.index w.data.toList [45] = Lib.indexByte w.data.toList 45 := Lib.index_one _ _
  have hge := Lib.indexByte_ge w.data.toList 45
  have hc : strings_Cut.f w (⟨#[45]⟩ : ByteArray) = some (⟨(Lib.cut w.data.toList [45]).1.toArray⟩, ⟨(Lib.cut w.data.toList [45]).2.1.toArray⟩, (Lib.cut w.data.toList [45]).2.2) := by
    show (if w.size < 4294967281 then some _ else none) = _
    exact if_pos (by omega)
  have hp := splitA_first 45 w.data.toList []
  by_cases h1 : Lib.indexByte w.data.toList 45 = -1
  · have e : Lib.cut w.data.toList [45] = (w.data.toList, [], false) := by
      unfold Lib.cut
      rw [hidx, h1]
      rfl
    rw [e] at hc
    have ew : (⟨w.data.toList.toArray⟩ : ByteArray) = w := ofL_list w
    refine ⟨w, ⟨#[]⟩, false, ?_, hw, by decide, fun _ => ⟨?_, rfl⟩, fun h => by cases h⟩
    · rw [hc, ew]
      exact Ev.now _
    · unfold partsM
      rw [hp, if_pos h1, List.nil_append, List.map_singleton, ofL_list]
  · have e : Lib.cut w.data.toList [45] = (w.data.toList.take (Lib.indexByte w.data.toList 45).toNat, w.data.toList.drop ((Lib.indexByte w.data.toList 45).toNat + 1), true) := by
      unfold Lib.cut
      rw [hidx, if_pos (by omega)]
      rfl
    rw [e] at hc
    refine ⟨ofL (w.data.toList.take (Lib.indexByte w.data.toList 45).toNat), ofL (w.data.toList.drop ((Lib.indexByte w.data.toList 45).toNat + 1)), true, ?_, ?_, ?_, fun h => (by cases h), fun _ => ⟨fun hb => ?_, fun hb => ?_⟩⟩
    · rw [hc]
      exact Ev.now _
    · rw [ofL_size, List.length_take]; omega
    · rw [ofL_size, List.length_drop]; omega
    · rw [ofL_data] at hb
      unfold partsM
      rw [hp, if_neg h1, ((splitA_one 45 _ []).1 hb), List.nil_append, List.nil_append]
      rfl
    · rw [ofL_data] at hb
      have := (splitA_one 45 _ []).2.1 hb
      unfold partsM
      rw [hp, if_neg h1, List.length_map, List.length_cons]
      omega
theorem ranFrom_count : ∀ (xs : List S63) (p : Int), ranFrom xs p = true → p ≤ 39 → (xs.length : Int) ≤ 39 - p := by
  intro xs
  induction xs with
  | nil => intro p _ hp; simp; omega
  | cons y ys ih =>
    intro p h hp
    rw [ranFrom, Bool.and_eq_true, decide_eq_true_iff] at h
    obtain ⟨⟨h1, h2, h3⟩, h4⟩ := h
    have := ih _ h4 h2.2
    rw [List.length_cons]
    push_cast
    omega
theorem ranFrom_size : ∀ (xs : List S63) (p : Int), ranFrom xs p = true → p ≤ 39 → ((xs.flatMap spanR).length : Int) ≤ 39 - p := by
  intro xs
  induction xs with
  | nil => intro p _ hp; simp; omega
  | cons y ys ih =>
    intro p h hp
    rw [ranFrom, Bool.and_eq_true, decide_eq_true_iff] at h
    obtain ⟨⟨h1, h2, h3⟩, h4⟩ := h
    have := ih _ h4 h2.2
    rw [List.flatMap_cons, List.length_append, spanR, span_length]
    push_cast
    omega
theorem span_within : ∀ (d : Nat) (g x : Int), x ∈ span g d → g ≤ x ∧ x < g + d := by
  intro d
  induction d with
  | zero => intro g x h; cases h
  | succ d ih =>
    intro g x h
    rcases List.mem_cons.1 h with rfl | h
    · push_cast; omega
    · have := ih _ _ h; push_cast; omega
theorem ranFrom_within (xs : List S63) (h : ranFrom xs (-1) = true) : ∀ x ∈ xs.flatMap spanR, 0 ≤ x ∧ x ≤ 65535 := by
  intro x hx
  obtain ⟨r, hr, hx⟩ := List.mem_flatMap.1 hx
  have h1 := ranFrom_all xs _ h r hr
  have h2 := span_within _ _ _ hx
  omega
theorem codeI (ys : List S63) (hn : ys.length ≤ 2097152) : Ev (fun k => impl_ClassOfRanges.f k ys) (if ranFrom ys (-1) = true then (ys.flatMap spanR, 0) else ([], 1)) :=
  implRan ys (by omega) ys.length 0 (-1) [] (by omega) (by simp) (fun _ => rfl) (by omega)
theorem codeS (ys : List S63) (hn : ys.length ≤ 2097152) : Ev (fun k => spec_ClassOfRanges.f k ys) (if ranFrom ys (-1) = true then (ys.flatMap spanR, 0) else ([], 1)) :=
  specRan ys (by omega) (ys.flatMap spanR) (fun hr => specBuild ys (by omega) (ranFrom_all ys _ hr) ys.length 0 [] (by omega) (by simp)) ys.length 0 (-1) (by omega) rfl (fun _ => rfl) (by omega)
section
variable (s sep : ByteArray) (hsep : sep.size ≤ 1) (ws : List ByteArray) (hn : ws.length ≤ 2097152) (hw : ∀ w ∈ ws, w.size ≤ 1048576)
include hn hw in
theorem read_bad : ∀ (d i : Nat) (acc : List S63), i + d = ws.length → acc.length = i → ((∃ r ∈ acc, r.f1 < 0) ∨ 40 < ws.length) → Ev (fun k => impl_readClass.l0 k s sep acc ws (ws.length : Int) (i : Int)) ([], false) := by
  intro d
  induction d with
  | zero =>
    intro i acc h hl hb
    refine Ev.step (fun k => by rw [impl_readClass.l0]) (evNeg (by omega) (Ev.bind (codeI acc (by omega)) ?_))
    have hr : ¬ ranFrom acc (-1) = true := by
      intro hr
      rcases hb with ⟨r, hr1, hr2⟩ | hb
      · have := ranFrom_all acc _ hr r hr1; omega
      · have := ranFrom_count acc _ hr (by omega); omega
    rw [if_neg hr]
    exact evNeg (by simp) (Ev.now _)
  | succ d ih =>
    intro i acc h hl hb
    have hi : i < ws.length := by omega
    obtain ⟨a, b, two, c1, ha, hbz, _, _⟩ := word_cut ws[i] (hw _ (List.getElem_mem hi))
    obtain ⟨x, _, x2, _⟩ := num_both a ha
    obtain ⟨y, _, y2, _⟩ := num_both b hbz
    have go : ∀ r : S63, Ev (fun k => impl_readClass.l0 k s sep (acc ++ [r]) ws (ws.length : Int) (wrap64 ((i : Int) + 1))) ([], false) := by
      intro r
      have := ih (i + 1) (acc ++ [r]) (by omega) (by rw [List.length_append, List.length_singleton]; omega) (hb.imp (fun ⟨q, h1, h2⟩ => ⟨q, List.mem_append_left _ h1, h2⟩) id)
      rw [w64 (by omega) (by omega)]
      push_cast at this
      exact this
    refine Ev.step (fun k => by rw [impl_readClass.l0, rdS_get hi]) (evPos (by omega) (evPos (by omega) (evPos (by omega) (Ev.bind c1 (Ev.bind x2 ?_)))))
    by_cases h1 : x.2 = true
    · refine evPos h1 ?_
      cases two with
      | true =>
        refine evPos rfl (Ev.bind y2 ?_)
        by_cases h2 : y.2 = true
        · exact evPos h2 (evPos (by omega) (go _))
        · exact evNeg h2 (Ev.now _)
      | false => exact evNeg (by simp) (evPos (by omega) (go _))
    · exact evNeg h1 (Ev.now _)
include hn hw in
theorem read_both : ∀ (d i : Nat) (acc : List S63), i + d = ws.length → acc.length = i →
    ∃ z : List Int × Bool, z.1.length ≤ 40 ∧ Ev (fun k => spec_l23Read.l0 k s ws acc (i : Int)) z ∧ Ev (fun k => impl_readClass.l0 k s (⟨#[32]⟩ : ByteArray) acc ws (ws.length : Int) (i : Int)) z := by
  intro d
  induction d with
  | zero =>
    intro i acc h hl
    by_cases hr : ranFrom acc (-1) = true
    · have hz := ranFrom_size acc _ hr (by omega)
      have hb := ranFrom_within acc hr
      have ts := specText_ev (acc.flatMap spanR) (by omega) hb
      have ti := implText_ev (⟨#[32]⟩ : ByteArray) (by decide) (acc.flatMap spanR) (by omega) hb
      have cs := codeS acc (by omega)
      have ci := codeI acc (by omega)
      rw [if_pos hr] at cs ci
      by_cases he : (joinB (⟨#[32]⟩ : ByteArray) ((rangesM (acc.flatMap spanR)).map wordT)).toList = s.toList
      · refine ⟨(acc.flatMap spanR, true), by simp only; omega, ?_, ?_⟩
        · exact Ev.step (fun k => by rw [spec_l23Read.l0]) (evNeg (by omega) (Ev.bind cs (evPos rfl (Ev.bind ts (evPos he (Ev.now _))))))
        · exact Ev.step (fun k => by rw [impl_readClass.l0]) (evNeg (by omega) (Ev.bind ci (evPos rfl (Ev.bind ti (evPos he (Ev.now _))))))
      · refine ⟨([], false), by simp, ?_, ?_⟩
        · exact Ev.step (fun k => by rw [spec_l23Read.l0]) (evNeg (by omega) (Ev.bind cs (evPos rfl (Ev.bind ts (evNeg he (Ev.now _))))))
        · exact Ev.step (fun k => by rw [impl_readClass.l0]) (evNeg (by omega) (Ev.bind ci (evPos rfl (Ev.bind ti (evNeg he (Ev.now _))))))
    · have cs := codeS acc (by omega)
      have ci := codeI acc (by omega)
      rw [if_neg hr] at cs ci
      refine ⟨([], false), by simp, ?_, ?_⟩
      · refine Ev.step (fun k => by rw [spec_l23Read.l0]) (evNeg (by omega) (Ev.bind cs ?_))
        exact evNeg (by decide) (Ev.now _)
      · refine Ev.step (fun k => by rw [impl_readClass.l0]) (evNeg (by omega) (Ev.bind ci ?_))
        exact evNeg (by decide) (Ev.now _)
  | succ d ih =>
    intro i acc h hl
    have hi : i < ws.length := by omega
    have hwi := hw _ (List.getElem_mem hi)
    obtain ⟨a, b, two, c1, ha, hbz, t0, t1⟩ := word_cut ws[i] hwi
    have sp : Ev (fun k => spec_l01Split.f k ws[i] 45) (partsM ws[i] 45) := specSplit_ev ws[i] 45 hwi
    have pl := parts_len ws[i] 45
    have ps := parts_size ws[i] 45
    obtain ⟨x, x1, x2, xo⟩ := num_both a ha
    have hw1 : wrap64 ((i : Int) + 1) = ((i + 1 : Nat) : Int) := by rw [w64 (by omega) (by omega)]; push_cast; rfl
    cases two with
    | false =>
      obtain ⟨tp, ta⟩ := t0 rfl
      rw [tp] at sp
      have hS : ∀ z, Ev (fun k => if x.2 = true then (if x.2 = true then spec_l23Read.l0 k s ws (acc ++ [⟨x.1, x.1⟩]) ((i + 1 : Nat) : Int) else some (([] : List Int), false)) else some (([] : List Int), false)) z → Ev (fun k => spec_l23Read.l0 k s ws acc (i : Int)) z := by
        intro z hz
        refine Ev.step (fun k => by rw [spec_l23Read.l0, rdS_get hi]) (evPos (by omega) (evPos (by omega) (Ev.bind sp ?_)))
        have e1 : wrap64 ((([a] : List ByteArray).length : Int) - 1) = 0 := w64 (by simp) (by simp)
        rw [e1]
        refine evPos (by simp) (Ev.bind x1 (evPos (by decide) (evPos (by simp) (Ev.bind x1 ?_))))
        by_cases h1 : x.2 = true
        · rw [hw1]
          refine evPos h1 (evPos h1 (evNeg (by simp) (evPos (by omega) ?_)))
          simpa only [if_pos h1] using hz
        · refine evNeg h1 ?_
          simpa only [if_neg h1] using hz
      have hI : ∀ z, Ev (fun k => if x.2 = true then impl_readClass.l0 k s (⟨#[32]⟩ : ByteArray) (acc ++ [⟨x.1, x.1⟩]) ws (ws.length : Int) ((i + 1 : Nat) : Int) else some (([] : List Int), false)) z → Ev (fun k => impl_readClass.l0 k s (⟨#[32]⟩ : ByteArray) acc ws (ws.length : Int) (i : Int)) z := by
        intro z hz
        refine Ev.step (fun k => by rw [impl_readClass.l0, rdS_get hi]) (evPos (by omega) (evPos (by omega) (evPos (by omega) (Ev.bind c1 (Ev.bind x2 ?_)))))
        by_cases h1 : x.2 = true
        · rw [hw1]
          refine evPos h1 (evNeg (by simp) (evPos (by omega) ?_))
          simpa only [if_pos h1] using hz
        · refine evNeg h1 ?_
          simpa only [if_neg h1] using hz
      by_cases h1 : x.2 = true
      · obtain ⟨z, zl, z1, z2⟩ := ih (i + 1) (acc ++ [⟨x.1, x.1⟩]) (by omega) (by rw [List.length_append, List.length_singleton]; omega)
        exact ⟨z, zl, hS z (evPos h1 (evPos h1 z1)), hI z (evPos h1 z2)⟩
      · exact ⟨([], false), by simp, hS _ (evNeg h1 (Ev.now _)), hI _ (evNeg h1 (Ev.now _))⟩
    | true =>
      obtain ⟨tn, tm⟩ := t1 rfl
      obtain ⟨y, y1, y2, yo⟩ := num_both b hbz
      by_cases h45 : (45 : UInt8) ∈ b.data.toList
      · -- more than two parts
        have h3 := tm h45
        refine ⟨([], false), by simp, ?_, ?_⟩
        · obtain ⟨p, p1, _, _⟩ := num_both (rdOf ByteArray.empty (partsM ws[i] 45) 0) (by
            rw [show (0 : Int) = ((0 : Nat) : Int) from rfl, rdS_get (by omega)]
            have := ps _ (List.getElem_mem (by omega : 0 < (partsM ws[i] 45).length)); omega)
          obtain ⟨q, q1, _, _⟩ := num_both (rdOf ByteArray.empty (partsM ws[i] 45) (((partsM ws[i] 45).length : Int) - 1)) (by
            rw [show (((partsM ws[i] 45).length : Int) - 1) = (((partsM ws[i] 45).length - 1 : Nat) : Int) by omega, rdS_get (by omega)]
            have := ps _ (List.getElem_mem (by omega : (partsM ws[i] 45).length - 1 < (partsM ws[i] 45).length)); omega)
          refine Ev.step (fun k => by rw [spec_l23Read.l0, rdS_get hi]) (evPos (by omega) (evPos (by omega) (Ev.bind sp ?_)))
          rw [w64 (x := ((partsM ws[i] 45).length : Int) - 1) (by omega) (by omega)]
          refine evPos (by omega) (Ev.bind p1 (evPos (by omega) (evPos (by omega) (Ev.bind q1 ?_))))
          by_cases h1 : p.2 = true
          · refine evPos h1 ?_
            by_cases h2 : q.2 = true
            · exact evPos h2 (evPos (by omega) (Ev.now _))
            · exact evNeg h2 (Ev.now _)
          · exact evNeg h1 (Ev.now _)
        · refine Ev.step (fun k => by rw [impl_readClass.l0, rdS_get hi, hw1]) (evPos (by omega) (evPos (by omega) (evPos (by omega) (Ev.bind c1 (Ev.bind x2 ?_)))))
          by_cases h1 : x.2 = true
          · refine evPos h1 (evPos rfl (Ev.bind y2 ?_))
            by_cases h2 : y.2 = true
            · obtain ⟨o1, o2, o3⟩ := yo h2
              have hneg : y.1 < 0 := dec_sign y.1 o1 o2 (by
                rw [ByteArray.toList_eq, ByteArray.toList_eq] at o3
                rw [o3]; exact h45)
              exact evPos h2 (evPos (by omega) (read_bad s (⟨#[32]⟩ : ByteArray) ws hn hw d (i + 1) _ (by omega) (by rw [List.length_append, List.length_singleton]; omega) (.inl ⟨_, List.mem_append_right _ (List.mem_singleton.2 rfl), hneg⟩)))
            · exact evNeg h2 (Ev.now _)
          · exact evNeg h1 (Ev.now _)
      · -- two parts
        have tp := tn h45
        rw [tp] at sp
        have hS : ∀ z, Ev (fun k => if x.2 = true then (if y.2 = true then spec_l23Read.l0 k s ws (acc ++ [⟨x.1, y.1⟩]) ((i + 1 : Nat) : Int) else some (([] : List Int), false)) else some (([] : List Int), false)) z → Ev (fun k => spec_l23Read.l0 k s ws acc (i : Int)) z := by
          intro z hz
          have e1 : wrap64 ((([a, b] : List ByteArray).length : Int) - 1) = 1 := w64 (by simp) (by simp)
          refine Ev.step (fun k => by rw [spec_l23Read.l0, rdS_get hi]) (evPos (by omega) (evPos (by omega) (Ev.bind sp ?_)))
          rw [e1]
          refine evPos (by simp) (Ev.bind x1 (evPos (by decide) (evPos (by simp) (Ev.bind y1 ?_))))
          by_cases h1 : x.2 = true
          · refine evPos h1 ?_
            by_cases h2 : y.2 = true
            · rw [hw1]
              refine evPos h2 (evNeg (by simp) (evPos (by omega) ?_))
              simpa only [if_pos h1, if_pos h2] using hz
            · refine evNeg h2 ?_
              simpa only [if_pos h1, if_neg h2] using hz
          · refine evNeg h1 ?_
            simpa only [if_neg h1] using hz
        have hI : ∀ z, Ev (fun k => if x.2 = true then (if y.2 = true then impl_readClass.l0 k s (⟨#[32]⟩ : ByteArray) (acc ++ [⟨x.1, y.1⟩]) ws (ws.length : Int) ((i + 1 : Nat) : Int) else some (([] : List Int), false)) else some (([] : List Int), false)) z → Ev (fun k => impl_readClass.l0 k s (⟨#[32]⟩ : ByteArray) acc ws (ws.length : Int) (i : Int)) z := by
          intro z hz
          refine Ev.step (fun k => by rw [impl_readClass.l0, rdS_get hi, hw1]) (evPos (by omega) (evPos (by omega) (evPos (by omega) (Ev.bind c1 (Ev.bind x2 ?_)))))
          by_cases h1 : x.2 = true
          · refine evPos h1 (evPos rfl (Ev.bind y2 ?_))
            by_cases h2 : y.2 = true
            · refine evPos h2 (evPos (by omega) ?_)
              simpa only [if_pos h1, if_pos h2] using hz
            · refine evNeg h2 ?_
              simpa only [if_pos h1, if_neg h2] using hz
          · refine evNeg h1 ?_
            simpa only [if_neg h1] using hz
        by_cases h1 : x.2 = true
        · by_cases h2 : y.2 = true
          · obtain ⟨z, zl, z1, z2⟩ := ih (i + 1) (acc ++ [⟨x.1, y.1⟩]) (by omega) (by rw [List.length_append, List.length_singleton]; omega)
            exact ⟨z, zl, hS z (evPos h1 (evPos h2 z1)), hI z (evPos h1 (evPos h2 z2))⟩
          · exact ⟨([], false), by simp, hS _ (evPos h1 (evNeg h2 (Ev.now _))), hI _ (evPos h1 (evNeg h2 (Ev.now _)))⟩
        · exact ⟨([], false), by simp, hS _ (evNeg h1 (Ev.now _)), hI _ (evNeg h1 (Ev.now _))⟩
end
theorem Read_both (s : ByteArray) (hs : s.size ≤ 1048576) : ∃ z : List Int × Bool, z.1.length ≤ 40 ∧ Ev (fun k => spec_ReadClass.f k s) z ∧ Ev (fun k => impl_ReadClass.f k s) z := by
  by_cases h0 : s.toList = ([] : List UInt8)
  · exact ⟨([], true), by simp, Ev.bind (evPos h0 (Ev.now _)) (Ev.now _), Ev.bind (evPos h0 (Ev.now _)) (Ev.now _)⟩
  · have pl := parts_len s 32
    have ps := parts_size s 32
    have hw : ∀ w ∈ partsM s 32, w.size ≤ 1048576 := fun w h => by have := ps w h; omega
    have s1 : Ev (fun k => spec_l01Split.f k s 32) (partsM s 32) := specSplit_ev s 32 (by omega)
    have i1 := split_ev s 32 (by omega)
    by_cases h40 : ((partsM s 32).length : Int) > 40
    · refine ⟨([], false), by simp, Ev.bind (evNeg h0 (Ev.bind s1 (evPos h40 (Ev.now _)))) (Ev.now _), Ev.bind (a := (([] : List Int), false)) (evNeg h0 (Ev.bind i1 ?_)) (Ev.now _)⟩
      exact read_bad s _ _ (by omega) hw (partsM s 32).length 0 [] (by omega) rfl (.inr (by omega))
    · obtain ⟨z, zl, z1, z2⟩ := read_both s (partsM s 32) (by omega) hw (partsM s 32).length 0 [] (by omega) rfl
      exact ⟨z, zl, Ev.bind (evNeg h0 (Ev.bind s1 (evNeg h40 z1))) (Ev.now _), Ev.bind (evNeg h0 (Ev.bind i1 z2)) (Ev.now _)⟩
-- part: the law
theorem FnExactReadClass : Owed := by
  intro s _
  apply Ev.rounds
  by_cases ha : (s.size : Int) > 1048576
  · exact evPos ha (Ev.now true)
  refine evNeg ha ?_
  obtain ⟨⟨r, c⟩, hl, h1, h2⟩ := Read_both s (by omega)
  simp only at hl
  have er := eqInt64S_ev r (by omega)
  have mr := markInt64S_ev r 1 (by omega) (by omega) (by omega)
  have hr := heldInt64S_ev r.length 1 (by omega) (by omega) (by omega)
  refine Ev.step (fun k => by rw [laws_FnExactReadClass.j0]) ?_
  refine Ev.bind h1 (Ev.bind h2 (Ev.bind er (evPos rfl ?_)))
  refine Ev.step (fun k => by rw [laws_FnExactReadClass.j1]) ?_
  refine evNeg (by simp) ?_
  refine Ev.step (fun k => by rw [laws_FnExactReadClass.j2]) ?_
  refine Ev.bind mr (Ev.bind hr (evNeg (by omega) ?_))
  refine Ev.step (fun k => by rw [laws_FnExactReadClass.j3]) ?_
  refine evPos rfl ?_
  refine Ev.step (fun k => by rw [laws_FnExactReadClass.j4]) ?_
  refine Ev.bind h2 (Ev.bind er (evPos rfl ?_))
  refine Ev.step (fun k => by rw [laws_FnExactReadClass.j5]) ?_
  refine evNeg (by simp) ?_
  refine Ev.step (fun k => by rw [laws_FnExactReadClass.j6]) ?_
  exact Ev.bind hr (evNeg (by omega) (evPos rfl (Ev.now true)))
end Go.Proofs.YtdahcapolipnbaaDoor.Pure
