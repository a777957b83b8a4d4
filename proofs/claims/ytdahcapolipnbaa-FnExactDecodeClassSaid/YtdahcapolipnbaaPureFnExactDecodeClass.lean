/- The plain statement of FnExactDecodeClass: the program and the reference agree on every input that the guards let in. -/
import Derived.Test.YtdahcapolipnbaaArgFnExactDecodeClass
namespace Go.Proofs.Ytdahcapolipnbaa.Pure
open Go.RowKit Go.Proofs.Ytdahcapolipnbaa.QFnExactDecodeClass Go.Proofs.Ytdahcapolipnbaa.ArgFnExactDecodeClass Go.Proofs.YtdahcapolipnbaaW.PrintWords Go.Proofs.YtdahcapolipnbaaW.PrintLast Go.Proofs.YtdahcapolipnbaaW.PrintMore
set_option linter.unusedVariables false
set_option linter.unusedSimpArgs false
-- part: base
theorem w64 {x : Int} (h : -9223372036854775808 ≤ x) (h' : x < 9223372036854775808) : wrap64 x = x := by
  unfold wrap64; omega
theorem evPos {α : Type} {c : Prop} [Decidable c] {g f : Nat → Option α} {r : α} (h : c) (k : Ev g r) : Ev (fun n => if c then g n else f n) r := by
  simpa only [if_pos h] using k
theorem evNeg {α : Type} {c : Prop} [Decidable c] {g f : Nat → Option α} {r : α} (h : ¬ c) (k : Ev f r) : Ev (fun n => if c then g n else f n) r := by
  simpa only [if_neg h] using k
theorem rd_get {xs : List Int} {i : Nat} (h : i < xs.length) : rd xs (i : Int) = xs[i] := by
  simp [rd, h]
/-- The numbers from s on, n of them. -/
def marks (s : Int) : Nat → List Int
  | 0 => []
  | n + 1 => s :: marks (s + 1) n
theorem marks_length (s : Int) (n : Nat) : (marks s n).length = n := by
  induction n generalizing s with
  | zero => rfl
  | succ n ih => simp [marks, ih]
theorem marks_get (s : Int) (n : Nat) : ∀ (i : Nat) (h : i < (marks s n).length), (marks s n)[i] = s + i := by
  induction n generalizing s with
  | zero => intro i h; simp [marks] at h
  | succ n ih =>
    intro i h
    cases i with
    | zero => simp [marks]
    | succ i => simp only [marks, List.getElem_cons_succ]; rw [ih]; push_cast; omega
theorem marks_snoc (s : Int) (n : Nat) : marks s (n + 1) = marks s n ++ [s + n] := by
  induction n generalizing s with
  | zero => simp [marks]
  | succ n ih => rw [marks, ih, marks]; simp; omega
-- part: eqInts
theorem eqInt64S_l0 (xs : List Int) (hn : xs.length ≤ 1099511627776) : ∀ (d i : Nat), i + d = xs.length → Ev (fun k => laws_eqInt64S.l0 k xs xs (i : Int)) true := by
  intro d
  induction d with
  | zero =>
    intro i h
    refine Ev.step (f := fun _ => some true) (fun k => ?_) (Ev.now _)
    simp only [laws_eqInt64S.l0]
    rw [if_neg (by omega)]
  | succ d ih =>
    intro i h
    refine Ev.step (fun k => ?_) (ih (i + 1) (by omega))
    simp only [laws_eqInt64S.l0]
    rw [if_pos (by omega), if_pos (by omega), if_pos (by omega), if_pos trivial, w64 (by omega) (by omega)]
    push_cast
    rfl
theorem eqInt64S_ev (xs : List Int) (hn : xs.length ≤ 1099511627776) : Ev (fun k => laws_eqInt64S.f k xs xs) true := by
  refine Ev.congr (fun k => ?_) (eqInt64S_l0 xs hn xs.length 0 (by omega))
  unfold laws_eqInt64S.f
  rw [if_pos rfl]; rfl
-- part: markInts
theorem markInt64S_l0 (n : Nat) (s : Int) (hs : 0 ≤ s) (hs2 : s ≤ 4611686018427387904) (hn : n ≤ 1099511627776) : ∀ (d i : Nat) (xs : List Int), xs.length = n → i + d = n → xs.take i = marks s i →
    Ev (fun k => laws_markInt64S.l0 k xs (s + i) (i : Int)) (s + n, marks s n) := by
  intro d
  induction d with
  | zero =>
    intro i xs hl h ht
    refine Ev.step (f := fun _ => some (s + n, marks s n)) (fun k => ?_) (Ev.now _)
    simp only [laws_markInt64S.l0]
    rw [if_neg (by omega)]
    obtain rfl : i = n := by omega
    rw [List.take_of_length_le (by omega)] at ht
    rw [ht]
  | succ d ih =>
    intro i xs hl h ht
    have ht' : (xs.set i (s + i)).take (i + 1) = marks s (i + 1) := by
      rw [marks_snoc, ← ht]
      apply List.ext_getElem
      · simp; omega
      · intro j h1 h2
        simp at h1
        simp only [List.getElem_take, List.getElem_set, List.getElem_append, List.length_take]
        by_cases hj : i = j
        · subst hj
          rw [if_pos rfl, dif_neg (by omega)]
          simp [show min i xs.length = i by omega]
        · rw [if_neg hj, dif_pos (by omega)]
    refine Ev.step (fun k => ?_) (ih (i + 1) (xs.set i (s + i)) (by simpa using hl) (by omega) ht')
    simp only [laws_markInt64S.l0]
    rw [if_pos (by omega), if_pos (by omega), w64 (x := s + (i : Int) + 1) (by omega) (by omega), w64 (x := (i : Int) + 1) (by omega) (by omega)]
    simp only [Int.toNat_natCast]
    push_cast
    rw [Int.add_assoc]
theorem markInt64S_ev (xs : List Int) (s : Int) (hs : 0 ≤ s) (hs2 : s ≤ 4611686018427387904) (hn : xs.length ≤ 1099511627776) : Ev (fun k => laws_markInt64S.f k xs s) (s + xs.length, marks s xs.length) := by
  refine Ev.congr (fun k => ?_) (markInt64S_l0 xs.length s hs hs2 hn xs.length 0 xs rfl (by omega) (by simp [marks]))
  unfold laws_markInt64S.f
  simp
-- part: heldInts
theorem heldInt64S_l0 (n : Nat) (s : Int) (hs : 0 ≤ s) (hs2 : s ≤ 4611686018427387904) (hn : n ≤ 1099511627776) : ∀ (d i : Nat), i + d = n → Ev (fun k => laws_heldInt64S.l0 k (marks s n) (s + i) (i : Int)) (s + n) := by
  intro d
  induction d with
  | zero =>
    intro i h
    refine Ev.step (f := fun _ => some (s + n)) (fun k => ?_) (Ev.now _)
    simp only [laws_heldInt64S.l0]
    rw [if_neg (by rw [marks_length]; omega)]
    obtain rfl : i = n := by omega
    rfl
  | succ d ih =>
    intro i h
    refine Ev.step (fun k => ?_) (ih (i + 1) (by omega))
    simp only [laws_heldInt64S.l0]
    rw [if_pos (by rw [marks_length]; omega), if_pos (by omega), rd_get (by rw [marks_length]; omega), marks_get, if_pos rfl, w64 (x := s + (i : Int) + 1) (by omega) (by omega), w64 (x := (i : Int) + 1) (by omega) (by omega)]
    push_cast
    rw [Int.add_assoc]
theorem heldInt64S_ev (n : Nat) (s : Int) (hs : 0 ≤ s) (hs2 : s ≤ 4611686018427387904) (hn : n ≤ 1099511627776) : Ev (fun k => laws_heldInt64S.f k (marks s n) s) (s + n) := by
  refine Ev.congr (fun k => ?_) (heldInt64S_l0 n s hs hs2 hn n 0 (by omega))
  unfold laws_heldInt64S.f
  simp
-- part: vcSpec
/-- What one place of a class obeys. -/
def okAt (xs : List Int) (j : Nat) : Prop := 0 ≤ rd xs j ∧ rd xs j ≤ 39 ∧ (0 < j → rd xs ((j : Int) - 1) < rd xs j)
def VC (xs : List Int) : Prop := ∀ j : Nat, j < xs.length → okAt xs j
theorem l23Ok_l0 (xs : List Int) (hn : xs.length ≤ 1048576) : ∀ (d i : Nat), i + d = xs.length → ∃ b, Ev (fun k => spec_l23Ok.l0 k xs (i : Int)) b ∧ (b = true ↔ ∀ j : Nat, i ≤ j → j < xs.length → okAt xs j) := by
  intro d
  induction d with
  | zero =>
    intro i h
    refine ⟨true, Ev.step (f := fun _ => some true) (fun k => ?_) (Ev.now _), by simp; omega⟩
    simp only [spec_l23Ok.l0]
    rw [if_neg (by omega)]
  | succ d ih =>
    intro i h
    by_cases hok : okAt xs i
    · obtain ⟨b, hb, hbi⟩ := ih (i + 1) (by omega)
      refine ⟨b, Ev.step (fun k => ?_) hb, ?_⟩
      · obtain ⟨o1, o2, o3⟩ := hok
        simp only [spec_l23Ok.l0, spec_l00In.f]
        rw [if_pos (by omega), if_pos (by omega), if_pos o1, decide_eq_true o2]
        simp only [Option.bind_some, if_true]
        rw [w64 (x := (i : Int) + 1) (by omega) (by omega), w64 (x := (i : Int) - 1) (by omega) (by omega)]
        push_cast
        by_cases hi : (i : Int) > 0
        · have := o3 (by omega)
          rw [if_pos hi, if_pos (by omega), if_pos (by omega), if_neg (by omega)]
        · rw [if_neg hi]
      · rw [hbi]
        constructor
        · intro H j h1 h2
          by_cases hj : j = i
          · subst hj; exact hok
          · exact H j (by omega) h2
        · intro H j h1 h2
          exact H j (by omega) h2
    · refine ⟨false, Ev.step (f := fun _ => some false) (fun k => ?_) (Ev.now _), ?_⟩
      · simp only [spec_l23Ok.l0, spec_l00In.f]
        rw [if_pos (by omega), if_pos (by omega)]
        by_cases o1 : rd xs i ≥ 0
        · rw [if_pos o1]
          by_cases o2 : rd xs i ≤ 39
          · rw [decide_eq_true o2]
            simp only [Option.bind_some, if_true]
            rw [w64 (x := (i : Int) - 1) (by omega) (by omega)]
            by_cases hi : (i : Int) > 0
            · rw [if_pos hi, if_pos (by omega), if_pos (by omega), if_pos]
              refine Int.not_lt.1 fun h3 => hok ⟨o1, o2, fun _ => h3⟩
            · exact absurd ⟨o1, o2, fun h => by omega⟩ hok
          · rw [decide_eq_false o2]; simp
        · rw [if_neg o1]; simp
      · simp only [Bool.false_eq_true, false_iff]
        exact fun H => hok (H i (by omega) (by omega))
theorem l23Ok_ev (xs : List Int) (hn : xs.length ≤ 1048576) : ∃ b, Ev (fun k => spec_l23Ok.f k xs) b ∧ (b = true ↔ VC xs) := by
  obtain ⟨b, hb, h⟩ := l23Ok_l0 xs hn xs.length 0 (by omega)
  refine ⟨b, hb, ?_⟩
  rw [h]
  unfold VC
  simp
-- part: sorted
theorem eq_of_strict : ∀ {xs ys : List Int}, xs.Pairwise (· < ·) → ys.Pairwise (· < ·) → (∀ x, x ∈ xs ↔ x ∈ ys) → xs = ys
  | [], [], _, _, _ => rfl
  | [], y :: ys, _, _, h => absurd ((h y).2 (List.mem_cons_self ..)) (by simp)
  | x :: xs, [], _, _, h => absurd ((h x).1 (List.mem_cons_self ..)) (by simp)
  | x :: xs, y :: ys, hx, hy, h => by
    have hx' := List.pairwise_cons.1 hx
    have hy' := List.pairwise_cons.1 hy
    have e : x = y := by
      rcases List.mem_cons.1 ((h x).1 (List.mem_cons_self ..)) with e | e
      · exact e
      · rcases List.mem_cons.1 ((h y).2 (List.mem_cons_self ..)) with e' | e'
        · exact e'.symm
        · have h1 := hx'.1 y e'
          have h2 := hy'.1 x e
          omega
    subst e
    refine congrArg (x :: ·) (eq_of_strict hx'.2 hy'.2 fun z => ⟨fun hz => ?_, fun hz => ?_⟩)
    · rcases List.mem_cons.1 ((h z).1 (List.mem_cons_of_mem _ hz)) with e | e
      · have := hx'.1 z hz; omega
      · exact e
    · rcases List.mem_cons.1 ((h z).2 (List.mem_cons_of_mem _ hz)) with e | e
      · have := hy'.1 z hz; omega
      · exact e
theorem VC.strict {xs : List Int} (h : VC xs) : xs.Pairwise (· < ·) := by
  rw [List.pairwise_iff_getElem]
  have key : ∀ (d i : Nat) (hi : i + d + 1 < xs.length), xs[i] < xs[i + d + 1] := by
    intro d
    induction d with
    | zero =>
      intro i hi
      have := (h (i + 1) hi).2.2 (by omega)
      rw [rd_get hi, show (((i + 1 : Nat) : Int) - 1) = (i : Int) by omega, rd_get (by omega)] at this
      exact this
    | succ d ih =>
      intro i hi
      have h1 := ih i (by omega)
      have := (h (i + (d + 1) + 1) hi).2.2 (by omega)
      rw [rd_get hi, show (((i + (d + 1) + 1 : Nat) : Int) - 1) = ((i + d + 1 : Nat) : Int) by omega, rd_get (by omega)] at this
      exact Int.lt_trans h1 this
  intro i j hi hj hij
  obtain ⟨d, rfl⟩ : ∃ d, j = i + d + 1 := ⟨j - i - 1, by omega⟩
  exact key d i hj
theorem VC.range {xs : List Int} (h : VC xs) {x : Int} (hx : x ∈ xs) : 0 ≤ x ∧ x ≤ 39 := by
  obtain ⟨i, hi, rfl⟩ := List.getElem_of_mem hx
  have := h i hi
  rw [okAt, rd_get hi] at this
  exact ⟨this.1, this.2.1⟩
theorem marks_mem (s : Int) (n : Nat) (x : Int) : x ∈ marks s n ↔ s ≤ x ∧ x < s + n := by
  induction n generalizing s with
  | zero => simp [marks]
  | succ n ih => simp only [marks, List.mem_cons, ih]; push_cast; omega
theorem marks_strict (s : Int) (n : Nat) : (marks s n).Pairwise (· < ·) := by
  induction n generalizing s with
  | zero => simp [marks]
  | succ n ih =>
    rw [marks, List.pairwise_cons]
    exact ⟨fun x hx => by have := (marks_mem _ _ _).1 hx; omega, ih _⟩
-- part: rangeRd
theorem rdR_get {xs : List S92} {i : Nat} (h : i < xs.length) : rd_T92 xs (i : Int) = xs[i] := by
  simp [rd_T92, h]
-- part: ranges
/-- One glyph more. -/
def joinR (out : List S92) (g : Int) : List S92 :=
  if 0 < out.length ∧ (rd_T92 out ((out.length : Int) - 1)).f1 = g - 1 then out.set (out.length - 1) ⟨(rd_T92 out ((out.length : Int) - 1)).f0, g⟩ else out ++ [⟨g, g⟩]
def rangesM (xs : List Int) : List S92 := xs.foldl joinR []
theorem joinR_length (out : List S92) (g : Int) : 0 < (joinR out g).length ∧ (joinR out g).length ≤ out.length + 1 := by
  unfold joinR
  split
  · rename_i h; simp; omega
  · simp
theorem joinR_last (out : List S92) (g : Int) : (rd_T92 (joinR out g) (((joinR out g).length : Int) - 1)).f1 = g := by
  obtain ⟨n, hn⟩ : ∃ n, (joinR out g).length = n + 1 := ⟨(joinR out g).length - 1, by have := joinR_length out g; omega⟩
  rw [hn, show (((n + 1 : Nat) : Int) - 1) = (n : Int) by omega, rdR_get (by omega)]
  unfold joinR at hn ⊢
  by_cases h : 0 < out.length ∧ (rd_T92 out ((out.length : Int) - 1)).f1 = g - 1
  · simp only [if_pos h, List.length_set] at hn ⊢
    simp [List.getElem_set, show out.length - 1 = n by omega]
  · simp only [if_neg h, List.length_append, List.length_singleton] at hn ⊢
    simp [List.getElem_append, show n = out.length by omega]
theorem implRanges_l0 (xs : List Int) (hn : xs.length ≤ 1048576) (hx : ∀ x ∈ xs, 0 ≤ x ∧ x ≤ 65535) : ∀ (d i : Nat) (out : List S92), i + d = xs.length → out.length ≤ i →
    Ev (fun k => impl_rangesOf.l0 k out xs (xs.length : Int) (i : Int)) ((xs.drop i).foldl joinR out) := by
  intro d
  induction d with
  | zero =>
    intro i out h ho
    refine Ev.step (f := fun _ => some _) (fun k => ?_) (Ev.now _)
    simp only [impl_rangesOf.l0]
    rw [if_neg (by omega), List.drop_of_length_le (by omega)]
    rfl
  | succ d ih =>
    intro i out h ho
    have hi : i < xs.length := by omega
    have hb := hx xs[i] (List.getElem_mem hi)
    rw [List.drop_eq_getElem_cons hi, List.foldl_cons]
    have hl := joinR_length out xs[i]
    refine Ev.step (fun k => ?_) (ih (i + 1) (joinR out xs[i]) (by omega) (by omega))
    simp only [impl_rangesOf.l0]
    rw [if_pos (by omega), if_pos (by omega), if_pos (by omega), rd_get hi, w64 (x := (i : Int) + 1) (by omega) (by omega), if_pos (by omega : out.length < 8796093022208), w64 (x := xs[i] - 1) (by omega) (by omega), w64 (x := (out.length : Int) - 1) (by omega) (by omega)]
    unfold joinR
    by_cases h1 : 0 < out.length
    · rw [if_pos (by omega), if_pos (by omega), if_pos (by omega)]
      by_cases h2 : (rd_T92 out ((out.length : Int) - 1)).f1 = xs[i] - 1
      · rw [if_pos h2, if_pos ⟨h1, h2⟩, show ((out.length : Int) - 1).toNat = out.length - 1 by omega]
        push_cast; rfl
      · rw [if_neg h2, if_neg (fun h => h2 h.2)]
        push_cast; rfl
    · rw [if_neg (by omega), if_neg (fun h => h1 h.1)]
      push_cast; rfl
theorem implRanges_ev (xs : List Int) (hn : xs.length ≤ 1048576) (hx : ∀ x ∈ xs, 0 ≤ x ∧ x ≤ 65535) : Ev (fun k => impl_rangesOf.f k xs) (rangesM xs) :=
  implRanges_l0 xs hn hx xs.length 0 [] (by omega) (by simp)
theorem specRanges_l0 (xs : List Int) (hn : xs.length ≤ 1048576) (hx : ∀ x ∈ xs, 0 ≤ x ∧ x ≤ 65535) : ∀ (d i : Nat) (out : List S92), i + d = xs.length → out.length ≤ i → (i = 0 → out = []) → (∀ j : Nat, i = j + 1 → 0 < out.length ∧ (rd_T92 out ((out.length : Int) - 1)).f1 = rd xs j) →
    Ev (fun k => spec_l23Ranges.l0 k xs out (i : Int)) ((xs.drop i).foldl joinR out) := by
  intro d
  induction d with
  | zero =>
    intro i out h ho h0 hj
    refine Ev.step (f := fun _ => some _) (fun k => ?_) (Ev.now _)
    simp only [spec_l23Ranges.l0]
    rw [if_neg (by omega), List.drop_of_length_le (by omega)]
    rfl
  | succ d ih =>
    intro i out h ho h0 hj
    have hi : i < xs.length := by omega
    have hb := hx xs[i] (List.getElem_mem hi)
    rw [List.drop_eq_getElem_cons hi, List.foldl_cons]
    have hl := joinR_length out xs[i]
    refine Ev.step (fun k => ?_) (ih (i + 1) (joinR out xs[i]) (by omega) (by omega) (by omega) (fun j e => ⟨hl.1, by rw [joinR_last, show j = i by omega, rd_get hi]⟩))
    simp only [spec_l23Ranges.l0]
    rw [if_pos (show (i : Int) < (xs.length : Int) by omega), rd_get hi, w64 (x := (i : Int) + 1) (by omega) (by omega), if_pos (by omega : out.length < 8796093022208)]
    unfold joinR
    cases i with
    | zero =>
      have e := h0 rfl
      subst e
      rw [if_neg (show ¬ (((0 : Nat) : Int) > 0) by omega), if_pos (show (0 : Int) ≤ ((0 : Nat) : Int) by omega), if_neg (by simp)]
      rfl
    | succ j =>
      obtain ⟨h1, h2⟩ := hj j rfl
      have hb' := hx xs[j] (List.getElem_mem (by omega))
      rw [if_pos (show ((j + 1 : Nat) : Int) > 0 by omega), if_pos (show (0 : Int) ≤ ((j + 1 : Nat) : Int) by omega), w64 (x := ((j + 1 : Nat) : Int) - 1) (by omega) (by omega), w64 (x := (out.length : Int) - 1) (by omega) (by omega), if_pos (by omega), if_pos (by omega), show (((j + 1 : Nat) : Int) - 1) = (j : Int) by omega, h2, rd_get (by omega), w64 (x := xs[j] + 1) (by omega) (by omega)]
      by_cases h3 : xs[j + 1] = xs[j] + 1
      · rw [if_pos h3, if_pos (show (0 : Int) ≤ (out.length : Int) - 1 by omega), if_pos (show (out.length : Int) - 1 < (out.length : Int) by omega), if_pos ⟨h1, by omega⟩, show ((out.length : Int) - 1).toNat = out.length - 1 by omega]
        push_cast; rfl
      · rw [if_neg h3, if_neg (fun h => h3 (by omega))]
        push_cast; rfl
theorem specRanges_ev (xs : List Int) (hn : xs.length ≤ 1048576) (hx : ∀ x ∈ xs, 0 ≤ x ∧ x ≤ 65535) : Ev (fun k => spec_l23Ranges.f k xs) (rangesM xs) :=
  specRanges_l0 xs hn hx xs.length 0 [] (by omega) (by simp) (by simp) (by simp)
theorem rangesM_length (xs : List Int) : (rangesM xs).length ≤ xs.length := by
  have key : ∀ (xs : List Int) (out : List S92), (xs.foldl joinR out).length ≤ out.length + xs.length := by
    intro xs
    induction xs with
    | nil => intro out; simp
    | cons x xs ih =>
      intro out
      have := ih (joinR out x)
      have := joinR_length out x
      simp only [List.foldl_cons, List.length_cons]
      omega
  simpa [rangesM] using key xs []
-- part: rangesOk
def okR (r : S92) : Prop := (0 ≤ r.f0 ∧ r.f0 ≤ 65535) ∧ 0 ≤ r.f1 ∧ r.f1 ≤ 65535
theorem joinR_ok (out : List S92) (g : Int) (ho : ∀ r ∈ out, okR r) (hg : 0 ≤ g ∧ g ≤ 65535) : ∀ r ∈ joinR out g, okR r := by
  intro r hr
  unfold joinR at hr
  split at hr
  · rename_i h
    rcases List.mem_or_eq_of_mem_set hr with h1 | h1
    · exact ho r h1
    · subst h1
      refine ⟨?_, hg⟩
      have hi : out.length - 1 < out.length := by omega
      have : rd_T92 out ((out.length : Int) - 1) = out[out.length - 1] := by
        rw [show ((out.length : Int) - 1) = ((out.length - 1 : Nat) : Int) by omega, rdR_get hi]
      simp only [this]
      exact (ho _ (List.getElem_mem hi)).1
  · rcases List.mem_append.1 hr with h1 | h1
    · exact ho r h1
    · rw [List.mem_singleton.1 h1]
      exact ⟨hg, hg⟩
theorem rangesM_ok (xs : List Int) (hx : ∀ x ∈ xs, 0 ≤ x ∧ x ≤ 65535) : ∀ r ∈ rangesM xs, okR r := by
  have key : ∀ (xs : List Int) (out : List S92), (∀ x ∈ xs, 0 ≤ x ∧ x ≤ 65535) → (∀ r ∈ out, okR r) → ∀ r ∈ xs.foldl joinR out, okR r := by
    intro xs
    induction xs with
    | nil => intro out _ ho; exact ho
    | cons x xs ih =>
      intro out hx ho
      rw [List.foldl_cons]
      exact ih _ (fun y hy => hx y (List.mem_cons_of_mem _ hy)) (joinR_ok out x ho (hx x List.mem_cons_self))
  exact key xs [] hx (by simp)
-- part: bytes
theorem bx_ext {a b : ByteArray} (h : a.data.toList = b.data.toList) : a = b := by
  cases a; cases b; simp only at h; congr 1; exact Array.toList_inj.1 h
theorem bx_app (a b : ByteArray) : (a ++ b).data.toList = a.data.toList ++ b.data.toList := by
  rw [ByteArray.data_append]; simp
theorem bx_assoc (a b c : ByteArray) : (a ++ b) ++ c = a ++ (b ++ c) := by
  apply bx_ext; simp only [bx_app, List.append_assoc]
theorem bx_size (a b : ByteArray) : (a ++ b).size = a.size + b.size := ByteArray.size_append
theorem bx_nil (a : ByteArray) : (⟨#[]⟩ : ByteArray) ++ a = a := by apply bx_ext; rw [bx_app]; rfl
theorem bx_nil' (a : ByteArray) : a ++ (⟨#[]⟩ : ByteArray) = a := by apply bx_ext; rw [bx_app]; simp
theorem son_app (xs ys : List Int) : strOfNums (xs ++ ys) = strOfNums xs ++ strOfNums ys := by
  apply bx_ext; rw [bx_app]; simp only [strOfNums_data, List.map_append]
theorem son_cons (x : Int) (xs : List Int) : strOfNums (x :: xs) = strOfNums [x] ++ strOfNums xs := son_app [x] xs
-- part: encode
theorem and255 (n : Int) : Go.bits .and .i64 n 255 = n % 256 := by
  have h : (BitVec.ofInt 64 255).toNat = 2 ^ 8 - 1 := by decide
  have key : (BitVec.ofInt 64 n &&& BitVec.ofInt 64 255).toNat = (n % ((2 ^ 64 : Nat) : Int)).toNat % 2 ^ 8 := by
    rw [BitVec.toNat_and, BitVec.toNat_ofInt, h, Nat.and_two_pow_sub_one_eq_mod]
  show IntKind.i64.wrap ((BitVec.ofInt 64 n &&& BitVec.ofInt 64 255).toNat : Nat) = n % 256
  rw [key, IntKind.wrap_i64]
  omega
/-- A number as two bytes. -/
def wd2 (n : Int) : List Int := [n / 256, n % 256]
def wdsB (xs : List Int) : ByteArray := strOfNums (xs.flatMap wd2)
theorem wdsB_app (xs ys : List Int) : wdsB (xs ++ ys) = wdsB xs ++ wdsB ys := by
  unfold wdsB
  rw [List.flatMap_append, son_app]
theorem wdsB_nil : wdsB [] = (⟨#[]⟩ : ByteArray) := rfl
theorem wdsB_size (xs : List Int) : (wdsB xs).size = 2 * xs.length := by
  unfold wdsB
  rw [strOfNums_size]
  induction xs with
  | nil => rfl
  | cons x xs ih => rw [List.flatMap_cons, List.length_append, ih]; simp [wd2]; omega
theorem specWord (n : Int) (h0 : 0 ≤ n) (h1 : n ≤ 65535) : Ev (fun k => spec_l01Word.f k n 2) (strOfNums (wd2 n)) := by
  have e1 := and255 n
  have e2 := and255 (n / 256)
  have f1 : wrap64 (2 - 1) = 1 := w64 (by decide) (by decide)
  have f0 : wrap64 (1 - 1) = 0 := w64 (by decide) (by decide)
  have fm : wrap64 (0 - 1) = -1 := w64 (by decide) (by decide)
  refine Ev.congr (f := fun k => spec_l01Word.l0 k n [0, 0] 1) (fun k => ?_) ?_
  · unfold spec_l01Word.f
    rw [f1]
    rfl
  refine Ev.step (f := fun k => spec_l01Word.l0 k (n / 256) [0, n % 256] 0) (fun k => ?_) ?_
  · simp only [spec_l01Word.l0]
    rw [e1, show n % 256 % 256 = n % 256 by omega, f0]
    rfl
  refine Ev.step (f := fun k => spec_l01Word.l0 k (n / 256 / 256) [n / 256, n % 256] (-1)) (fun k => ?_) ?_
  · simp only [spec_l01Word.l0]
    rw [e2, show n / 256 % 256 % 256 = n / 256 by omega, fm]
    rfl
  refine Ev.step (f := fun _ => some (strOfNums (wd2 n))) (fun k => ?_) (Ev.now _)
  simp only [spec_l01Word.l0]
  rfl
theorem implWord (n : Int) (h0 : 0 ≤ n) (h1 : n ≤ 65535) : Ev (fun k => impl_PutWord.f k n 2) (strOfNums (wd2 n)) := by
  have f1 : wrap64 (2 - 1) = 1 := w64 (by decide) (by decide)
  have f0 : wrap64 (1 - 1) = 0 := w64 (by decide) (by decide)
  have fm : wrap64 (0 - 1) = -1 := w64 (by decide) (by decide)
  have f16 : wrap64 (8 * 2) = 16 := w64 (by decide) (by decide)
  have fs : shl .i64 1 16 = 65536 := by decide
  have fn : wrap64 (-65536) = -65536 := w64 (by decide) (by decide)
  have fd : wrap64 (Int.tdiv (-65536) 2) = -32768 := w64 (by decide) (by decide)
  refine Ev.step (f := fun k => impl_PutWord.j1 k n 2 false) (fun k => ?_) ?_
  · show (if (2 : Int) < 1 then impl_PutWord.j0 (k + 1) n 2 true else impl_PutWord.j0 (k + 1) n 2 (decide ((2 : Int) > 4))) = _
    rw [if_neg (by decide)]
    simp only [impl_PutWord.j0]
    rw [f16, fs, fn, fd, if_neg (by decide), if_pos (by decide), if_neg (by omega), decide_eq_false (by omega)]
  refine Ev.step (f := fun k => impl_PutWord.l0 k [0, 0] n 1) (fun k => ?_) ?_
  · simp only [impl_PutWord.j1]
    rw [if_neg (by decide), show IntKind.u64.wrap n = n by rw [IntKind.wrap_u64]; omega, f1]
    rfl
  refine Ev.step (f := fun k => impl_PutWord.l0 k [0, n % 256] (n / 256) 0) (fun k => ?_) ?_
  · simp only [impl_PutWord.l0]
    rw [f0]
    rfl
  refine Ev.step (f := fun k => impl_PutWord.l0 k [n / 256, n % 256] (n / 256 / 256) (-1)) (fun k => ?_) ?_
  · simp only [impl_PutWord.l0]
    rw [show n / 256 % 256 = n / 256 by omega, fm]
    rfl
  refine Ev.step (f := fun _ => some (strOfNums (wd2 n))) (fun k => ?_) (Ev.now _)
  simp only [impl_PutWord.l0]
  rfl
theorem specWords_l0 (xs : List Int) (hn : xs.length ≤ 1048576) (hx : ∀ x ∈ xs, 0 ≤ x ∧ x ≤ 65535) : ∀ (d i : Nat), i + d = xs.length → Ev (fun k => spec_l23Words.l0 k xs (wdsB (xs.take i)) (i : Int)) (wdsB xs) := by
  intro d
  induction d with
  | zero =>
    intro i h
    rw [show xs.take i = xs from List.take_of_length_le (by omega)]
    refine Ev.step (fun k => by rw [spec_l23Words.l0]) ?_
    exact evNeg (by omega) (Ev.now _)
  | succ d ih =>
    intro i h
    have hi : i < xs.length := by omega
    have hx' := hx _ (List.getElem_mem hi)
    have e1 : (wdsB (xs.take i)).size ≤ 2097152 := by rw [wdsB_size, List.length_take]; omega
    have e2 : (strOfNums (wd2 xs[i])).size = 2 := by rw [strOfNums_size]; rfl
    have e3 : wdsB (xs.take i) ++ strOfNums (wd2 xs[i]) = wdsB (xs.take (i + 1)) := by
      rw [List.take_succ_eq_append_getElem hi, wdsB_app]
      congr 1
    refine Ev.step (fun k => by rw [spec_l23Words.l0]) ?_
    refine evPos (by omega) (evPos (by omega) (Ev.bind (a := strOfNums (wd2 xs[i])) ?_ (evPos (by omega) ?_)))
    · rw [rd_get hi]
      exact specWord _ hx'.1 hx'.2
    · rw [e3, w64 (by omega) (by omega)]
      have := ih (i + 1) (by omega)
      push_cast at this
      exact this
theorem specWords_ev (xs : List Int) (hn : xs.length ≤ 1048576) (hx : ∀ x ∈ xs, 0 ≤ x ∧ x ≤ 65535) : Ev (fun k => spec_l23Words.f k xs) (wdsB xs) :=
  specWords_l0 xs hn hx xs.length 0 (by omega)
theorem implWords_l0 (xs : List Int) (hn : xs.length ≤ 1048576) (hx : ∀ x ∈ xs, 0 ≤ x ∧ x ≤ 65535) : ∀ (d i : Nat), i + d = xs.length → Ev (fun k => impl_putWords.l0 k xs (wdsB (xs.take i)) (i : Int)) (wdsB xs) := by
  intro d
  induction d with
  | zero =>
    intro i h
    rw [show xs.take i = xs from List.take_of_length_le (by omega)]
    refine Ev.step (fun k => by rw [impl_putWords.l0]) ?_
    exact evNeg (by omega) (Ev.now _)
  | succ d ih =>
    intro i h
    have hi : i < xs.length := by omega
    have hx' := hx _ (List.getElem_mem hi)
    have e1 : (wdsB (xs.take i)).size ≤ 2097152 := by rw [wdsB_size, List.length_take]; omega
    have e2 : (strOfNums (wd2 xs[i])).size = 2 := by rw [strOfNums_size]; rfl
    have e3 : wdsB (xs.take i) ++ strOfNums (wd2 xs[i]) = wdsB (xs.take (i + 1)) := by
      rw [List.take_succ_eq_append_getElem hi, wdsB_app]
      congr 1
    refine Ev.step (fun k => by rw [impl_putWords.l0]) ?_
    refine evPos (by omega) (evPos (by omega) (Ev.bind (a := strOfNums (wd2 xs[i])) ?_ (evPos (by omega) ?_)))
    · rw [rd_get hi]
      exact implWord _ hx'.1 hx'.2
    · rw [e3, w64 (by omega) (by omega)]
      have := ih (i + 1) (by omega)
      push_cast at this
      exact this
theorem implWords_ev (xs : List Int) (hn : xs.length ≤ 1048576) (hx : ∀ x ∈ xs, 0 ≤ x ∧ x ≤ 65535) : Ev (fun k => impl_putWords.f k xs) (wdsB xs) :=
  implWords_l0 xs hn hx xs.length 0 (by omega)
/-- The words of some ranges, and how many glyphs they span. -/
def rgW : List S92 → Int → List Int
  | [], _ => []
  | r :: rs, at_ => r.f0 :: r.f1 :: at_ :: rgW rs (at_ + (r.f1 - r.f0 + 1))
def lenR : List S92 → Int
  | [] => 0
  | r :: rs => (r.f1 - r.f0 + 1) + lenR rs
theorem lenR_app (a b : List S92) : lenR (a ++ b) = lenR a + lenR b := by
  induction a with
  | nil => simp [lenR]
  | cons x a ih => simp only [List.cons_append, lenR, ih]; omega
def upR (r : S92) : Prop := okR r ∧ r.f0 ≤ r.f1
theorem lenR_nonneg : ∀ rs : List S92, (∀ r ∈ rs, upR r) → 0 ≤ lenR rs
  | [], _ => Int.le_refl _
  | r :: rs, h => by
    have h1 := (h r List.mem_cons_self).2
    have h2 := lenR_nonneg rs fun x hx => h x (List.mem_cons_of_mem _ hx)
    simp only [lenR]
    omega
theorem joinR_span (out : List S92) (g : Int) (ho : ∀ r ∈ out, upR r) (hg : 0 ≤ g ∧ g ≤ 65535) : lenR (joinR out g) = lenR out + 1 ∧ ∀ r ∈ joinR out g, upR r := by
  rcases List.eq_nil_or_concat out with rfl | ⟨init, l, rfl⟩
  · refine ⟨by simp [joinR, lenR], ?_⟩
    intro r hr
    simp [joinR] at hr
    subst hr
    exact ⟨⟨hg, hg⟩, Int.le_refl _⟩
  · simp only [List.concat_eq_append] at ho ⊢
    have e : rd_T92 (init ++ [l]) (((init ++ [l]).length : Int) - 1) = l := by
      rw [show (((init ++ [l]).length : Int) - 1) = ((init.length : Nat) : Int) by simp, rdR_get (by simp)]
      simp
    have hl := ho l (by simp)
    unfold joinR
    rw [e]
    by_cases h : 0 < (init ++ [l]).length ∧ l.f1 = g - 1
    · rw [if_pos h]
      have e2 : (init ++ [l]).set ((init ++ [l]).length - 1) (⟨l.f0, g⟩ : S92) = init ++ [⟨l.f0, g⟩] := by simp
      rw [e2]
      refine ⟨by simp only [lenR_app, lenR]; omega, ?_⟩
      intro r hr
      rcases List.mem_append.1 hr with h1 | h1
      · exact ho r (by simp [h1])
      · rw [List.mem_singleton.1 h1]
        exact ⟨⟨hl.1.1, hg⟩, by have := hl.2; show l.f0 ≤ g; omega⟩
    · rw [if_neg h]
      refine ⟨by simp only [lenR_app, lenR]; omega, ?_⟩
      intro r hr
      rcases List.mem_append.1 hr with h1 | h1
      · exact ho r h1
      · rw [List.mem_singleton.1 h1]
        exact ⟨⟨hg, hg⟩, Int.le_refl _⟩
theorem rangesM_span (xs : List Int) (hx : ∀ x ∈ xs, 0 ≤ x ∧ x ≤ 65535) : lenR (rangesM xs) = xs.length ∧ ∀ r ∈ rangesM xs, upR r := by
  have key : ∀ (xs : List Int) (out : List S92), (∀ x ∈ xs, 0 ≤ x ∧ x ≤ 65535) → (∀ r ∈ out, upR r) → lenR (xs.foldl joinR out) = lenR out + xs.length ∧ ∀ r ∈ xs.foldl joinR out, upR r := by
    intro xs
    induction xs with
    | nil => intro out _ ho; exact ⟨by simp, ho⟩
    | cons x xs ih =>
      intro out hx ho
      rw [List.foldl_cons]
      have h1 := joinR_span out x ho (hx x List.mem_cons_self)
      have h2 := ih _ (fun y hy => hx y (List.mem_cons_of_mem _ hy)) h1.2
      refine ⟨?_, h2.2⟩
      rw [h2.1, h1.1, List.length_cons]
      push_cast
      omega
  have := key xs [] hx (by simp)
  exact ⟨by have h := this.1; simp only [lenR, Int.zero_add] at h; exact h, this.2⟩
theorem specEnc_l0 (rs : List S92) (hn : rs.length ≤ 1048576) (hr : ∀ r ∈ rs, upR r) : ∀ (d i : Nat) (out : ByteArray) (at_ : Int), i + d = rs.length → out.size ≤ 4 + 6 * i → 0 ≤ at_ → at_ + lenR (rs.drop i) ≤ 65535 →
    Ev (fun k => spec_l23Encode.l0 k rs out at_ (i : Int)) (out ++ wdsB (rgW (rs.drop i) at_)) := by
  intro d
  induction d with
  | zero =>
    intro i out at_ h _ _ _
    rw [List.drop_of_length_le (by omega)]
    refine Ev.step (fun k => by rw [spec_l23Encode.l0]) ?_
    refine evNeg (by omega) ?_
    rw [rgW, wdsB_nil, bx_nil']
    exact Ev.now _
  | succ d ih =>
    intro i out at_ h hs h0 h1
    have hi : i < rs.length := by omega
    have hd := List.drop_eq_getElem_cons hi
    have hm := hr _ (List.getElem_mem hi)
    obtain ⟨⟨⟨a0, a1⟩, a2, a3⟩, a4⟩ := hm
    have hsp := lenR_nonneg (rs.drop (i + 1)) fun r hx => hr r (List.mem_of_mem_drop hx)
    rw [hd] at h1 ⊢
    simp only [lenR] at h1
    have e1 : (wdsB [rs[i].f0, rs[i].f1, at_]).size = 6 := by rw [wdsB_size]; rfl
    refine Ev.step (fun k => by rw [spec_l23Encode.l0]) ?_
    refine evPos (by omega) (evPos (by omega) (Ev.bind (a := wdsB [rs[i].f0, rs[i].f1, at_]) ?_ (evPos (by omega) ?_)))
    · rw [rdR_get hi]
      refine specWords_ev _ (by simp) fun x hx => ?_
      simp only [List.mem_cons, List.not_mem_nil, or_false] at hx
      rcases hx with rfl | rfl | rfl <;> omega
    · rw [rdR_get hi, w64 (x := rs[i].f1 - rs[i].f0) (by omega) (by omega), w64 (x := rs[i].f1 - rs[i].f0 + 1) (by omega) (by omega), w64 (x := at_ + (rs[i].f1 - rs[i].f0 + 1)) (by omega) (by omega), w64 (x := (i : Int) + 1) (by omega) (by omega)]
      have := ih (i + 1) (out ++ wdsB [rs[i].f0, rs[i].f1, at_]) (at_ + (rs[i].f1 - rs[i].f0 + 1)) (by omega) (by rw [bx_size, e1]; omega) (by omega) (by omega)
      rw [bx_assoc, ← wdsB_app] at this
      push_cast at this
      exact this
theorem implEnc_l0 (one : ByteArray) (rs : List S92) (hn : rs.length ≤ 1048576) (hr : ∀ r ∈ rs, upR r) : ∀ (d i : Nat) (out : ByteArray) (at_ : Int), i + d = rs.length → out.size = 4 + 6 * i → 0 ≤ at_ → at_ + lenR (rs.drop i) ≤ 65535 →
    Ev (fun k => impl_encodeClass.l0 k one out at_ rs (rs.length : Int) (i : Int)) (if 4 + 6 * rs.length < one.size then out ++ wdsB (rgW (rs.drop i) at_) else one) := by
  intro d
  induction d with
  | zero =>
    intro i out at_ h hs _ _
    rw [List.drop_of_length_le (by omega)]
    refine Ev.step (fun k => by rw [impl_encodeClass.l0]) ?_
    refine evNeg (by omega) ?_
    rw [rgW, wdsB_nil, bx_nil']
    by_cases hc : 4 + 6 * rs.length < one.size
    · rw [if_pos hc]
      exact evPos (by omega) (Ev.now _)
    · rw [if_neg hc]
      exact evNeg (by omega) (Ev.now _)
  | succ d ih =>
    intro i out at_ h hs h0 h1
    have hi : i < rs.length := by omega
    have hd := List.drop_eq_getElem_cons hi
    have hm := hr _ (List.getElem_mem hi)
    obtain ⟨⟨⟨a0, a1⟩, a2, a3⟩, a4⟩ := hm
    have hsp := lenR_nonneg (rs.drop (i + 1)) fun r hx => hr r (List.mem_of_mem_drop hx)
    rw [hd] at h1 ⊢
    simp only [lenR] at h1
    have e1 : (wdsB [rs[i].f0, rs[i].f1, at_]).size = 6 := by rw [wdsB_size]; rfl
    refine Ev.step (fun k => by rw [impl_encodeClass.l0]) ?_
    refine evPos (by omega) (evPos (by omega) (evPos (by omega) (Ev.bind (a := wdsB [rs[i].f0, rs[i].f1, at_]) ?_ (evPos (by omega) ?_))))
    · rw [rdR_get hi]
      refine implWords_ev _ (by simp) fun x hx => ?_
      simp only [List.mem_cons, List.not_mem_nil, or_false] at hx
      rcases hx with rfl | rfl | rfl <;> omega
    · rw [rdR_get hi, w64 (x := rs[i].f1 - rs[i].f0) (by omega) (by omega), w64 (x := rs[i].f1 - rs[i].f0 + 1) (by omega) (by omega), w64 (x := at_ + (rs[i].f1 - rs[i].f0 + 1)) (by omega) (by omega), w64 (x := (i : Int) + 1) (by omega) (by omega)]
      have := ih (i + 1) (out ++ wdsB [rs[i].f0, rs[i].f1, at_]) (at_ + (rs[i].f1 - rs[i].f0 + 1)) (by omega) (by rw [bx_size, e1]; omega) (by omega) (by omega)
      rw [bx_assoc, ← wdsB_app] at this
      push_cast at this
      exact this
/-- The binary form of a class. -/
def encM (xs : List Int) : ByteArray :=
  if 3 * (rangesM xs).length < xs.length then wdsB [2, ((rangesM xs).length : Int)] ++ wdsB (rgW (rangesM xs) 0) else wdsB [1, (xs.length : Int)] ++ wdsB xs
theorem specEnc_ev (xs : List Int) (hn : xs.length ≤ 65535) (hx : ∀ x ∈ xs, 0 ≤ x ∧ x ≤ 65535) : Ev (fun k => spec_l23Encode.f k xs) (encM xs) := by
  have hs := rangesM_span xs hx
  have hl := rangesM_length xs
  unfold encM
  refine Ev.bind (specRanges_ev xs (by omega) hx) ?_
  rw [w64 (x := 3 * ((rangesM xs).length : Int)) (by omega) (by omega)]
  have two : ∀ (a b : Int), 0 ≤ a → a ≤ 65535 → 0 ≤ b → b ≤ 65535 → ∀ x ∈ [a, b], 0 ≤ x ∧ x ≤ 65535 := by
    intro a b h1 h2 h3 h4 x hx
    simp only [List.mem_cons, List.not_mem_nil, or_false] at hx
    rcases hx with rfl | rfl <;> omega
  by_cases h : 3 * (rangesM xs).length < xs.length
  · rw [if_pos h]
    refine evNeg (by omega) (Ev.bind (specWords_ev _ (by simp) (two _ _ (by omega) (by omega) (by omega) (by omega))) ?_)
    have := specEnc_l0 (rangesM xs) (by omega) hs.2 (rangesM xs).length 0 (wdsB [2, ((rangesM xs).length : Int)]) 0 (by omega) (by rw [wdsB_size]; simp) (by omega) (by rw [List.drop_zero, hs.1]; omega)
    rw [List.drop_zero] at this
    exact this
  · rw [if_neg h]
    refine evPos (by omega) (Ev.bind (specWords_ev _ (by simp) (two _ _ (by omega) (by omega) (by omega) (by omega))) (Ev.bind (specWords_ev xs (by omega) hx) (evPos ?_ (Ev.now _))))
    rw [wdsB_size, wdsB_size]; simp only [List.length_cons, List.length_nil]; omega
theorem implEnc_ev (xs : List Int) (hn : xs.length ≤ 65535) (hx : ∀ x ∈ xs, 0 ≤ x ∧ x ≤ 65535) : Ev (fun k => impl_encodeClass.f k xs) (encM xs) := by
  have hs := rangesM_span xs hx
  have hl := rangesM_length xs
  have two : ∀ (a b : Int), 0 ≤ a → a ≤ 65535 → 0 ≤ b → b ≤ 65535 → ∀ x ∈ [a, b], 0 ≤ x ∧ x ≤ 65535 := by
    intro a b h1 h2 h3 h4 x hx
    simp only [List.mem_cons, List.not_mem_nil, or_false] at hx
    rcases hx with rfl | rfl <;> omega
  have s1 : (wdsB [1, (xs.length : Int)]).size = 4 := by rw [wdsB_size]; rfl
  have s2 : (wdsB xs).size = 2 * xs.length := wdsB_size xs
  refine Ev.bind (implWords_ev _ (by simp) (two _ _ (by omega) (by omega) (by omega) (by omega))) (Ev.bind (implWords_ev xs (by omega) hx) (evPos (by omega) ?_))
  refine Ev.bind (implRanges_ev xs (by omega) hx) (Ev.bind (implWords_ev _ (by simp) (two _ _ (by omega) (by omega) (by omega) (by omega))) ?_)
  have := implEnc_l0 (wdsB [1, (xs.length : Int)] ++ wdsB xs) (rangesM xs) (by omega) hs.2 (rangesM xs).length 0 (wdsB [2, ((rangesM xs).length : Int)]) 0 (by omega) (by rw [wdsB_size]; simp) (by omega) (by rw [List.drop_zero, hs.1]; omega)
  rw [List.drop_zero, bx_size, s1, s2] at this
  have e : (if 4 + 6 * (rangesM xs).length < 4 + 2 * xs.length then wdsB [2, ((rangesM xs).length : Int)] ++ wdsB (rgW (rangesM xs) 0) else wdsB [1, (xs.length : Int)] ++ wdsB xs) = encM xs := by
    unfold encM
    by_cases h : 3 * (rangesM xs).length < xs.length
    · rw [if_pos h, if_pos (by omega)]
    · rw [if_neg h, if_neg (by omega)]
  rw [e] at this
  exact this
theorem VC.len {xs : List Int} (h : VC xs) : xs.length ≤ 40 := by
  have key : ∀ j : Nat, j < xs.length → (j : Int) ≤ rd xs j := by
    intro j
    induction j with
    | zero => intro hj; exact (h 0 hj).1
    | succ j ih =>
      intro hj
      have h1 := ih (by omega)
      have h2 := (h (j + 1) hj).2.2 (by omega)
      rw [show (((j + 1 : Nat) : Int) - 1) = (j : Int) by omega] at h2
      omega
  by_cases h0 : xs.length ≤ 40
  · exact h0
  · have h1 := key (xs.length - 1) (by omega)
    have h2 := (h (xs.length - 1) (by omega)).2.1
    omega
-- part: inF
theorem in_f (a b c : Int) : spec_l00In.f a b c = some (decide (b ≤ a ∧ a ≤ c)) := by
  unfold spec_l00In.f
  by_cases h : a ≥ b <;> simp [h]
-- part: classRanges
theorem num_f (a : Int) : impl_isGlyphNumber.f a = some (decide (0 ≤ a ∧ a ≤ 39)) := by
  unfold impl_isGlyphNumber.f
  by_cases h : a ≥ 0
  · rw [if_pos h]; congr 1; rw [decide_eq_decide]; omega
  · rw [if_neg h, decide_eq_false (by omega)]
/-- The glyphs from g on, d of them. -/
def span : Int → Nat → List Int
  | _, 0 => []
  | g, d + 1 => g :: span (g + 1) d
theorem span_length (d : Nat) : ∀ g, (span g d).length = d := by
  induction d with
  | zero => intro g; rfl
  | succ d ih => intro g; simp [span, ih]
def spanR (x : S92) : List Int := span x.f0 (x.f1 + 1 - x.f0).toNat
/-- What one range obeys; p: the end of what lies before it. -/
def ranAt (x : S92) (p : Int) : Prop := (0 ≤ x.f0 ∧ x.f0 ≤ 39) ∧ (x.f0 ≤ x.f1 ∧ x.f1 ≤ 39) ∧ p < x.f0
instance (x : S92) (p : Int) : Decidable (ranAt x p) := by unfold ranAt; infer_instance
def ranFrom : List S92 → Int → Bool
  | [], _ => true
  | x :: xs, p => decide (ranAt x p) && ranFrom xs x.f1
theorem ranFrom_all : ∀ (xs : List S92) (p : Int), ranFrom xs p = true → ∀ x ∈ xs, 0 ≤ x.f0 ∧ x.f0 ≤ x.f1 ∧ x.f1 ≤ 39 := by
  intro xs
  induction xs with
  | nil => intro p _ x hx; cases hx
  | cons y ys ih =>
    intro p h x hx
    rw [ranFrom, Bool.and_eq_true, decide_eq_true_iff] at h
    obtain ⟨⟨h1, h2, h3⟩, h4⟩ := h
    rcases List.mem_cons.1 hx with rfl | hx
    · omega
    · exact ih _ h4 x hx
theorem specSpan (xs : List S92) (i : Nat) (hi : i < xs.length) (hn : xs.length ≤ 1048576) (hf : xs[i].f1 ≤ 39) (r : List Int × Int) :
    ∀ (d : Nat) (g : Int) (out : List Int), g + d = xs[i].f1 + 1 → 0 ≤ g → out.length + d ≤ 100000000 →
      Ev (fun k => spec_ClassOfRanges.l1 k xs (out ++ span g d) ((i + 1 : Nat) : Int)) r → Ev (fun k => spec_ClassOfRanges.l2 k xs out (i : Int) g) r := by
  intro d
  induction d with
  | zero =>
    intro g out h h0 ho e
    rw [span, List.append_nil] at e
    refine Ev.step (fun k => ?_) e
    simp only [spec_ClassOfRanges.l2]
    rw [if_pos (by omega), if_pos (by omega), rdR_get hi, if_neg (by omega), w64 (by omega) (by omega)]
    push_cast
    rfl
  | succ d ih =>
    intro g out h h0 ho e
    have := ih (g + 1) (out ++ [g]) (by omega) (by omega) (by simp; omega) (by rw [List.append_assoc, List.singleton_append]; exact e)
    refine Ev.step (fun k => ?_) this
    simp only [spec_ClassOfRanges.l2]
    rw [if_pos (by omega), if_pos (by omega), rdR_get hi, if_pos (show g ≤ xs[i].f1 by omega), if_pos (by omega), w64 (by omega) (by omega)]
theorem specBuild (xs : List S92) (hn : xs.length ≤ 1048576) (hx : ∀ x ∈ xs, 0 ≤ x.f0 ∧ x.f0 ≤ x.f1 ∧ x.f1 ≤ 39) :
    ∀ (d i : Nat) (out : List Int), i + d = xs.length → out.length ≤ 40 * i → Ev (fun k => spec_ClassOfRanges.l1 k xs out (i : Int)) (out ++ (xs.drop i).flatMap spanR, 0) := by
  intro d
  induction d with
  | zero =>
    intro i out h ho
    refine Ev.step (f := fun _ => some _) (fun k => ?_) (Ev.now _)
    simp only [spec_ClassOfRanges.l1]
    rw [if_neg (by omega), List.drop_of_length_le (by omega)]
    simp
  | succ d ih =>
    intro i out h ho
    have hi : i < xs.length := by omega
    have hb := hx xs[i] (List.getElem_mem hi)
    rw [List.drop_eq_getElem_cons hi, List.flatMap_cons, ← List.append_assoc]
    refine Ev.step (fun k => by
      simp only [spec_ClassOfRanges.l1]
      rw [if_pos (by omega), if_pos (by omega), rdR_get hi]) ?_
    refine specSpan xs i hi hn hb.2.2 _ (xs[i].f1 + 1 - xs[i].f0).toNat xs[i].f0 out (by omega) (by omega) (by omega) ?_
    exact ih (i + 1) (out ++ spanR xs[i]) (by omega) (by rw [List.length_append, spanR, span_length]; omega)
theorem specRan (xs : List S92) (hn : xs.length ≤ 1048576) (R : List Int) (hR : ranFrom xs (-1) = true → Ev (fun k => spec_ClassOfRanges.l1 k xs [] 0) (R, 0)) :
    ∀ (d i : Nat) (p : Int), i + d = xs.length → ranFrom xs (-1) = ranFrom (xs.drop i) p → (i = 0 → p = -1) → (∀ j : Nat, i = j + 1 → ∃ h : j < xs.length, p = xs[j].f1) →
      Ev (fun k => spec_ClassOfRanges.l0 k xs (i : Int)) (if ranFrom xs (-1) = true then (R, 0) else ([], 1)) := by
  intro d
  induction d with
  | zero =>
    intro i p h he h0 hj
    rw [List.drop_of_length_le (by omega), ranFrom] at he
    rw [if_pos he]
    refine Ev.step (fun k => ?_) (hR he)
    simp only [spec_ClassOfRanges.l0]
    rw [if_neg (by omega)]
  | succ d ih =>
    intro i p h he h0 hj
    have hi : i < xs.length := by omega
    rw [List.drop_eq_getElem_cons hi, ranFrom] at he
    have bad : ¬ ranAt xs[i] p → (if ranFrom xs (-1) = true then (R, (0:Int)) else ([], 1)) = ([], 1) := fun hr => by
      rw [he, decide_eq_false hr, Bool.false_and]; rfl
    by_cases r1 : 0 ≤ xs[i].f0 ∧ xs[i].f0 ≤ 39
    · by_cases r2 : xs[i].f0 ≤ xs[i].f1 ∧ xs[i].f1 ≤ 39
      · have go : ranAt xs[i] p → Ev (fun k => spec_ClassOfRanges.l0 k xs ((i + 1 : Nat) : Int)) (if ranFrom xs (-1) = true then (R, 0) else ([], 1)) := fun hr =>
          ih (i + 1) xs[i].f1 (by omega) (by rw [he, decide_eq_true hr, Bool.true_and]) (by omega) (fun j e => by
            obtain rfl : j = i := by omega
            exact ⟨hi, rfl⟩)
        cases i with
        | zero =>
          have e := h0 rfl
          refine Ev.step (fun k => ?_) (go ⟨r1, r2, by omega⟩)
          simp only [spec_ClassOfRanges.l0, in_f, Option.bind_some]
          rw [if_pos (by omega), if_pos (by omega), rdR_get hi, decide_eq_true r1, decide_eq_true r2, if_pos rfl, if_pos rfl, if_neg (by omega), w64 (by omega) (by omega)]
          rfl
        | succ j =>
          obtain ⟨hj1, e⟩ := hj j rfl
          by_cases r3 : xs[j + 1].f0 ≤ p
          · rw [bad (fun hr => by have := hr.2.2; omega)]
            refine Ev.step (f := fun _ => some _) (fun k => ?_) (Ev.now _)
            simp only [spec_ClassOfRanges.l0, in_f, Option.bind_some]
            rw [if_pos (by omega), if_pos (by omega), rdR_get hi, decide_eq_true r1, decide_eq_true r2, if_pos rfl, if_pos rfl, if_pos (by omega), w64 (x := ((j + 1 : Nat) : Int) - 1) (by omega) (by omega), if_pos (by omega), if_pos (by omega), show (((j + 1 : Nat) : Int) - 1) = (j : Int) by omega, rdR_get hj1, ← e, if_pos r3]
          · refine Ev.step (fun k => ?_) (go ⟨r1, r2, by omega⟩)
            simp only [spec_ClassOfRanges.l0, in_f, Option.bind_some]
            rw [if_pos (by omega), if_pos (by omega), rdR_get hi, decide_eq_true r1, decide_eq_true r2, if_pos rfl, if_pos rfl, if_pos (by omega), w64 (x := ((j + 1 : Nat) : Int) - 1) (by omega) (by omega), if_pos (by omega), if_pos (by omega), show (((j + 1 : Nat) : Int) - 1) = (j : Int) by omega, rdR_get hj1, ← e, if_neg r3, w64 (x := ((j + 1 : Nat) : Int) + 1) (by omega) (by omega)]
            push_cast
            rfl
      · rw [bad (fun hr => r2 hr.2.1)]
        refine Ev.step (f := fun _ => some _) (fun k => ?_) (Ev.now _)
        simp only [spec_ClassOfRanges.l0, in_f, Option.bind_some]
        rw [if_pos (by omega), if_pos (by omega), rdR_get hi, decide_eq_true r1, decide_eq_false r2, if_pos rfl, if_neg (by simp)]
    · rw [bad (fun hr => r1 hr.1)]
      refine Ev.step (f := fun _ => some _) (fun k => ?_) (Ev.now _)
      simp only [spec_ClassOfRanges.l0, in_f, Option.bind_some]
      rw [if_pos (by omega), if_pos (by omega), rdR_get hi, decide_eq_false r1, if_neg (by simp)]
theorem implSpan (xs : List S92) (i : Nat) (hi : i < xs.length) (hn : xs.length ≤ 1048576) (a b : Int) (hb : b ≤ 39) (r : List Int × Int) :
    ∀ (d : Nat) (g : Int) (out : List Int), g + d = b + 1 → 0 ≤ g → out.length + d ≤ 100000000 →
      Ev (fun k => impl_ClassOfRanges.l0 k xs (out ++ span g d) xs (xs.length : Int) ((i + 1 : Nat) : Int)) r → Ev (fun k => impl_ClassOfRanges.l1 k xs out g xs (xs.length : Int) (i : Int) a b) r := by
  intro d
  induction d with
  | zero =>
    intro g out h h0 ho e
    rw [span, List.append_nil] at e
    refine Ev.step (fun k => ?_) e
    simp only [impl_ClassOfRanges.l1]
    rw [if_neg (by omega), w64 (by omega) (by omega)]
    push_cast
    rfl
  | succ d ih =>
    intro g out h h0 ho e
    have := ih (g + 1) (out ++ [g]) (by omega) (by omega) (by simp; omega) (by rw [List.append_assoc, List.singleton_append]; exact e)
    refine Ev.step (fun k => ?_) this
    simp only [impl_ClassOfRanges.l1]
    rw [if_pos (show g ≤ b by omega), if_pos (by omega), w64 (by omega) (by omega)]
theorem implRan (xs : List S92) (hn : xs.length ≤ 1048576) :
    ∀ (d i : Nat) (p : Int) (out : List Int), i + d = xs.length → out.length ≤ 40 * i → (i = 0 → p = -1) → (∀ j : Nat, i = j + 1 → ∃ h : j < xs.length, p = xs[j].f1) →
      Ev (fun k => impl_ClassOfRanges.l0 k xs out xs (xs.length : Int) (i : Int)) (if ranFrom (xs.drop i) p = true then (out ++ (xs.drop i).flatMap spanR, 0) else ([], 1)) := by
  intro d
  induction d with
  | zero =>
    intro i p out h ho h0 hj
    refine Ev.step (f := fun _ => some _) (fun k => ?_) (Ev.now _)
    simp only [impl_ClassOfRanges.l0]
    rw [if_neg (by omega), List.drop_of_length_le (by omega)]
    simp [ranFrom]
  | succ d ih =>
    intro i p out h ho h0 hj
    have hi : i < xs.length := by omega
    rw [List.drop_eq_getElem_cons hi, ranFrom]
    have bad : ∀ a b, Ev (fun k => impl_ClassOfRanges.j1 k xs out xs (xs.length : Int) (i : Int) true a b) ([], 1) := fun a b =>
      Ev.step (f := fun _ => some ([], 1)) (fun k => by simp [impl_ClassOfRanges.j1]) (Ev.now _)
    have go : ranAt xs[i] p → Ev (fun k => impl_ClassOfRanges.j1 k xs out xs (xs.length : Int) (i : Int) false xs[i].f0 xs[i].f1) (if ranFrom (xs.drop (i + 1)) xs[i].f1 = true then (out ++ (xs[i] :: xs.drop (i + 1)).flatMap spanR, 0) else ([], 1)) := by
      intro hr
      obtain ⟨r1, r2, r3⟩ := hr
      refine Ev.step (f := fun k => impl_ClassOfRanges.l1 k xs out xs[i].f0 xs (xs.length : Int) (i : Int) xs[i].f0 xs[i].f1) (fun k => by simp [impl_ClassOfRanges.j1]) ?_
      refine implSpan xs i hi hn _ _ r2.2 _ (xs[i].f1 + 1 - xs[i].f0).toNat xs[i].f0 out (by omega) (by omega) (by omega) ?_
      rw [List.flatMap_cons, ← List.append_assoc]
      exact ih (i + 1) xs[i].f1 (out ++ spanR xs[i]) (by omega) (by rw [List.length_append, spanR, span_length]; omega) (by omega) (fun j e => by
        obtain rfl : j = i := by omega
        exact ⟨hi, rfl⟩)
    refine Ev.step (fun k => by
      simp only [impl_ClassOfRanges.l0, num_f, Option.bind_some]
      rw [if_pos (by omega), if_pos (by omega), if_pos (by omega), rdR_get hi]) ?_
    by_cases r1 : 0 ≤ xs[i].f0 ∧ xs[i].f0 ≤ 39
    · refine evPos (decide_eq_true r1) ?_
      by_cases r2 : 0 ≤ xs[i].f1 ∧ xs[i].f1 ≤ 39
      · refine evPos (decide_eq_true r2) ?_
        by_cases r4 : xs[i].f1 < xs[i].f0
        · rw [decide_eq_false (fun hr : ranAt xs[i] p => by have := hr.2.1; omega), Bool.false_and]
          exact evPos r4 (bad _ _)
        · refine evNeg r4 ?_
          cases i with
          | zero =>
            have e := h0 rfl
            rw [decide_eq_true (show ranAt xs[0] p from ⟨r1, by omega, by omega⟩), Bool.true_and]
            exact evNeg (by omega) (go ⟨r1, by omega, by omega⟩)
          | succ j =>
            obtain ⟨hj1, e⟩ := hj j rfl
            refine Ev.congr (f := fun k => impl_ClassOfRanges.j1 k xs out xs (xs.length : Int) ((j + 1 : Nat) : Int) (decide (xs[j + 1].f0 ≤ p)) xs[j + 1].f0 xs[j + 1].f1) (fun k => by
              rw [if_pos (by omega), w64 (x := ((j + 1 : Nat) : Int) - 1) (by omega) (by omega), if_pos (by omega), if_pos (by omega), show (((j + 1 : Nat) : Int) - 1) = (j : Int) by omega, rdR_get hj1, ← e]) ?_
            by_cases r3 : xs[j + 1].f0 ≤ p
            · rw [decide_eq_false (fun hr : ranAt xs[j + 1] p => by have := hr.2.2; omega), Bool.false_and, decide_eq_true r3]
              exact bad _ _
            · rw [decide_eq_true (show ranAt xs[j + 1] p from ⟨r1, by omega, by omega⟩), Bool.true_and, decide_eq_false r3]
              exact go ⟨r1, by omega, by omega⟩
      · rw [decide_eq_false (fun hr : ranAt xs[i] p => by have := hr.1; have := hr.2.1; omega), Bool.false_and]
        exact evNeg (by simpa using r2) (bad _ _)
    · rw [decide_eq_false (fun hr : ranAt xs[i] p => by have := hr.1; omega), Bool.false_and]
      exact evNeg (by simpa using r1) (bad _ _)
theorem flat_length (xs : List S92) (hx : ∀ x ∈ xs, 0 ≤ x.f0 ∧ x.f0 ≤ x.f1 ∧ x.f1 ≤ 39) : (xs.flatMap spanR).length ≤ 40 * xs.length := by
  induction xs with
  | nil => simp
  | cons x xs ih =>
    have h1 := hx x (List.mem_cons_self ..)
    have h2 := ih (fun y hy => hx y (List.mem_cons_of_mem _ hy))
    rw [List.flatMap_cons, List.length_append, spanR, span_length, List.length_cons]
    omega
-- part: the law
theorem bt_range (s : ByteArray) (i : Int) : 0 ≤ bt s i ∧ bt s i ≤ 255 := by
  unfold bt
  split
  · rename_i h
    have := (s[i.toNat]'h).toNat_lt
    omega
  · omega
theorem bt_sub (s : ByteArray) (a p : Nat) (h : a + p < s.size) : bt (s.extract a s.size) (p : Int) = bt s ((a : Int) + p) := by
  unfold bt
  have h1 : ((p : Int)).toNat < (s.extract a s.size).size := by rw [ByteArray.size_extract]; omega
  have h2 : ((a : Int) + p).toNat < s.size := by omega
  rw [dif_pos h1, dif_pos h2, ByteArray.getElem_extract]
  congr 3
/-- The number of two bytes. -/
def gw (s : ByteArray) (p : Int) : Int := 256 * bt s p + bt s (p + 1)
theorem gw_range (s : ByteArray) (p : Int) : 0 ≤ gw s p ∧ gw s p ≤ 65535 := by
  have h1 := bt_range s p
  have h2 := bt_range s (p + 1)
  unfold gw
  omega
theorem gw_sub (s : ByteArray) (a p : Nat) (h : a + p + 1 < s.size) : gw (s.extract a s.size) (p : Int) = gw s ((a : Int) + p) := by
  unfold gw
  rw [bt_sub s a p (by omega), show (p : Int) + 1 = ((p + 1 : Nat) : Int) by push_cast; rfl, bt_sub s a (p + 1) (by omega)]
  push_cast
  rw [Int.add_assoc]
theorem specGet (s : ByteArray) (p : Int) (hs : s.size ≤ 1048576) (h0 : 0 ≤ p) (h1 : p + 1 < (s.size : Int)) : Ev (fun k => spec_l01Get.f k s p 2) (gw s p) := by
  have b1 := bt_range s p
  have b2 := bt_range s (p + 1)
  have f1 : wrap64 (p + 0) = p := by rw [Int.add_zero]; exact w64 (by omega) (by omega)
  have f2 : wrap64 (p + 1) = p + 1 := w64 (by omega) (by omega)
  have f3 : wrap64 (wrap64 (256 * 0) + wrap64 (bt s p)) = bt s p := by
    rw [w64 (x := 256 * 0) (by decide) (by decide), w64 (x := bt s p) (by omega) (by omega), Int.mul_zero, Int.zero_add]
    exact w64 (by omega) (by omega)
  have f4 : wrap64 (wrap64 (256 * bt s p) + wrap64 (bt s (p + 1))) = gw s p := by
    rw [w64 (x := 256 * bt s p) (by omega) (by omega), w64 (x := bt s (p + 1)) (by omega) (by omega)]
    exact w64 (by omega) (by omega)
  have f5 : wrap64 (0 + 1) = 1 := w64 (by decide) (by decide)
  have f6 : wrap64 (1 + 1) = 2 := w64 (by decide) (by decide)
  refine Ev.step (f := fun k => spec_l01Get.l0 k s p 2 (bt s p) 1) (fun k => ?_) ?_
  · show spec_l01Get.l0 (k + 1) s p 2 0 0 = _
    simp only [spec_l01Get.l0]
    rw [if_pos (by decide), f1, if_pos h0, if_pos (by omega), f3, f5]
  refine Ev.step (f := fun k => spec_l01Get.l0 k s p 2 (gw s p) 2) (fun k => ?_) ?_
  · simp only [spec_l01Get.l0]
    rw [if_pos (by decide), f2, if_pos (by omega), if_pos h1, f4, f6]
  refine Ev.step (f := fun _ => some (gw s p)) (fun k => ?_) (Ev.now _)
  simp only [spec_l01Get.l0]
  rw [if_neg (by decide)]
theorem or_join (x y : Int) (hx : 0 ≤ x ∧ x ≤ 255) (hy : 0 ≤ y ∧ y ≤ 255) : Go.bits .or .i64 (x * 256) y = x * 256 + y :=
  bits_join .i64 16 (by decide) (fun n h0 h1 => by rw [IntKind.wrap_i64]; omega) 8 _ _ (by omega) (by omega) (by omega) hy.1 (by omega) (by omega)
theorem implGet_no (s : ByteArray) (p : Int) (hs : s.size ≤ 1048576) (h0 : 0 ≤ p) (h1 : (s.size : Int) ≤ p + 1) : Ev (fun k => impl_GetWord.f k s p 2) (0, false) := by
  refine Ev.step (f := fun _ => some (0, false)) (fun k => ?_) (Ev.now _)
  unfold impl_GetWord.f
  rw [if_neg (by decide), if_neg (by decide), if_neg (by omega), w64 (x := (s.size : Int) - 2) (by omega) (by omega), decide_eq_true (by omega)]
  simp only [impl_GetWord.j0]
  rfl
theorem implGet (s : ByteArray) (p : Int) (hs : s.size ≤ 1048576) (h0 : 0 ≤ p) (h1 : p + 1 < (s.size : Int)) : Ev (fun k => impl_GetWord.f k s p 2) (gw s p, true) := by
  have b1 := bt_range s p
  have b2 := bt_range s (p + 1)
  have f1 : wrap64 (p + 0) = p := by rw [Int.add_zero]; exact w64 (by omega) (by omega)
  have f2 : wrap64 (p + 1) = p + 1 := w64 (by omega) (by omega)
  have f3 : Go.bits .or .i64 (wrap64 (0 * 256)) (wrap64 (bt s p)) = bt s p := by
    rw [w64 (x := 0 * 256) (by decide) (by decide), w64 (x := bt s p) (by omega) (by omega), or_join 0 _ (by decide) b1]
    omega
  have f4 : Go.bits .or .i64 (wrap64 (bt s p * 256)) (wrap64 (bt s (p + 1))) = gw s p := by
    rw [w64 (x := bt s p * 256) (by omega) (by omega), w64 (x := bt s (p + 1)) (by omega) (by omega), or_join _ _ b1 b2]
    unfold gw
    omega
  have f5 : wrap64 (0 + 1) = 1 := w64 (by decide) (by decide)
  have f6 : wrap64 (1 + 1) = 2 := w64 (by decide) (by decide)
  refine Ev.step (f := fun k => impl_GetWord.l0 k s p 2 0 0) (fun k => ?_) ?_
  · unfold impl_GetWord.f
    rw [if_neg (by decide), if_neg (by decide), if_neg (by omega), w64 (x := (s.size : Int) - 2) (by omega) (by omega), decide_eq_false (by omega)]
    simp only [impl_GetWord.j0]
    rfl
  refine Ev.step (f := fun k => impl_GetWord.l0 k s p 2 (bt s p) 1) (fun k => ?_) ?_
  · simp only [impl_GetWord.l0]
    rw [if_pos (by decide), f1, if_pos h0, if_pos (by omega), f3, f5]
  refine Ev.step (f := fun k => impl_GetWord.l0 k s p 2 (gw s p) 2) (fun k => ?_) ?_
  · simp only [impl_GetWord.l0]
    rw [if_pos (by decide), f2, if_pos (by omega), if_pos h1, f4, f6]
  refine Ev.step (f := fun _ => some (gw s p, true)) (fun k => ?_) (Ev.now _)
  simp only [impl_GetWord.l0]
  rw [if_neg (by decide)]
theorem ranFrom_len : ∀ (xs : List S92) (p : Int), ranFrom xs p = true → p ≤ 39 → ((xs.flatMap spanR).length : Int) ≤ 39 - p := by
  intro xs
  induction xs with
  | nil => intro p _ hp; simp; omega
  | cons y ys ih =>
    intro p h hp
    rw [ranFrom, Bool.and_eq_true, decide_eq_true_iff] at h
    obtain ⟨⟨h1, h2, h3⟩, h4⟩ := h
    have := ih _ h4 h2.2
    rw [List.flatMap_cons, List.length_append, spanR, span_length]
    push_cast
    omega
theorem span_range : ∀ (d : Nat) (g x : Int), x ∈ span g d → g ≤ x ∧ x < g + d := by
  intro d
  induction d with
  | zero => intro g x h; cases h
  | succ d ih =>
    intro g x h
    rcases List.mem_cons.1 h with rfl | h
    · push_cast; omega
    · have := ih _ _ h; push_cast; omega
theorem ranFrom_range (xs : List S92) (h : ranFrom xs (-1) = true) : ∀ x ∈ xs.flatMap spanR, 0 ≤ x ∧ x ≤ 65535 := by
  intro x hx
  obtain ⟨r, hr, hx⟩ := List.mem_flatMap.1 hx
  have h1 := ranFrom_all xs _ h r hr
  have h2 := span_range _ _ _ hx
  omega
/-- A range of one glyph. -/
def one1 (w : Int) : S92 := ⟨w, w⟩
theorem one_span (ws : List Int) : (ws.map one1).flatMap spanR = ws := by
  induction ws with
  | nil => rfl
  | cons w ws ih =>
    rw [List.map_cons, List.flatMap_cons, ih]
    have : spanR (one1 w) = [w] := by
      show span w (w + 1 - w).toNat = [w]
      rw [show (w + 1 - w).toNat = 1 by omega]
      rfl
    rw [this]
    rfl
theorem one_ran (ws : List Int) : ranFrom (ws.map one1) (-1) = true ↔ VC ws := by
  have key : ∀ (ws : List Int) (p : Int), -1 ≤ p → (ranFrom (ws.map one1) p = true ↔ ∀ j : Nat, j < ws.length → 0 ≤ rd ws j ∧ rd ws j ≤ 39 ∧ (if j = 0 then p else rd ws ((j : Int) - 1)) < rd ws j) := by
    intro ws
    induction ws with
    | nil => intro p _; simp [ranFrom]
    | cons w ws ih =>
      intro p hp
      rw [List.map_cons, ranFrom, Bool.and_eq_true, decide_eq_true_iff]
      have r0 : rd (w :: ws) ((0 : Nat) : Int) = w := rd_get (xs := w :: ws) (i := 0) (by simp)
      have rs : ∀ j : Nat, j < ws.length → rd (w :: ws) ((j + 1 : Nat) : Int) = rd ws j := fun j hj => by
        rw [rd_get (xs := w :: ws) (i := j + 1) (by simp; omega), rd_get hj]
        rfl
      constructor
      · rintro ⟨⟨h1, _, h3⟩, h4⟩ j hj
        have h1' : 0 ≤ w ∧ w ≤ 39 := h1
        have h3' : p < w := h3
        cases j with
        | zero => rw [r0, if_pos rfl]; omega
        | succ j =>
          have hj' : j < ws.length := by simp at hj; omega
          have := (ih w (by omega)).1 h4 j hj'
          rw [rs j hj', if_neg (by omega), show (((j + 1 : Nat) : Int) - 1) = (j : Int) by omega]
          cases j with
          | zero => rw [if_pos rfl] at this; rw [r0]; exact this
          | succ j =>
            rw [if_neg (by omega), show (((j + 1 : Nat) : Int) - 1) = (j : Int) by omega] at this
            rw [rs j (by omega)]
            exact this
      · intro h
        have h0 := h 0 (by simp)
        rw [r0, if_pos rfl] at h0
        refine ⟨⟨⟨h0.1, h0.2.1⟩, ⟨Int.le_refl _, h0.2.1⟩, h0.2.2⟩, (ih w (by omega)).2 fun j hj => ?_⟩
        have := h (j + 1) (by simp; omega)
        rw [rs j hj, if_neg (by omega), show (((j + 1 : Nat) : Int) - 1) = (j : Int) by omega] at this
        cases j with
        | zero => rw [if_pos rfl]; rw [r0] at this; exact this
        | succ j =>
          rw [if_neg (by omega), show (((j + 1 : Nat) : Int) - 1) = (j : Int) by omega]
          rw [rs j (by omega)] at this
          exact this
  rw [key ws (-1) (by omega)]
  constructor
  · intro h j hj
    have := h j hj
    refine ⟨this.1, this.2.1, fun h0 => ?_⟩
    rw [if_neg (by omega)] at this
    exact this.2.2
  · intro h j hj
    have := h j hj
    refine ⟨this.1, this.2.1, ?_⟩
    by_cases h0 : j = 0
    · rw [if_pos h0]; have := this.1; omega
    · rw [if_neg h0]; exact this.2.2 (by omega)
/-- What decoding makes of some ranges. -/
def decM (ys : List S92) (b : ByteArray) (size : Int) : List Int × Int × Int :=
  if ranFrom ys (-1) = true then (if (encM (ys.flatMap spanR)).toList = b.toList then (ys.flatMap spanR, size, 0) else ([], 0, 9)) else ([], 0, 9)
theorem decM_len (ys : List S92) (b : ByteArray) (size : Int) : (decM ys b size).1.length ≤ 40 := by
  unfold decM
  split
  · rename_i h
    have := ranFrom_len ys (-1) h (by omega)
    split
    · simp only; omega
    · simp
  · simp
theorem implCode (ys : List S92) (hn : ys.length ≤ 1048576) : Ev (fun k => impl_ClassOfRanges.f k ys) (if ranFrom ys (-1) = true then (ys.flatMap spanR, 0) else ([], 1)) :=
  implRan ys hn ys.length 0 (-1) [] (by omega) (by simp) (fun _ => rfl) (by omega)
theorem specCode (ys : List S92) (hn : ys.length ≤ 1048576) : Ev (fun k => spec_ClassOfRanges.f k ys) (if ranFrom ys (-1) = true then (ys.flatMap spanR, 0) else ([], 1)) :=
  specRan ys hn (ys.flatMap spanR) (fun hr => specBuild ys hn (ranFrom_all ys _ hr) ys.length 0 [] (by omega) (by simp)) ys.length 0 (-1) (by omega) rfl (fun _ => rfl) (by omega)
/-- The i-th range of a form of one word, or of three. -/
def rgAt (t : ByteArray) (kind : Int) (i : Nat) : S92 :=
  if kind = 1 then one1 (gw t (4 + 2 * (i : Int))) else ⟨gw t (4 + 6 * (i : Int)), gw t (6 + 6 * (i : Int))⟩
theorem range_snoc {α : Type} (f : Nat → α) (i : Nat) : (List.range (i + 1)).map f = (List.range i).map f ++ [f i] := by
  rw [List.range_succ, List.map_append, List.map_singleton]
theorem implLoop (t : ByteArray) (kind : Int) (c : Nat) (size : Int) (ht : t.size ≤ 1048576) (hk : kind = 1 ∨ kind = 2) (hc : c ≤ 65535) (hz : size = 4 + (if kind = 1 then 2 else 6) * (c : Int)) (hs : size ≤ (t.size : Int)) :
    ∀ (d i : Nat), i + d = c → Ev (fun k => impl_DecodeClass.l0 k t kind (c : Int) size ((List.range i).map (rgAt t kind)) (i : Int)) (decM ((List.range c).map (rgAt t kind)) (t.extract 0 size.toNat) size) := by
  have hz1 : kind = 1 → size = 4 + 2 * (c : Int) := fun h => by rw [hz, if_pos h]
  have hz2 : kind = 2 → size = 4 + 6 * (c : Int) := fun h => by rw [hz, if_neg (by omega)]
  have hz3 : 0 ≤ size := by
    rcases hk with h | h
    · have := hz1 h; omega
    · have := hz2 h; omega
  intro d
  induction d with
  | zero =>
    intro i h
    obtain rfl : i = c := by omega
    refine Ev.step (fun k => by rw [impl_DecodeClass.l0]) (evNeg (by omega) (Ev.bind (implCode _ (by simp; omega)) ?_))
    unfold decM
    by_cases hr : ranFrom ((List.range i).map (rgAt t kind)) (-1) = true
    · rw [if_pos hr, if_pos hr]
      have hl := ranFrom_len _ (-1) hr (by omega)
      refine evPos rfl (Ev.bind (implEnc_ev _ (by simp only; omega) (ranFrom_range _ hr)) (evPos hz3 (evPos hs ?_)))
      by_cases he : (encM (((List.range i).map (rgAt t kind)).flatMap spanR)).toList = (t.extract 0 size.toNat).toList
      · rw [if_pos he, if_pos he]; exact Ev.now _
      · rw [if_neg he, if_neg he]; exact Ev.now _
    · rw [if_neg hr, if_neg hr]
      exact evNeg (by simp) (Ev.now _)
  | succ d ih =>
    intro i h
    have hlen : ((List.range i).map (rgAt t kind)).length = i := by simp
    have := ih (i + 1) (by omega)
    rw [range_snoc] at this
    refine Ev.step (fun k => by rw [impl_DecodeClass.l0]) (evPos (by omega) ?_)
    rcases hk with hk | hk
    · have hz1 := hz1 hk
      refine evPos hk ?_
      rw [w64 (x := 2 * (i : Int)) (by omega) (by omega), w64 (x := 4 + 2 * (i : Int)) (by omega) (by omega), w64 (x := (i : Int) + 1) (by omega) (by omega)]
      refine Ev.bind (implGet t _ ht (by omega) (by omega)) (evPos (by omega) ?_)
      rw [show rgAt t kind i = ⟨gw t (4 + 2 * (i : Int)), gw t (4 + 2 * (i : Int))⟩ by unfold rgAt; rw [if_pos hk]; rfl] at this
      push_cast at this
      exact this
    · have hz2 := hz2 hk
      refine evNeg (by omega) ?_
      rw [w64 (x := 6 * (i : Int)) (by omega) (by omega), w64 (x := 4 + 6 * (i : Int)) (by omega) (by omega), w64 (x := 6 + 6 * (i : Int)) (by omega) (by omega), w64 (x := (i : Int) + 1) (by omega) (by omega)]
      refine Ev.bind (implGet t _ ht (by omega) (by omega)) (Ev.bind (implGet t _ ht (by omega) (by omega)) (evPos (by omega) ?_))
      rw [show rgAt t kind i = ⟨gw t (4 + 6 * (i : Int)), gw t (6 + 6 * (i : Int))⟩ by unfold rgAt; rw [if_neg (by omega)]] at this
      push_cast at this
      exact this
/-- The words behind the head. -/
def wordsM (t : ByteArray) (m : Nat) : List Int := (List.range m).map fun j : Nat => gw t (4 + 2 * (j : Int))
theorem wordsM_get (t : ByteArray) (m j : Nat) (h : j < m) : rd (wordsM t m) (j : Int) = gw t (4 + 2 * (j : Int)) := by
  rw [rd_get (by simp [wordsM]; exact h)]
  simp [wordsM]
theorem specDec3 (t : ByteArray) (c : Nat) (hc : c ≤ 65535) : ∀ (d i : Nat), i + d = c →
    Ev (fun k => spec_l23Decode.l0 k (wordsM t (3 * c)) ((List.range i).map (rgAt t 2)) ((3 * i : Nat) : Int)) (if ranFrom ((List.range c).map (rgAt t 2)) (-1) = true then (((List.range c).map (rgAt t 2)).flatMap spanR, true) else ([], false)) := by
  have hw : (wordsM t (3 * c)).length = 3 * c := by simp [wordsM]
  intro d
  induction d with
  | zero =>
    intro i h
    obtain rfl : i = c := by omega
    refine Ev.step (fun k => by rw [spec_l23Decode.l0]) ?_
    rw [w64 (x := ((3 * i : Nat) : Int) + 2) (by omega) (by omega)]
    refine evNeg (by omega) (Ev.bind (specCode _ (by simp; omega)) ?_)
    split
    · exact Ev.now _
    · exact Ev.now _
  | succ d ih =>
    intro i h
    have hlen : ((List.range i).map (rgAt t 2)).length = i := by simp
    have := ih (i + 1) (by omega)
    rw [range_snoc] at this
    refine Ev.step (fun k => by rw [spec_l23Decode.l0]) ?_
    rw [w64 (x := ((3 * i : Nat) : Int) + 2) (by omega) (by omega), w64 (x := ((3 * i : Nat) : Int) + 1) (by omega) (by omega), w64 (x := ((3 * i : Nat) : Int) + 3) (by omega) (by omega)]
    refine evPos (by omega) (evPos (by omega) (evPos (by omega) (evPos (by omega) (evPos (by omega) (evPos (by omega) ?_)))))
    rw [wordsM_get t _ _ (by omega), show ((3 * i : Nat) : Int) + 1 = ((3 * i + 1 : Nat) : Int) by push_cast; rfl, wordsM_get t _ _ (by omega)]
    rw [show rgAt t 2 i = ⟨gw t (4 + 2 * ((3 * i : Nat) : Int)), gw t (4 + 2 * ((3 * i + 1 : Nat) : Int))⟩ by
      unfold rgAt
      rw [if_neg (by decide), show 4 + 2 * ((3 * i : Nat) : Int) = 4 + 6 * (i : Int) by omega, show 4 + 2 * ((3 * i + 1 : Nat) : Int) = 6 + 6 * (i : Int) by omega], show ((3 * (i + 1) : Nat) : Int) = ((3 * i : Nat) : Int) + 3 by omega] at this
    exact this
theorem specLoop (s t : ByteArray) (a : Nat) (et : t = s.extract a s.size) (ha : a ≤ s.size) (hs : s.size ≤ 1048576) (kind : Int) (hk : kind = 1 ∨ kind = 2) (c m : Nat) (hc : c ≤ 65535) (hm : m = if kind = 1 then c else 3 * c) (hz : a + (4 + 2 * m) ≤ s.size) :
    ∀ (d i : Nat), i + d = m → Ev (fun k => spec_DecodeClass.l0 k s (a : Int) kind (m : Int) (wordsM t i) (i : Int)) (decM ((List.range c).map (rgAt t kind)) (t.extract 0 (4 + 2 * m)) (4 + 2 * (m : Int))) := by
  have hm1 : kind = 1 → m = c := fun h => by rw [hm, if_pos h]
  have hm2 : kind = 2 → m = 3 * c := fun h => by rw [hm, if_neg (by omega)]
  have hmc : m ≤ 196605 := by
    rcases hk with h | h
    · have := hm1 h; omega
    · have := hm2 h; omega
  have eb : s.extract a (a + (4 + 2 * m)) = t.extract 0 (4 + 2 * m) := by
    rw [et, ByteArray.extract_extract, Nat.add_zero, Nat.min_eq_left (by omega)]
  have he : wrap64 (wrap64 ((a : Int) + 4) + wrap64 (2 * (m : Int))) = ((a + (4 + 2 * m) : Nat) : Int) := by
    rw [w64 (x := (a : Int) + 4) (by omega) (by omega), w64 (x := 2 * (m : Int)) (by omega) (by omega), w64 (by omega) (by omega)]
    push_cast; omega
  have hl4 : wrap64 (4 + wrap64 (2 * (m : Int))) = 4 + 2 * (m : Int) := by
    rw [w64 (x := 2 * (m : Int)) (by omega) (by omega), w64 (by omega) (by omega)]
  have fin : ∀ (L : List Int) (x : Bool), Ev (fun k => spec_l23Decode.f k kind (wordsM t m)) (L, x) → x = ranFrom ((List.range c).map (rgAt t kind)) (-1) → (x = true → L = ((List.range c).map (rgAt t kind)).flatMap spanR) →
      Ev (fun k => spec_DecodeClass.l0 k s (a : Int) kind (m : Int) (wordsM t m) (m : Int)) (decM ((List.range c).map (rgAt t kind)) (t.extract 0 (4 + 2 * m)) (4 + 2 * (m : Int))) := by
    intro L x h1 hx hL
    refine Ev.step (fun k => by rw [spec_DecodeClass.l0]) (evNeg (by omega) (Ev.bind h1 ?_))
    unfold decM
    cases x with
    | true =>
      have hr := hx.symm
      have hL := hL rfl
      subst hL
      have hl := ranFrom_len _ (-1) hr (by omega)
      rw [if_pos hr, he, hl4]
      refine evPos rfl (Ev.bind (specEnc_ev _ (by simp only; omega) (ranFrom_range _ hr)) (evPos (by omega) (evPos (by omega) (evPos (by omega) ?_))))
      rw [show ((a : Int)).toNat = a by omega, show (((a + (4 + 2 * m) : Nat) : Int)).toNat = a + (4 + 2 * m) by omega, eb]
      by_cases hc : (encM (((List.range c).map (rgAt t kind)).flatMap spanR)).toList = (t.extract 0 (4 + 2 * m)).toList
      · rw [if_pos hc, if_pos hc]; exact Ev.now _
      · rw [if_neg hc, if_neg hc]; exact Ev.now _
    | false =>
      rw [if_neg (by rw [← hx]; simp)]
      exact evNeg (by simp) (Ev.now _)
  intro d
  induction d with
  | zero =>
    intro i h
    obtain rfl : i = m := by omega
    rcases hk with hk | hk
    · have hm1 := hm1 hk
      subst hm1
      have ey : (List.range i).map (rgAt t kind) = (wordsM t i).map one1 := by
        unfold wordsM
        rw [List.map_map]
        refine List.map_congr_left fun j _ => ?_
        simp only [rgAt, if_pos hk, Function.comp]
      obtain ⟨x, hx, hv⟩ := l23Ok_ev (wordsM t i) (by simp [wordsM]; omega)
      refine fin (wordsM t i) x (evPos hk (Ev.bind hx (Ev.now _))) ?_ (fun _ => by rw [ey, one_span])
      rw [ey]
      have := one_ran (wordsM t i)
      cases x with
      | true => exact (this.2 (hv.1 rfl)).symm
      | false =>
        cases hq : ranFrom ((wordsM t i).map one1) (-1) with
        | false => rfl
        | true => exact (hv.2 (this.1 hq))
    · have hmm := hm2 hk
      subst hk
      subst hmm
      have := specDec3 t c hc c 0 (by omega)
      by_cases hr : ranFrom ((List.range c).map (rgAt t 2)) (-1) = true
      · rw [if_pos hr] at this
        exact fin _ true (evNeg (by decide) this) hr.symm (fun _ => rfl)
      · rw [if_neg hr] at this
        exact fin _ false (evNeg (by decide) this) (by simpa using hr) (fun h => by cases h)
  | succ d ih =>
    intro i h
    have hlen : (wordsM t i).length = i := by simp [wordsM]
    have := ih (i + 1) (by omega)
    refine Ev.step (fun k => by rw [spec_DecodeClass.l0]) (evPos (by omega) ?_)
    rw [w64 (x := (a : Int) + 4) (by omega) (by omega), w64 (x := 2 * (i : Int)) (by omega) (by omega), w64 (x := (a : Int) + 4 + 2 * (i : Int)) (by omega) (by omega), w64 (x := (i : Int) + 1) (by omega) (by omega)]
    refine Ev.bind (specGet s _ hs (by omega) (by omega)) (evPos (by omega) ?_)
    have e : gw t (4 + 2 * (i : Int)) = gw s ((a : Int) + 4 + 2 * (i : Int)) := by
      rw [et, show 4 + 2 * (i : Int) = ((4 + 2 * i : Nat) : Int) by push_cast; rfl, gw_sub s a _ (by omega)]
      congr 1
      push_cast
      omega
    have ew : wordsM t (i + 1) = wordsM t i ++ [gw s ((a : Int) + 4 + 2 * (i : Int))] := by
      unfold wordsM
      rw [range_snoc, e]
    rw [ew] at this
    push_cast at this
    exact this
theorem Decode_both (s : ByteArray) (at_ : Int) (hs : s.size ≤ 1048576) : ∃ r : List Int × Int × Int, r.1.length ≤ 40 ∧ Ev (fun k => spec_DecodeClass.f k s at_) r ∧ Ev (fun k => impl_DecodeClass.f k s at_) r := by
  by_cases h : 0 ≤ at_ ∧ at_ ≤ (s.size : Int)
  · obtain ⟨a, rfl⟩ : ∃ a : Nat, at_ = a := ⟨at_.toNat, by omega⟩
    have ha : a ≤ s.size := by omega
    obtain ⟨t, et⟩ : ∃ t, t = s.extract a s.size := ⟨_, rfl⟩
    have tz : t.size = s.size - a := by rw [et, ByteArray.size_extract]; omega
    have spec0 : ∀ r, Ev (fun k => if wrap64 ((s.size : Int) - (a : Int)) < 4 then some (([] : List Int), (0 : Int), (11 : Int)) else ((spec_l01Get.f k s (a : Int) 2).bind fun t177 => ((spec_l01Get.f k s (wrap64 ((a : Int) + 2)) 2).bind fun t178 => (if t177 = 2 then (spec_DecodeClass.j0 k s (a : Int) (s.size : Int) t177 (wrap64 (t178 * 3))) else (spec_DecodeClass.j0 k s (a : Int) (s.size : Int) t177 t178))))) r → Ev (fun k => spec_DecodeClass.f k s (a : Int)) r := by
      intro r hr
      refine Ev.congr (fun k => ?_) hr
      unfold spec_DecodeClass.f
      rw [in_f, Option.bind_some, decide_eq_true h, if_pos rfl]
    have impl0 : ∀ r, Ev (fun k => ((impl_GetWord.f k t 0 2).bind fun bt232 => ((impl_GetWord.f k t 2 2).bind fun bt234 => (if bt234.2 = true then (if bt232.1 = 1 then (impl_DecodeClass.j1 k t bt232.1 bt234.1 (wrap64 (4 + (wrap64 (2 * bt234.1))))) else (if bt232.1 = 2 then (impl_DecodeClass.j1 k t bt232.1 bt234.1 (wrap64 (4 + (wrap64 (6 * bt234.1))))) else (some (([] : List Int), 0, 9)))) else (some (([] : List Int), 0, 11)))))) r → Ev (fun k => impl_DecodeClass.f k s (a : Int)) r := by
      intro r hr
      refine Ev.step (fun k => ?_) hr
      unfold impl_DecodeClass.f
      rw [if_neg (by omega), decide_eq_false (by omega)]
      simp only [impl_DecodeClass.j0]
      rw [if_neg (by simp), if_pos (by omega), if_pos (by omega), show ((a : Int)).toNat = a by omega, ← et]
    have wa : wrap64 ((s.size : Int) - (a : Int)) = (t.size : Int) := by rw [w64 (by omega) (by omega)]; omega
    by_cases h4 : t.size < 4
    · refine ⟨([], 0, 11), by simp, spec0 _ (by rw [wa]; exact evPos (by omega) (Ev.now _)), impl0 _ ?_⟩
      by_cases h2 : t.size < 2
      · exact Ev.bind (implGet_no t 0 (by omega) (by omega) (by omega)) (Ev.bind (implGet_no t 2 (by omega) (by omega) (by omega)) (evNeg (by simp) (Ev.now _)))
      · exact Ev.bind (implGet t 0 (by omega) (by omega) (by omega)) (Ev.bind (implGet_no t 2 (by omega) (by omega) (by omega)) (evNeg (by simp) (Ev.now _)))
    · have g0 : gw s (a : Int) = gw t 0 := by
        have := gw_sub s a 0 (by omega)
        rw [← et] at this
        simpa using this.symm
      have g2 : gw s ((a : Int) + 2) = gw t 2 := by
        have := gw_sub s a 2 (by omega)
        rw [← et] at this
        exact this.symm
      have r0 := gw_range t 0
      have r2 := gw_range t 2
      obtain ⟨kind, ekd⟩ : ∃ kd, kd = gw t 0 := ⟨_, rfl⟩
      obtain ⟨c, ec⟩ : ∃ c : Nat, (c : Int) = gw t 2 := ⟨(gw t 2).toNat, by omega⟩
      have spec1 : ∀ r, Ev (fun k => if kind = 2 then (spec_DecodeClass.j0 k s (a : Int) (s.size : Int) kind (wrap64 ((c : Int) * 3))) else (spec_DecodeClass.j0 k s (a : Int) (s.size : Int) kind (c : Int))) r → Ev (fun k => spec_DecodeClass.f k s (a : Int)) r := by
        intro r hr
        refine spec0 r ?_
        rw [wa, w64 (x := (a : Int) + 2) (by omega) (by omega)]
        refine evNeg (by omega) (Ev.bind (specGet s _ hs (by omega) (by omega)) (Ev.bind (specGet s _ hs (by omega) (by omega)) ?_))
        rw [g0, g2, ← ekd, ← ec]
        exact hr
      have impl1 : ∀ r, Ev (fun k => if kind = 1 then (impl_DecodeClass.j1 k t kind (c : Int) (wrap64 (4 + (wrap64 (2 * (c : Int)))))) else (if kind = 2 then (impl_DecodeClass.j1 k t kind (c : Int) (wrap64 (4 + (wrap64 (6 * (c : Int)))))) else (some (([] : List Int), (0 : Int), (9 : Int))))) r → Ev (fun k => impl_DecodeClass.f k s (a : Int)) r := by
        intro r hr
        refine impl0 r ?_
        refine Ev.bind (implGet t 0 (by omega) (by omega) (by omega)) (Ev.bind (implGet t 2 (by omega) (by omega) (by omega)) (evPos rfl ?_))
        rw [← ekd, ← ec]
        exact hr
      by_cases hk : kind = 1 ∨ kind = 2
      · -- a form that there is
        obtain ⟨m, hm⟩ : ∃ m : Nat, m = if kind = 1 then c else 3 * c := ⟨_, rfl⟩
        have hm1 : kind = 1 → m = c := fun h => by rw [hm, if_pos h]
        have hm2 : kind = 2 → m = 3 * c := fun h => by rw [hm, if_neg (by omega)]
        have hmc : m ≤ 196605 := by
          rcases hk with h | h
          · have := hm1 h; omega
          · have := hm2 h; omega
        have hin : decide (1 ≤ kind ∧ kind ≤ 2) = true := decide_eq_true (by omega)
        have spec2 : ∀ r, Ev (fun k => spec_DecodeClass.j1 k s (a : Int) kind (m : Int) (decide ((t.size : Int) < 4 + 2 * (m : Int)))) r → Ev (fun k => spec_DecodeClass.f k s (a : Int)) r := by
          intro r hr
          have st : Ev (fun k => spec_DecodeClass.j0 k s (a : Int) (s.size : Int) kind (m : Int)) r := by
            refine Ev.step (fun k => ?_) hr
            simp only [spec_DecodeClass.j0]
            rw [in_f, Option.bind_some, hin, if_pos rfl, wa, w64 (x := 2 * (m : Int)) (by omega) (by omega), w64 (x := 4 + 2 * (m : Int)) (by omega) (by omega)]
          refine spec1 r ?_
          rcases hk with h | h
          · have e := hm1 h
            refine evNeg (by omega) ?_
            rw [e] at st
            exact st
          · have e := hm2 h
            refine evPos h ?_
            rw [w64 (x := (c : Int) * 3) (by omega) (by omega), show (c : Int) * 3 = (m : Int) by omega]
            exact st
        have impl2 : ∀ r, Ev (fun k => impl_DecodeClass.j1 k t kind (c : Int) (4 + 2 * (m : Int))) r → Ev (fun k => impl_DecodeClass.f k s (a : Int)) r := by
          intro r hr
          refine impl1 r ?_
          rcases hk with h | h
          · have e := hm1 h
            refine evPos h ?_
            rw [w64 (x := 2 * (c : Int)) (by omega) (by omega), w64 (x := 4 + 2 * (c : Int)) (by omega) (by omega), show 4 + 2 * (c : Int) = 4 + 2 * (m : Int) by omega]
            exact hr
          · have e := hm2 h
            refine evNeg (by omega) (evPos h ?_)
            rw [w64 (x := 6 * (c : Int)) (by omega) (by omega), w64 (x := 4 + 6 * (c : Int)) (by omega) (by omega), show 4 + 6 * (c : Int) = 4 + 2 * (m : Int) by omega]
            exact hr
        by_cases hz : (t.size : Int) < 4 + 2 * (m : Int)
        · refine ⟨([], 0, 11), by simp, spec2 _ ?_, impl2 _ ?_⟩
          · rw [decide_eq_true hz]
            exact Ev.step (f := fun _ => some _) (fun k => by simp only [spec_DecodeClass.j1]; rfl) (Ev.now _)
          · exact Ev.step (f := fun _ => some _) (fun k => by simp only [impl_DecodeClass.j1]; rw [if_pos (by omega)]) (Ev.now _)
        · refine ⟨decM ((List.range c).map (rgAt t kind)) (t.extract 0 (4 + 2 * m)) (4 + 2 * (m : Int)), decM_len _ _ _, spec2 _ ?_, impl2 _ ?_⟩
          · rw [decide_eq_false hz]
            refine Ev.step (f := fun k => spec_DecodeClass.l0 k s (a : Int) kind (m : Int) [] 0) (fun k => ?_) (specLoop s t a et ha hs kind hk c m (by omega) hm (by omega) m 0 (by omega))
            simp only [spec_DecodeClass.j1]
            rw [if_neg (by simp), in_f, Option.bind_some, hin, if_pos rfl]
          · refine Ev.step (f := fun k => impl_DecodeClass.l0 k t kind (c : Int) (4 + 2 * (m : Int)) [] 0) (fun k => ?_) ?_
            · simp only [impl_DecodeClass.j1]
              rw [if_neg (by omega)]
            · have := implLoop t kind c (4 + 2 * (m : Int)) (by omega) hk (by omega) (by
                rcases hk with h | h
                · rw [if_pos h, hm1 h]
                · rw [if_neg (by omega), hm2 h]; push_cast; omega) (by omega) c 0 (by omega)
              rw [show ((4 + 2 * (m : Int))).toNat = 4 + 2 * m by omega] at this
              exact this
      · refine ⟨([], 0, 9), by simp, spec1 _ ?_, impl1 _ (evNeg (by omega) (evNeg (by omega) (Ev.now _)))⟩
        refine evNeg (by omega) ?_
        have hin : decide (1 ≤ kind ∧ kind ≤ 2) = false := decide_eq_false (by omega)
        refine Ev.step (f := fun k => spec_DecodeClass.j1 k s (a : Int) kind (c : Int) false) (fun k => ?_) ?_
        · simp only [spec_DecodeClass.j0]
          rw [in_f, Option.bind_some, hin, if_neg (by simp)]
        · refine Ev.step (f := fun _ => some _) (fun k => ?_) (Ev.now _)
          simp only [spec_DecodeClass.j1]
          rw [if_neg (by simp), in_f, Option.bind_some, hin, if_neg (by simp)]
  · refine ⟨([], 0, 2), by simp, ?_, ?_⟩
    · refine Ev.congr (f := fun _ => some _) (fun k => ?_) (Ev.now _)
      unfold spec_DecodeClass.f
      rw [in_f, Option.bind_some, decide_eq_false h, if_neg (by simp)]
    · refine Ev.step (f := fun _ => some _) (fun k => ?_) (Ev.now _)
      unfold impl_DecodeClass.f
      by_cases h0 : at_ < 0
      · rw [if_pos h0]
        simp only [impl_DecodeClass.j0]
        rfl
      · rw [if_neg h0, decide_eq_true (by omega)]
        simp only [impl_DecodeClass.j0]
        rfl
theorem FnExactDecodeClass : Owed := by
  intro s at_ _ _
  apply Ev.rounds
  by_cases ha : (s.size : Int) > 1048576
  · exact evPos ha (Ev.now true)
  refine evNeg ha ?_
  obtain ⟨⟨r, z, c⟩, hl, h1, h2⟩ := Decode_both s at_ (by omega)
  simp only at hl
  have er := eqInt64S_ev r (by omega)
  have mr := markInt64S_ev r 1 (by omega) (by omega) (by omega)
  have hr := heldInt64S_ev r.length 1 (by omega) (by omega) (by omega)
  refine Ev.step (fun k => by rw [laws_FnExactDecodeClass.j0]) (Ev.bind h1 (Ev.bind h2 (Ev.bind er (evPos rfl (evPos rfl ?_)))))
  refine Ev.step (fun k => by rw [laws_FnExactDecodeClass.j1]) (evNeg (by simp) ?_)
  refine Ev.step (fun k => by rw [laws_FnExactDecodeClass.j2]) ?_
  refine Ev.bind mr (Ev.bind hr (evNeg (by omega) ?_))
  refine Ev.step (fun k => by rw [laws_FnExactDecodeClass.j3]) (evPos rfl ?_)
  refine Ev.step (fun k => by rw [laws_FnExactDecodeClass.j4]) (Ev.bind h2 (Ev.bind er (evPos rfl (evPos rfl ?_))))
  refine Ev.step (fun k => by rw [laws_FnExactDecodeClass.j5]) (evNeg (by simp) ?_)
  refine Ev.step (fun k => by rw [laws_FnExactDecodeClass.j6]) ?_
  exact Ev.bind hr (evNeg (by omega) (evPos rfl (Ev.now true)))
end Go.Proofs.Ytdahcapolipnbaa.Pure
