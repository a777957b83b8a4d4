/- The plain statement of FnExactClassText: the program and the reference agree on every input that the guards let in. -/
import Derived.Test.YtdahcapolipnbaaArgFnExactClassText
namespace Go.Proofs.Ytdahcapolipnbaa.Pure
open Go.RowKit Go.Proofs.Ytdahcapolipnbaa.QFnExactClassText Go.Proofs.Ytdahcapolipnbaa.ArgFnExactClassText Go.Proofs.YtdahcapolipnbaaW.PrintWords Go.Proofs.YtdahcapolipnbaaW.PrintLast Go.Proofs.YtdahcapolipnbaaW.PrintMore
set_option linter.unusedVariables false
set_option linter.unusedSimpArgs false
-- part: base
theorem w64 {x : Int} (h : -9223372036854775808 ≤ x) (h' : x < 9223372036854775808) : wrap64 x = x := by
  unfold wrap64; omega
theorem evPos {α : Type} {c : Prop} [Decidable c] {g f : Nat → Option α} {r : α} (h : c) (k : Ev g r) : Ev (fun n => if c then g n else f n) r := by
  simpa only [if_pos h] using k
theorem evNeg {α : Type} {c : Prop} [Decidable c] {g f : Nat → Option α} {r : α} (h : ¬ c) (k : Ev f r) : Ev (fun n => if c then g n else f n) r := by
  simpa only [if_neg h] using k
theorem rd_get {xs : List Int} {i : Nat} (h : i < xs.length) : rd xs (i : Int) = xs[i] := by
  simp [rd, h]
/-- The numbers from s on, n of them. -/
def marks (s : Int) : Nat → List Int
  | 0 => []
  | n + 1 => s :: marks (s + 1) n
theorem marks_length (s : Int) (n : Nat) : (marks s n).length = n := by
  induction n generalizing s with
  | zero => rfl
  | succ n ih => simp [marks, ih]
theorem marks_get (s : Int) (n : Nat) : ∀ (i : Nat) (h : i < (marks s n).length), (marks s n)[i] = s + i := by
  induction n generalizing s with
  | zero => intro i h; simp [marks] at h
  | succ n ih =>
    intro i h
    cases i with
    | zero => simp [marks]
    | succ i => simp only [marks, List.getElem_cons_succ]; rw [ih]; push_cast; omega
theorem marks_snoc (s : Int) (n : Nat) : marks s (n + 1) = marks s n ++ [s + n] := by
  induction n generalizing s with
  | zero => simp [marks]
  | succ n ih => rw [marks, ih, marks]; simp; omega
-- part: eqInts
theorem eqInt64S_l0 (xs : List Int) (hn : xs.length ≤ 1099511627776) : ∀ (d i : Nat), i + d = xs.length → Ev (fun k => laws_eqInt64S.l0 k xs xs (i : Int)) true := by
  intro d
  induction d with
  | zero =>
    intro i h
    refine Ev.step (f := fun _ => some true) (fun k => ?_) (Ev.now _)
    simp only [laws_eqInt64S.l0]
    rw [if_neg (by omega)]
  | succ d ih =>
    intro i h
    refine Ev.step (fun k => ?_) (ih (i + 1) (by omega))
    simp only [laws_eqInt64S.l0]
    rw [if_pos (by omega), if_pos (by omega), if_pos (by omega), if_pos trivial, w64 (by omega) (by omega)]
    push_cast
    rfl
theorem eqInt64S_ev (xs : List Int) (hn : xs.length ≤ 1099511627776) : Ev (fun k => laws_eqInt64S.f k xs xs) true := by
  refine Ev.congr (fun k => ?_) (eqInt64S_l0 xs hn xs.length 0 (by omega))
  unfold laws_eqInt64S.f
  rw [if_pos rfl]; rfl
-- part: copyInts
theorem toInt64S_l0 (xs : List Int) (hn : xs.length ≤ 1099511627776) : ∀ (d i : Nat), i + d = xs.length → Ev (fun k => laws_toInt64S.l0 k xs (xs.take i ++ List.replicate d 0) (i : Int)) xs := by
  intro d
  induction d with
  | zero =>
    intro i h
    refine Ev.step (f := fun _ => some xs) (fun k => ?_) (Ev.now _)
    simp only [laws_toInt64S.l0]
    rw [if_neg (by omega)]
    simp [List.take_of_length_le (by omega : xs.length ≤ i)]
  | succ d ih =>
    intro i h
    refine Ev.step (fun k => ?_) (ih (i + 1) (by omega))
    simp only [laws_toInt64S.l0]
    rw [if_pos (by omega), if_pos (by omega), if_pos (by simp; omega), w64 (by omega) (by omega)]
    have e : (xs.take i ++ List.replicate (d + 1) 0).set ((i : Int)).toNat (rd xs i) = xs.take (i + 1) ++ List.replicate d 0 := by
      rw [rd_get (by omega)]
      apply List.ext_getElem
      · simp; omega
      · intro j h1 h2
        simp only [List.getElem_set, List.getElem_append, List.getElem_take, List.getElem_replicate, List.length_take, Int.toNat_natCast]
        by_cases hj : i = j
        · subst hj; simp; omega
        · rw [if_neg hj]
          by_cases hj2 : j < i
          · rw [dif_pos (by omega), dif_pos (by omega)]
          · rw [dif_neg (by omega), dif_neg (by omega)]
    rw [e]
    push_cast
    rfl
theorem toInt64S_ev (xs : List Int) (hn : xs.length ≤ 1099511627776) : Ev (fun k => laws_toInt64S.f k xs) xs := by
  refine Ev.congr (fun k => ?_) (toInt64S_l0 xs hn xs.length 0 (by omega))
  unfold laws_toInt64S.f
  rw [if_pos (by omega), if_pos (by omega)]
  simp
-- part: validClass
/-- What one place of a class obeys. -/
def okAt (xs : List Int) (j : Nat) : Prop := 0 ≤ rd xs j ∧ rd xs j ≤ 39 ∧ (0 < j → rd xs ((j : Int) - 1) < rd xs j)
def VC (xs : List Int) : Prop := ∀ j : Nat, j < xs.length → okAt xs j
theorem l23Ok_l0 (xs : List Int) (hn : xs.length ≤ 1048576) : ∀ (d i : Nat), i + d = xs.length → ∃ b, Ev (fun k => spec_l23Ok.l0 k xs (i : Int)) b ∧ (b = true ↔ ∀ j : Nat, i ≤ j → j < xs.length → okAt xs j) := by
  intro d
  induction d with
  | zero =>
    intro i h
    refine ⟨true, Ev.step (f := fun _ => some true) (fun k => ?_) (Ev.now _), by simp; omega⟩
    simp only [spec_l23Ok.l0]
    rw [if_neg (by omega)]
  | succ d ih =>
    intro i h
    by_cases hok : okAt xs i
    · obtain ⟨b, hb, hbi⟩ := ih (i + 1) (by omega)
      refine ⟨b, Ev.step (fun k => ?_) hb, ?_⟩
      · obtain ⟨o1, o2, o3⟩ := hok
        simp only [spec_l23Ok.l0, spec_l00In.f]
        rw [if_pos (by omega), if_pos (by omega), if_pos o1, decide_eq_true o2]
        simp only [Option.bind_some, if_true]
        rw [w64 (x := (i : Int) + 1) (by omega) (by omega), w64 (x := (i : Int) - 1) (by omega) (by omega)]
        push_cast
        by_cases hi : (i : Int) > 0
        · have := o3 (by omega)
          rw [if_pos hi, if_pos (by omega), if_pos (by omega), if_neg (by omega)]
        · rw [if_neg hi]
      · rw [hbi]
        constructor
        · intro H j h1 h2
          by_cases hj : j = i
          · subst hj; exact hok
          · exact H j (by omega) h2
        · intro H j h1 h2
          exact H j (by omega) h2
    · refine ⟨false, Ev.step (f := fun _ => some false) (fun k => ?_) (Ev.now _), ?_⟩
      · simp only [spec_l23Ok.l0, spec_l00In.f]
        rw [if_pos (by omega), if_pos (by omega)]
        by_cases o1 : rd xs i ≥ 0
        · rw [if_pos o1]
          by_cases o2 : rd xs i ≤ 39
          · rw [decide_eq_true o2]
            simp only [Option.bind_some, if_true]
            rw [w64 (x := (i : Int) - 1) (by omega) (by omega)]
            by_cases hi : (i : Int) > 0
            · rw [if_pos hi, if_pos (by omega), if_pos (by omega), if_pos]
              refine Int.not_lt.1 fun h3 => hok ⟨o1, o2, fun _ => h3⟩
            · exact absurd ⟨o1, o2, fun h => by omega⟩ hok
          · rw [decide_eq_false o2]; simp
        · rw [if_neg o1]; simp
      · simp only [Bool.false_eq_true, false_iff]
        exact fun H => hok (H i (by omega) (by omega))
theorem l23Ok_ev (xs : List Int) (hn : xs.length ≤ 1048576) : ∃ b, Ev (fun k => spec_l23Ok.f k xs) b ∧ (b = true ↔ VC xs) := by
  obtain ⟨b, hb, h⟩ := l23Ok_l0 xs hn xs.length 0 (by omega)
  refine ⟨b, hb, ?_⟩
  rw [h]
  unfold VC
  simp
theorem validClass_l0 (xs : List Int) (hn : xs.length ≤ 1048576) : ∀ (d i : Nat), i + d = xs.length → ∃ b, Ev (fun k => impl_ValidClass.l0 k xs xs (xs.length : Int) (i : Int)) b ∧ (b = true ↔ ∀ j : Nat, i ≤ j → j < xs.length → okAt xs j) := by
  intro d
  induction d with
  | zero =>
    intro i h
    refine ⟨true, Ev.step (f := fun _ => some true) (fun k => ?_) (Ev.now _), by simp; omega⟩
    simp only [impl_ValidClass.l0]
    rw [if_neg (by omega)]
  | succ d ih =>
    intro i h
    by_cases hok : okAt xs i
    · obtain ⟨b, hb, hbi⟩ := ih (i + 1) (by omega)
      refine ⟨b, Ev.step (fun k => ?_) hb, ?_⟩
      · obtain ⟨o1, o2, o3⟩ := hok
        simp only [impl_ValidClass.l0, impl_isGlyphNumber.f]
        rw [if_pos (by omega), if_pos (by omega), if_pos (by omega), if_pos o1, decide_eq_true (by omega)]
        simp only [Option.bind_some, if_true]
        rw [w64 (x := (i : Int) + 1) (by omega) (by omega), w64 (x := (i : Int) - 1) (by omega) (by omega)]
        push_cast
        by_cases hi : (i : Int) > 0
        · have := o3 (by omega)
          rw [if_pos hi, if_pos (by omega), if_pos (by omega), if_neg (by omega)]
        · rw [if_neg hi]
      · rw [hbi]
        constructor
        · intro H j h1 h2
          by_cases hj : j = i
          · subst hj; exact hok
          · exact H j (by omega) h2
        · intro H j h1 h2
          exact H j (by omega) h2
    · refine ⟨false, Ev.step (f := fun _ => some false) (fun k => ?_) (Ev.now _), ?_⟩
      · simp only [impl_ValidClass.l0, impl_isGlyphNumber.f]
        rw [if_pos (by omega), if_pos (by omega), if_pos (by omega)]
        by_cases o1 : rd xs i ≥ 0
        · rw [if_pos o1]
          by_cases o2 : rd xs i ≤ 39
          · rw [decide_eq_true (by omega)]
            simp only [Option.bind_some, if_true]
            rw [w64 (x := (i : Int) - 1) (by omega) (by omega)]
            by_cases hi : (i : Int) > 0
            · rw [if_pos hi, if_pos (by omega), if_pos (by omega), if_pos]
              refine Int.not_lt.1 fun h3 => hok ⟨o1, o2, fun _ => h3⟩
            · exact absurd ⟨o1, o2, fun h => by omega⟩ hok
          · rw [decide_eq_false (by omega)]; simp
        · rw [if_neg o1]; simp
      · simp only [Bool.false_eq_true, false_iff]
        exact fun H => hok (H i (by omega) (by omega))
theorem validClass_ev (xs : List Int) (hn : xs.length ≤ 1048576) : ∃ b, Ev (fun k => impl_ValidClass.f k xs) b ∧ (b = true ↔ VC xs) := by
  obtain ⟨b, hb, h⟩ := validClass_l0 xs hn xs.length 0 (by omega)
  refine ⟨b, hb, ?_⟩
  rw [h]
  unfold VC
  simp
theorem valid_both (xs : List Int) (hn : xs.length ≤ 1048576) : ∃ b, Ev (fun k => spec_l23Ok.f k xs) b ∧ Ev (fun k => impl_ValidClass.f k xs) b ∧ (b = true ↔ VC xs) := by
  obtain ⟨b, h1, h2⟩ := l23Ok_ev xs hn
  obtain ⟨c, h3, h4⟩ := validClass_ev xs hn
  obtain rfl : b = c := by rw [Bool.eq_iff_iff, h2, h4]
  exact ⟨b, h1, h3, h2⟩
-- part: sorted
theorem eq_of_strict : ∀ {xs ys : List Int}, xs.Pairwise (· < ·) → ys.Pairwise (· < ·) → (∀ x, x ∈ xs ↔ x ∈ ys) → xs = ys
  | [], [], _, _, _ => rfl
  | [], y :: ys, _, _, h => absurd ((h y).2 (List.mem_cons_self ..)) (by simp)
  | x :: xs, [], _, _, h => absurd ((h x).1 (List.mem_cons_self ..)) (by simp)
  | x :: xs, y :: ys, hx, hy, h => by
    have hx' := List.pairwise_cons.1 hx
    have hy' := List.pairwise_cons.1 hy
    have e : x = y := by
      rcases List.mem_cons.1 ((h x).1 (List.mem_cons_self ..)) with e | e
      · exact e
      · rcases List.mem_cons.1 ((h y).2 (List.mem_cons_self ..)) with e' | e'
        · exact e'.symm
        · have h1 := hx'.1 y e'
          have h2 := hy'.1 x e
          omega
    subst e
    refine congrArg (x :: ·) (eq_of_strict hx'.2 hy'.2 fun z => ⟨fun hz => ?_, fun hz => ?_⟩)
    · rcases List.mem_cons.1 ((h z).1 (List.mem_cons_of_mem _ hz)) with e | e
      · have := hx'.1 z hz; omega
      · exact e
    · rcases List.mem_cons.1 ((h z).2 (List.mem_cons_of_mem _ hz)) with e | e
      · have := hy'.1 z hz; omega
      · exact e
theorem VC.strict {xs : List Int} (h : VC xs) : xs.Pairwise (· < ·) := by
  rw [List.pairwise_iff_getElem]
  have key : ∀ (d i : Nat) (hi : i + d + 1 < xs.length), xs[i] < xs[i + d + 1] := by
    intro d
    induction d with
    | zero =>
      intro i hi
      have := (h (i + 1) hi).2.2 (by omega)
      rw [rd_get hi, show (((i + 1 : Nat) : Int) - 1) = (i : Int) by omega, rd_get (by omega)] at this
      exact this
    | succ d ih =>
      intro i hi
      have h1 := ih i (by omega)
      have := (h (i + (d + 1) + 1) hi).2.2 (by omega)
      rw [rd_get hi, show (((i + (d + 1) + 1 : Nat) : Int) - 1) = ((i + d + 1 : Nat) : Int) by omega, rd_get (by omega)] at this
      exact Int.lt_trans h1 this
  intro i j hi hj hij
  obtain ⟨d, rfl⟩ : ∃ d, j = i + d + 1 := ⟨j - i - 1, by omega⟩
  exact key d i hj
theorem VC.range {xs : List Int} (h : VC xs) {x : Int} (hx : x ∈ xs) : 0 ≤ x ∧ x ≤ 39 := by
  obtain ⟨i, hi, rfl⟩ := List.getElem_of_mem hx
  have := h i hi
  rw [okAt, rd_get hi] at this
  exact ⟨this.1, this.2.1⟩
theorem marks_mem (s : Int) (n : Nat) (x : Int) : x ∈ marks s n ↔ s ≤ x ∧ x < s + n := by
  induction n generalizing s with
  | zero => simp [marks]
  | succ n ih => simp only [marks, List.mem_cons, ih]; push_cast; omega
theorem marks_strict (s : Int) (n : Nat) : (marks s n).Pairwise (· < ·) := by
  induction n generalizing s with
  | zero => simp [marks]
  | succ n ih =>
    rw [marks, List.pairwise_cons]
    exact ⟨fun x hx => by have := (marks_mem _ _ _).1 hx; omega, ih _⟩
-- part: rangeRd
theorem rdR_get {xs : List S92} {i : Nat} (h : i < xs.length) : rd_T92 xs (i : Int) = xs[i] := by
  simp [rd_T92, h]
-- part: ranges
/-- One glyph more. -/
def joinR (out : List S92) (g : Int) : List S92 :=
  if 0 < out.length ∧ (rd_T92 out ((out.length : Int) - 1)).f1 = g - 1 then out.set (out.length - 1) ⟨(rd_T92 out ((out.length : Int) - 1)).f0, g⟩ else out ++ [⟨g, g⟩]
def rangesM (xs : List Int) : List S92 := xs.foldl joinR []
theorem joinR_length (out : List S92) (g : Int) : 0 < (joinR out g).length ∧ (joinR out g).length ≤ out.length + 1 := by
  unfold joinR
  split
  · rename_i h; simp; omega
  · simp
theorem joinR_last (out : List S92) (g : Int) : (rd_T92 (joinR out g) (((joinR out g).length : Int) - 1)).f1 = g := by
  obtain ⟨n, hn⟩ : ∃ n, (joinR out g).length = n + 1 := ⟨(joinR out g).length - 1, by have := joinR_length out g; omega⟩
  rw [hn, show (((n + 1 : Nat) : Int) - 1) = (n : Int) by omega, rdR_get (by omega)]
  unfold joinR at hn ⊢
  by_cases h : 0 < out.length ∧ (rd_T92 out ((out.length : Int) - 1)).f1 = g - 1
  · simp only [if_pos h, List.length_set] at hn ⊢
    simp [List.getElem_set, show out.length - 1 = n by omega]
  · simp only [if_neg h, List.length_append, List.length_singleton] at hn ⊢
    simp [List.getElem_append, show n = out.length by omega]
theorem implRanges_l0 (xs : List Int) (hn : xs.length ≤ 1048576) (hx : ∀ x ∈ xs, 0 ≤ x ∧ x ≤ 65535) : ∀ (d i : Nat) (out : List S92), i + d = xs.length → out.length ≤ i →
    Ev (fun k => impl_rangesOf.l0 k out xs (xs.length : Int) (i : Int)) ((xs.drop i).foldl joinR out) := by
  intro d
  induction d with
  | zero =>
    intro i out h ho
    refine Ev.step (f := fun _ => some _) (fun k => ?_) (Ev.now _)
    simp only [impl_rangesOf.l0]
    rw [if_neg (by omega), List.drop_of_length_le (by omega)]
    rfl
  | succ d ih =>
    intro i out h ho
    have hi : i < xs.length := by omega
    have hb := hx xs[i] (List.getElem_mem hi)
    rw [List.drop_eq_getElem_cons hi, List.foldl_cons]
    have hl := joinR_length out xs[i]
    refine Ev.step (fun k => ?_) (ih (i + 1) (joinR out xs[i]) (by omega) (by omega))
    simp only [impl_rangesOf.l0]
    rw [if_pos (by omega), if_pos (by omega), if_pos (by omega), rd_get hi, w64 (x := (i : Int) + 1) (by omega) (by omega), if_pos (by omega : out.length < 8796093022208), w64 (x := xs[i] - 1) (by omega) (by omega), w64 (x := (out.length : Int) - 1) (by omega) (by omega)]
    unfold joinR
    by_cases h1 : 0 < out.length
    · rw [if_pos (by omega), if_pos (by omega), if_pos (by omega)]
      by_cases h2 : (rd_T92 out ((out.length : Int) - 1)).f1 = xs[i] - 1
      · rw [if_pos h2, if_pos ⟨h1, h2⟩, show ((out.length : Int) - 1).toNat = out.length - 1 by omega]
        push_cast; rfl
      · rw [if_neg h2, if_neg (fun h => h2 h.2)]
        push_cast; rfl
    · rw [if_neg (by omega), if_neg (fun h => h1 h.1)]
      push_cast; rfl
theorem implRanges_ev (xs : List Int) (hn : xs.length ≤ 1048576) (hx : ∀ x ∈ xs, 0 ≤ x ∧ x ≤ 65535) : Ev (fun k => impl_rangesOf.f k xs) (rangesM xs) :=
  implRanges_l0 xs hn hx xs.length 0 [] (by omega) (by simp)
theorem specRanges_l0 (xs : List Int) (hn : xs.length ≤ 1048576) (hx : ∀ x ∈ xs, 0 ≤ x ∧ x ≤ 65535) : ∀ (d i : Nat) (out : List S92), i + d = xs.length → out.length ≤ i → (i = 0 → out = []) → (∀ j : Nat, i = j + 1 → 0 < out.length ∧ (rd_T92 out ((out.length : Int) - 1)).f1 = rd xs j) →
    Ev (fun k => spec_l23Ranges.l0 k xs out (i : Int)) ((xs.drop i).foldl joinR out) := by
  intro d
  induction d with
  | zero =>
    intro i out h ho h0 hj
    refine Ev.step (f := fun _ => some _) (fun k => ?_) (Ev.now _)
    simp only [spec_l23Ranges.l0]
    rw [if_neg (by omega), List.drop_of_length_le (by omega)]
    rfl
  | succ d ih =>
    intro i out h ho h0 hj
    have hi : i < xs.length := by omega
    have hb := hx xs[i] (List.getElem_mem hi)
    rw [List.drop_eq_getElem_cons hi, List.foldl_cons]
    have hl := joinR_length out xs[i]
    refine Ev.step (fun k => ?_) (ih (i + 1) (joinR out xs[i]) (by omega) (by omega) (by omega) (fun j e => ⟨hl.1, by rw [joinR_last, show j = i by omega, rd_get hi]⟩))
    simp only [spec_l23Ranges.l0]
    rw [if_pos (show (i : Int) < (xs.length : Int) by omega), rd_get hi, w64 (x := (i : Int) + 1) (by omega) (by omega), if_pos (by omega : out.length < 8796093022208)]
    unfold joinR
    cases i with
    | zero =>
      have e := h0 rfl
      subst e
      rw [if_neg (show ¬ (((0 : Nat) : Int) > 0) by omega), if_pos (show (0 : Int) ≤ ((0 : Nat) : Int) by omega), if_neg (by simp)]
      rfl
    | succ j =>
      obtain ⟨h1, h2⟩ := hj j rfl
      have hb' := hx xs[j] (List.getElem_mem (by omega))
      rw [if_pos (show ((j + 1 : Nat) : Int) > 0 by omega), if_pos (show (0 : Int) ≤ ((j + 1 : Nat) : Int) by omega), w64 (x := ((j + 1 : Nat) : Int) - 1) (by omega) (by omega), w64 (x := (out.length : Int) - 1) (by omega) (by omega), if_pos (by omega), if_pos (by omega), show (((j + 1 : Nat) : Int) - 1) = (j : Int) by omega, h2, rd_get (by omega), w64 (x := xs[j] + 1) (by omega) (by omega)]
      by_cases h3 : xs[j + 1] = xs[j] + 1
      · rw [if_pos h3, if_pos (show (0 : Int) ≤ (out.length : Int) - 1 by omega), if_pos (show (out.length : Int) - 1 < (out.length : Int) by omega), if_pos ⟨h1, by omega⟩, show ((out.length : Int) - 1).toNat = out.length - 1 by omega]
        push_cast; rfl
      · rw [if_neg h3, if_neg (fun h => h3 (by omega))]
        push_cast; rfl
theorem specRanges_ev (xs : List Int) (hn : xs.length ≤ 1048576) (hx : ∀ x ∈ xs, 0 ≤ x ∧ x ≤ 65535) : Ev (fun k => spec_l23Ranges.f k xs) (rangesM xs) :=
  specRanges_l0 xs hn hx xs.length 0 [] (by omega) (by simp) (by simp) (by simp)
theorem rangesM_length (xs : List Int) : (rangesM xs).length ≤ xs.length := by
  have key : ∀ (xs : List Int) (out : List S92), (xs.foldl joinR out).length ≤ out.length + xs.length := by
    intro xs
    induction xs with
    | nil => intro out; simp
    | cons x xs ih =>
      intro out
      have := ih (joinR out x)
      have := joinR_length out x
      simp only [List.foldl_cons, List.length_cons]
      omega
  simpa [rangesM] using key xs []
-- part: dec
open Go.Proofs.Ytdahcapolipnbaa.Gv
theorem bx_ext {a b : ByteArray} (h : a.data.toList = b.data.toList) : a = b := by
  cases a; cases b; simp only at h; congr 1; exact Array.toList_inj.1 h
theorem bx_app (a b : ByteArray) : (a ++ b).data.toList = a.data.toList ++ b.data.toList := by
  rw [ByteArray.data_append]; simp
theorem bx_assoc (a b c : ByteArray) : (a ++ b) ++ c = a ++ (b ++ c) := by
  apply bx_ext; simp only [bx_app, List.append_assoc]
theorem bx_size (a b : ByteArray) : (a ++ b).size = a.size + b.size := ByteArray.size_append
theorem bx_nil (a : ByteArray) : (⟨#[]⟩ : ByteArray) ++ a = a := by apply bx_ext; rw [bx_app]; rfl
theorem bx_nil' (a : ByteArray) : a ++ (⟨#[]⟩ : ByteArray) = a := by apply bx_ext; rw [bx_app]; simp
theorem son_app (xs ys : List Int) : strOfNums (xs ++ ys) = strOfNums xs ++ strOfNums ys := by
  apply bx_ext; rw [bx_app]; simp only [strOfNums_data, List.map_append]
theorem son_cons (x : Int) (xs : List Int) : strOfNums (x :: xs) = strOfNums [x] ++ strOfNums xs := son_app [x] xs
/-- A number's decimal form. -/
def decB (n : Int) : ByteArray := strOfNums (decL n)
theorem decL_len (n : Int) (h0 : -9223372036854775808 ≤ n) (h1 : n ≤ 9223372036854775807) : (decL n).length ≤ 20 := by
  have := digP_len 19 n.natAbs (by omega) (by omega)
  unfold decL
  split
  · rw [List.length_cons]; omega
  · omega
theorem decB_size (n : Int) (h0 : -9223372036854775808 ≤ n) (h1 : n ≤ 9223372036854775807) : (decB n).size ≤ 20 := by
  unfold decB
  rw [strOfNums_size]
  exact decL_len n h0 h1
theorem implDec (n : Int) (h0 : -9223372036854775808 ≤ n) (h1 : n ≤ 9223372036854775807) : impl_Decimal.f n = some (decB n) := by
  unfold impl_Decimal.f decF
  rw [if_pos ⟨h0, h1⟩]
  rfl
def digZ (u : Nat) : List Int := if u = 0 then [] else digP u
theorem digZ_step (u : Nat) (h : u ≠ 0) (acc : List Int) : digZ u ++ acc = digZ (u / 10) ++ ((48 + ((u % 10 : Nat) : Int)) :: acc) := by
  unfold digZ
  rw [if_neg h]
  by_cases h9 : u < 10
  · rw [digP_one h9, if_pos (by omega), show u % 10 = u by omega]; rfl
  · rw [digP_more h9, if_neg (by omega), List.append_assoc]; rfl
def finD (x0 : Int) (l : List Int) : ByteArray := if l.length = 0 then ⟨#[48]⟩ else if x0 < 0 then (⟨#[45]⟩ : ByteArray) ++ strOfNums l else strOfNums l
theorem specDec_l0 (x0 : Int) : ∀ (n u : Nat) (kk : Int) (acc : List Int), u < 10 ^ n → kk.natAbs = u → acc.length + n ≤ 20 → -9223372036854775808 ≤ kk → kk ≤ 9223372036854775807 →
    Ev (fun k => spec_l01Dec.l0 k x0 acc kk) (finD x0 (digZ u ++ acc)) := by
  intro n
  have base : ∀ (acc : List Int), acc.length ≤ 20 → Ev (fun k => spec_l01Dec.l0 k x0 acc 0) (finD x0 (digZ 0 ++ acc)) := by
    intro acc ha
    refine Ev.step (f := fun _ => some _) (fun k => ?_) (Ev.now _)
    simp only [spec_l01Dec.l0]
    rw [if_pos trivial]
    show _ = some (finD x0 acc)
    unfold finD
    by_cases h0 : acc.length = 0
    · rw [if_pos (by omega), if_pos h0]
    · rw [if_neg (by omega), if_neg h0]
      by_cases hs : x0 < 0
      · rw [if_pos hs, if_pos hs, if_pos (by rw [strOfNums_size]; omega)]
      · rw [if_neg hs, if_neg hs]
  induction n with
  | zero =>
    intro u kk acc hu hk ha _ _
    have hu0 : u = 0 := by simpa using hu
    obtain rfl : kk = 0 := by omega
    subst hu0
    exact base acc (by omega)
  | succ n ih =>
    intro u kk acc hu hk ha hb0 hb1
    by_cases h0 : u = 0
    · obtain rfl : kk = 0 := by omega
      subst h0
      exact base acc (by omega)
    · have hk0 : ¬ kk = 0 := by omega
      have hu10 : u / 10 < 10 ^ n := by rw [Nat.pow_succ] at hu; omega
      have ht : Int.tmod kk 10 = if kk < 0 then -((u % 10 : Nat) : Int) else ((u % 10 : Nat) : Int) := by
        split
        · rename_i hs
          have e : kk = -(u : Int) := by omega
          rw [e, Int.neg_tmod, Int.tmod_eq_emod_of_nonneg (by omega)]; push_cast; rfl
        · rename_i hs
          have e : kk = (u : Int) := by omega
          rw [e, Int.tmod_eq_emod_of_nonneg (by omega)]; push_cast; rfl
      have hd : Int.tdiv kk 10 = if kk < 0 then -((u / 10 : Nat) : Int) else ((u / 10 : Nat) : Int) := by
        split
        · rename_i hs
          have e : kk = -(u : Int) := by omega
          rw [e, Int.neg_tdiv, Int.tdiv_eq_ediv_of_nonneg (by omega)]; push_cast; rfl
        · rename_i hs
          have e : kk = (u : Int) := by omega
          rw [e, Int.tdiv_eq_ediv_of_nonneg (by omega)]; push_cast; rfl
      generalize hT : Int.tmod kk 10 = T at ht
      generalize hD : Int.tdiv kk 10 = D at hd
      have hD' : D.natAbs = u / 10 ∧ -9223372036854775808 ≤ D ∧ D ≤ 9223372036854775807 := by
        rw [hd]; split <;> omega
      rw [digZ_step u h0]
      refine Ev.step (fun k => ?_) (ih (u / 10) D ((48 + ((u % 10 : Nat) : Int)) :: acc) hu10 hD'.1 (by simp only [List.length_cons]; omega) hD'.2.1 hD'.2.2)
      simp only [spec_l01Dec.l0]
      rw [if_neg hk0, hT, hD, w64 (x := D) (by omega) (by omega)]
      by_cases hm : T < 0
      · have hTu : -T = ((u % 10 : Nat) : Int) := by
          by_cases hq : kk < 0
          · rw [if_pos hq] at ht; omega
          · rw [if_neg hq] at ht; omega
        rw [if_pos hm]
        simp only [Option.bind_some]
        rw [if_pos (by simp only [List.length_singleton]; omega), hTu, w64 (x := ((u % 10 : Nat) : Int)) (by omega) (by omega), w64 (by omega) (by omega), show (48 + ((u % 10 : Nat) : Int)) % 256 = 48 + ((u % 10 : Nat) : Int) by omega]
        rfl
      · have hTu : T = ((u % 10 : Nat) : Int) := by
          by_cases hq : kk < 0
          · rw [if_pos hq] at ht; omega
          · rw [if_neg hq] at ht; omega
        rw [if_neg hm]
        simp only [Option.bind_some]
        rw [if_pos (by simp only [List.length_singleton]; omega), hTu, w64 (by omega) (by omega), show (48 + ((u % 10 : Nat) : Int)) % 256 = 48 + ((u % 10 : Nat) : Int) by omega]
        rfl
theorem specDec_ev (n : Int) (h0 : -9223372036854775808 ≤ n) (h1 : n ≤ 9223372036854775807) : Ev (fun k => spec_l01Dec.f k n) (decB n) := by
  have e : decB n = finD n (digZ n.natAbs ++ []) := by
    rw [List.append_nil]
    unfold decB decL finD digZ
    by_cases hz : n.natAbs = 0
    · obtain rfl : n = 0 := by omega
      rw [if_pos hz, if_neg (show ¬ (0 : Int) < 0 by omega), hz, digP_one (by omega)]
      rfl
    · have hp := digP_pos n.natAbs
      rw [if_neg hz, if_neg (show ¬ (digP n.natAbs).length = 0 by omega)]
      by_cases hs : n < 0
      · rw [if_pos hs, if_pos hs, son_cons]; rfl
      · rw [if_neg hs, if_neg hs]
  rw [e]
  exact specDec_l0 n 20 n.natAbs n [] (by omega) rfl (by simp) h0 h1
-- part: classText
/-- A range's text. -/
def wordT (r : S92) : ByteArray := if r.f1 > r.f0 then decB r.f0 ++ ((⟨#[45]⟩ : ByteArray) ++ decB r.f1) else decB r.f0
def okR (r : S92) : Prop := (0 ≤ r.f0 ∧ r.f0 ≤ 65535) ∧ 0 ≤ r.f1 ∧ r.f1 ≤ 65535
theorem wordT_size (r : S92) (h : okR r) : (wordT r).size ≤ 41 := by
  have h0 := decB_size r.f0 (by have := h.1.1; omega) (by have := h.1.2; omega)
  have h1 := decB_size r.f1 (by have := h.2.1; omega) (by have := h.2.2; omega)
  unfold wordT
  split
  · rw [bx_size, bx_size]
    have : (⟨#[45]⟩ : ByteArray).size = 1 := rfl
    omega
  · omega
theorem joinR_ok (out : List S92) (g : Int) (ho : ∀ r ∈ out, okR r) (hg : 0 ≤ g ∧ g ≤ 65535) : ∀ r ∈ joinR out g, okR r := by
  intro r hr
  unfold joinR at hr
  split at hr
  · rename_i h
    rcases List.mem_or_eq_of_mem_set hr with h1 | h1
    · exact ho r h1
    · subst h1
      refine ⟨?_, hg⟩
      have hi : out.length - 1 < out.length := by omega
      have : rd_T92 out ((out.length : Int) - 1) = out[out.length - 1] := by
        rw [show ((out.length : Int) - 1) = ((out.length - 1 : Nat) : Int) by omega, rdR_get hi]
      simp only [this]
      exact (ho _ (List.getElem_mem hi)).1
  · rcases List.mem_append.1 hr with h1 | h1
    · exact ho r h1
    · rw [List.mem_singleton.1 h1]
      exact ⟨hg, hg⟩
theorem rangesM_ok (xs : List Int) (hx : ∀ x ∈ xs, 0 ≤ x ∧ x ≤ 65535) : ∀ r ∈ rangesM xs, okR r := by
  have key : ∀ (xs : List Int) (out : List S92), (∀ x ∈ xs, 0 ≤ x ∧ x ≤ 65535) → (∀ r ∈ out, okR r) → ∀ r ∈ xs.foldl joinR out, okR r := by
    intro xs
    induction xs with
    | nil => intro out _ ho; exact ho
    | cons x xs ih =>
      intro out hx ho
      rw [List.foldl_cons]
      exact ih _ (fun y hy => hx y (List.mem_cons_of_mem _ hy)) (joinR_ok out x ho (hx x List.mem_cons_self))
  exact key xs [] hx (by simp)
theorem joinB_size (sep : ByteArray) (xs : List ByteArray) (b : Nat) (hs : sep.size ≤ 1) (hx : ∀ x ∈ xs, x.size ≤ b) : (joinB sep xs).size ≤ xs.length * (b + 1) := by
  cases xs with
  | nil => exact Nat.zero_le _
  | cons x r =>
    have key : ∀ (r : List ByteArray) (a : ByteArray), (∀ x ∈ r, x.size ≤ b) → (r.foldl (fun a y => (a ++ sep) ++ y) a).size ≤ a.size + r.length * (b + 1) := by
      intro r
      induction r with
      | nil => intro a _; simp
      | cons y r ih =>
        intro a hr
        rw [List.foldl_cons]
        have := ih ((a ++ sep) ++ y) (fun z hz => hr z (List.mem_cons_of_mem _ hz))
        have hy := hr y List.mem_cons_self
        rw [bx_size, bx_size] at this
        rw [List.length_cons, Nat.succ_mul]
        omega
    have h1 := key r x (fun z hz => hx z (List.mem_cons_of_mem _ hz))
    have h2 := hx x List.mem_cons_self
    show (r.foldl (fun a y => (a ++ sep) ++ y) x).size ≤ _
    rw [List.length_cons, Nat.succ_mul]
    omega
theorem implText_l0 (sep : ByteArray) (hs : sep.size ≤ 1) (rs : List S92) (hn : rs.length ≤ 1048576) (hr : ∀ r ∈ rs, okR r) : ∀ (d i : Nat) (acc : List ByteArray), i + d = rs.length → acc = (rs.take i).map wordT →
    Ev (fun k => impl_classText.l0 k sep acc rs (rs.length : Int) (i : Int)) (joinB sep (rs.map wordT)) := by
  intro d
  induction d with
  | zero =>
    intro i acc h ha
    obtain rfl : i = rs.length := by omega
    rw [List.take_length] at ha
    have hb := joinB_size sep acc 41 hs (by rw [ha]; intro x hx; obtain ⟨r, h1, rfl⟩ := List.mem_map.1 hx; exact wordT_size r (hr r h1))
    have hl : acc.length = rs.length := by rw [ha, List.length_map]
    refine Ev.step (f := fun _ => some _) (fun k => ?_) (Ev.now _)
    simp only [impl_classText.l0]
    rw [if_neg (by omega)]
    unfold strings_Join.f joinF
    rw [if_pos ⟨by omega, by omega⟩, ha]
    rfl
  | succ d ih =>
    intro i acc h ha
    have hi : i < rs.length := by omega
    have ho := hr rs[i] (List.getElem_mem hi)
    have hl : acc.length = i := by rw [ha, List.length_map, List.length_take]; omega
    have h0 := decB_size rs[i].f0 (by have := ho.1.1; omega) (by have := ho.1.2; omega)
    have h1 := decB_size rs[i].f1 (by have := ho.2.1; omega) (by have := ho.2.2; omega)
    have e45 : (⟨#[45]⟩ : ByteArray).size = 1 := rfl
    refine Ev.step (fun k => ?_) (ih (i + 1) (acc ++ [wordT rs[i]]) (by omega) (by rw [ha, List.take_succ_eq_append_getElem hi, List.map_append]; rfl))
    simp only [impl_classText.l0]
    rw [if_pos (by omega), if_pos (by omega), if_pos (by omega), rdR_get hi, implDec _ (by have := ho.1.1; omega) (by have := ho.1.2; omega), w64 (x := (i : Int) + 1) (by omega) (by omega)]
    simp only [Option.bind_some]
    unfold wordT
    by_cases hc : rs[i].f1 > rs[i].f0
    · rw [if_pos hc, if_pos hc, implDec _ (by have := ho.2.1; omega) (by have := ho.2.2; omega)]
      simp only [Option.bind_some]
      rw [if_pos (by omega), if_pos (by rw [bx_size]; omega), if_pos (by omega)]
      push_cast; rfl
    · rw [if_neg hc, if_neg hc, if_pos (by omega)]
      push_cast; rfl
theorem implText_ev (sep : ByteArray) (hs : sep.size ≤ 1) (xs : List Int) (hn : xs.length ≤ 1048576) (hx : ∀ x ∈ xs, 0 ≤ x ∧ x ≤ 65535) : Ev (fun k => impl_classText.f k xs sep) (joinB sep ((rangesM xs).map wordT)) := by
  have := rangesM_length xs
  refine Ev.bind (implRanges_ev xs hn hx) ?_
  exact implText_l0 sep hs _ (by omega) (rangesM_ok xs hx) (rangesM xs).length 0 [] (by omega) (by simp)
theorem specText_l0 (rs : List S92) (hn : rs.length ≤ 1048576) (hr : ∀ r ∈ rs, okR r) : ∀ (d i : Nat) (out : ByteArray), i + d = rs.length → out.size ≤ i * 42 → out = joinB (⟨#[32]⟩ : ByteArray) ((rs.take i).map wordT) →
    Ev (fun k => spec_l23Text.l0 k rs out (i : Int)) (joinB (⟨#[32]⟩ : ByteArray) (rs.map wordT)) := by
  intro d
  induction d with
  | zero =>
    intro i out h hs ho
    obtain rfl : i = rs.length := by omega
    rw [List.take_length] at ho
    refine Ev.step (f := fun _ => some _) (fun k => ?_) (Ev.now _)
    simp only [spec_l23Text.l0]
    rw [if_neg (by omega), ho]
  | succ d ih =>
    intro i out h hs ho
    have hi : i < rs.length := by omega
    have hok := hr rs[i] (List.getElem_mem hi)
    have h0 := decB_size rs[i].f0 (by have := hok.1.1; omega) (by have := hok.1.2; omega)
    have h1 := decB_size rs[i].f1 (by have := hok.2.1; omega) (by have := hok.2.2; omega)
    have hw := wordT_size rs[i] hok
    have e45 : (⟨#[45]⟩ : ByteArray).size = 1 := rfl
    have e32 : (⟨#[32]⟩ : ByteArray).size = 1 := rfl
    -- from the separator's end on
    have tail : ∀ (o : ByteArray), o.size ≤ i * 42 + 1 → o ++ wordT rs[i] = joinB (⟨#[32]⟩ : ByteArray) ((rs.take (i + 1)).map wordT) → Ev (fun k => spec_l23Text.j1 k rs o (i : Int)) (joinB (⟨#[32]⟩ : ByteArray) (rs.map wordT)) := by
      intro o hos hoe
      have hnext := ih (i + 1) (o ++ wordT rs[i]) (by omega) (by rw [bx_size]; omega) hoe
      refine Ev.step (fun k => by rw [spec_l23Text.j1]) ?_
      refine evPos (by omega) (evPos (by omega) ?_)
      rw [rdR_get hi]
      refine Ev.bind (specDec_ev _ (by have := hok.1.1; omega) (by have := hok.1.2; omega)) ?_
      refine evPos (by omega) ?_
      rw [w64 (x := (i : Int) + 1) (by omega) (by omega)]
      unfold wordT at hnext
      by_cases hc : rs[i].f1 > rs[i].f0
      · rw [if_pos hc, ← bx_assoc] at hnext
        refine evPos hc (Ev.bind (specDec_ev _ (by have := hok.2.1; omega) (by have := hok.2.2; omega)) ?_)
        refine evPos (by omega) (evPos (by rw [bx_size, bx_size]; omega) ?_)
        exact hnext
      · rw [if_neg hc] at hnext
        exact evNeg hc hnext
    refine Ev.step (fun k => by rw [spec_l23Text.l0]) (evPos (by omega) ?_)
    cases i with
    | zero =>
      refine evNeg (by omega) (tail out (by omega) ?_)
      have : out = ⟨#[]⟩ := by rw [ho]; rfl
      rw [this, bx_nil, List.take_succ_eq_append_getElem hi]
      rfl
    | succ j =>
      refine evPos (by omega) (evPos (by omega) (tail _ (by rw [bx_size]; omega) ?_))
      rw [ho, List.take_succ_eq_append_getElem hi, List.map_append]
      have hne : (rs.take (j + 1)).map wordT ≠ [] := by
        intro e
        have := congrArg List.length e
        simp only [List.length_map, List.length_take, List.length_nil] at this
        omega
      obtain ⟨x, r, hxr⟩ := List.exists_cons_of_ne_nil hne
      rw [hxr]
      show _ = (r ++ [wordT rs[j + 1]]).foldl (fun a y => (a ++ (⟨#[32]⟩ : ByteArray)) ++ y) x
      rw [List.foldl_append]
      rfl
theorem specText_ev (xs : List Int) (hn : xs.length ≤ 1048576) (hx : ∀ x ∈ xs, 0 ≤ x ∧ x ≤ 65535) : Ev (fun k => spec_l23Text.f k xs) (joinB (⟨#[32]⟩ : ByteArray) ((rangesM xs).map wordT)) := by
  have := rangesM_length xs
  refine Ev.bind (specRanges_ev xs hn hx) ?_
  exact specText_l0 _ (by omega) (rangesM_ok xs hx) (rangesM xs).length 0 (⟨#[]⟩ : ByteArray) (by omega) (Nat.le_of_eq rfl) rfl
-- part: the law
theorem FnExactClassText : Owed := by
  intro a _
  apply Ev.rounds
  by_cases ha : (a.length : Int) > 1048576
  · exact evPos ha (Ev.now true)
  refine evNeg ha ?_
  have key : ∃ r : ByteArray, Ev (fun k => spec_ClassText.f k a) r ∧ Ev (fun k => impl_ClassText.f k a) r := by
    obtain ⟨x, hx, hx', hv⟩ := valid_both a (by omega)
    cases x with
    | false => exact ⟨⟨#[]⟩, Ev.bind hx (evNeg (by simp) (Ev.now _)), Ev.bind hx' (evNeg (by simp) (Ev.now _))⟩
    | true =>
      have hb : ∀ y ∈ a, 0 ≤ y ∧ y ≤ 65535 := fun y hy => by have := (hv.1 rfl).range hy; omega
      exact ⟨_, Ev.bind hx (evPos rfl (Ev.bind (specText_ev a (by omega) hb) (Ev.now _))), Ev.bind hx' (evPos rfl (Ev.bind (implText_ev _ (by decide) a (by omega) hb) (Ev.now _)))⟩
  obtain ⟨r, h1, h2⟩ := key
  have ta := toInt64S_ev a (by omega)
  have ea := eqInt64S_ev a (by omega)
  refine Ev.step (fun k => by rw [laws_FnExactClassText.j0]) ?_
  refine Ev.bind ta (Ev.bind h1 (Ev.bind ta (Ev.bind h2 (evPos rfl ?_))))
  refine Ev.step (fun k => by rw [laws_FnExactClassText.j1]) ?_
  exact Ev.bind ta (Ev.bind ea (evPos rfl (Ev.now true)))
end Go.Proofs.Ytdahcapolipnbaa.Pure
