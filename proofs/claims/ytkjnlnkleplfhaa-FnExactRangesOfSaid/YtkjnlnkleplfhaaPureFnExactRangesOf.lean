/- The plain statement of FnExactRangesOf: the program and the reference agree on every input that the guards let in. -/
import Derived.Test.YtkjnlnkleplfhaaArgFnExactRangesOf
namespace Go.Proofs.Ytkjnlnkleplfhaa.Pure
open Go.RowKit Go.Proofs.Ytkjnlnkleplfhaa.PFnExactRangesOf Go.Proofs.Ytkjnlnkleplfhaa.ArgFnExactRangesOf Go.Proofs.YtkjnlnkleplfhaaW.PrintWords Go.Proofs.YtkjnlnkleplfhaaW.PrintLast Go.Proofs.YtkjnlnkleplfhaaW.PrintMore
set_option linter.unusedVariables false
set_option linter.unusedSimpArgs false
-- part: base
theorem w64 {x : Int} (h : -9223372036854775808 ≤ x) (h' : x < 9223372036854775808) : wrap64 x = x := by
  unfold wrap64; omega
theorem evPos {α : Type} {c : Prop} [Decidable c] {g f : Nat → Option α} {r : α} (h : c) (k : Ev g r) : Ev (fun n => if c then g n else f n) r := by
  simpa only [if_pos h] using k
theorem evNeg {α : Type} {c : Prop} [Decidable c] {g f : Nat → Option α} {r : α} (h : ¬ c) (k : Ev f r) : Ev (fun n => if c then g n else f n) r := by
  simpa only [if_neg h] using k
theorem rd_get {xs : List Int} {i : Nat} (h : i < xs.length) : rd xs (i : Int) = xs[i] := by
  simp [rd, h]
/-- The numbers from s on, n of them. -/
def marks (s : Int) : Nat → List Int
  | 0 => []
  | n + 1 => s :: marks (s + 1) n
theorem marks_length (s : Int) (n : Nat) : (marks s n).length = n := by
  induction n generalizing s with
  | zero => rfl
  | succ n ih => simp [marks, ih]
theorem marks_get (s : Int) (n : Nat) : ∀ (i : Nat) (h : i < (marks s n).length), (marks s n)[i] = s + i := by
  induction n generalizing s with
  | zero => intro i h; simp [marks] at h
  | succ n ih =>
    intro i h
    cases i with
    | zero => simp [marks]
    | succ i => simp only [marks, List.getElem_cons_succ]; rw [ih]; push_cast; omega
theorem marks_snoc (s : Int) (n : Nat) : marks s (n + 1) = marks s n ++ [s + n] := by
  induction n generalizing s with
  | zero => simp [marks]
  | succ n ih => rw [marks, ih, marks]; simp; omega
-- part: copyInts
theorem toInt64S_l0 (xs : List Int) (hn : xs.length ≤ 1048576) : ∀ (d i : Nat), i + d = xs.length → Ev (fun k => laws_toInt64S.l0 k xs (xs.take i ++ List.replicate d 0) (i : Int)) xs := by
  intro d
  induction d with
  | zero =>
    intro i h
    refine Ev.step (f := fun _ => some xs) (fun k => ?_) (Ev.now _)
    simp only [laws_toInt64S.l0]
    rw [if_neg (by omega)]
    simp [List.take_of_length_le (by omega : xs.length ≤ i)]
  | succ d ih =>
    intro i h
    refine Ev.step (fun k => ?_) (ih (i + 1) (by omega))
    simp only [laws_toInt64S.l0]
    rw [if_pos (by omega), if_pos (by omega), if_pos (by simp; omega), w64 (by omega) (by omega)]
    have e : (xs.take i ++ List.replicate (d + 1) 0).set ((i : Int)).toNat (rd xs i) = xs.take (i + 1) ++ List.replicate d 0 := by
      rw [rd_get (by omega)]
      apply List.ext_getElem
      · simp; omega
      · intro j h1 h2
        simp only [List.getElem_set, List.getElem_append, List.getElem_take, List.getElem_replicate, List.length_take, Int.toNat_natCast]
        by_cases hj : i = j
        · subst hj; simp; omega
        · rw [if_neg hj]
          by_cases hj2 : j < i
          · rw [dif_pos (by omega), dif_pos (by omega)]
          · rw [dif_neg (by omega), dif_neg (by omega)]
    rw [e]
    push_cast
    rfl
theorem toInt64S_ev (xs : List Int) (hn : xs.length ≤ 1048576) : Ev (fun k => laws_toInt64S.f k xs) xs := by
  refine Ev.congr (fun k => ?_) (toInt64S_l0 xs hn xs.length 0 (by omega))
  unfold laws_toInt64S.f
  rw [if_pos (by omega), if_pos (by omega)]
  simp
theorem eqInt64S_l0 (xs : List Int) (hn : xs.length ≤ 1048576) : ∀ (d i : Nat), i + d = xs.length → Ev (fun k => laws_eqInt64S.l0 k xs xs (i : Int)) true := by
  intro d
  induction d with
  | zero =>
    intro i h
    refine Ev.step (f := fun _ => some true) (fun k => ?_) (Ev.now _)
    simp only [laws_eqInt64S.l0]
    rw [if_neg (by omega)]
  | succ d ih =>
    intro i h
    refine Ev.step (fun k => ?_) (ih (i + 1) (by omega))
    simp only [laws_eqInt64S.l0]
    rw [if_pos (by omega), if_pos (by omega), if_pos (by omega), if_pos trivial, w64 (by omega) (by omega)]
    push_cast
    rfl
theorem eqInt64S_ev (xs : List Int) (hn : xs.length ≤ 1048576) : Ev (fun k => laws_eqInt64S.f k xs xs) true := by
  refine Ev.congr (fun k => ?_) (eqInt64S_l0 xs hn xs.length 0 (by omega))
  unfold laws_eqInt64S.f
  rw [if_pos rfl]; rfl
-- part: markInts
theorem markInt64S_l0 (n : Nat) (s : Int) (hs : 0 ≤ s) (hs2 : s ≤ 4611686018427387904) (hn : n ≤ 1048576) : ∀ (d i : Nat) (xs : List Int), xs.length = n → i + d = n → xs.take i = marks s i →
    Ev (fun k => laws_markInt64S.l0 k xs (s + i) (i : Int)) (s + n, marks s n) := by
  intro d
  induction d with
  | zero =>
    intro i xs hl h ht
    refine Ev.step (f := fun _ => some (s + n, marks s n)) (fun k => ?_) (Ev.now _)
    simp only [laws_markInt64S.l0]
    rw [if_neg (by omega)]
    obtain rfl : i = n := by omega
    rw [List.take_of_length_le (by omega)] at ht
    rw [ht]
  | succ d ih =>
    intro i xs hl h ht
    have ht' : (xs.set i (s + i)).take (i + 1) = marks s (i + 1) := by
      rw [marks_snoc, ← ht]
      apply List.ext_getElem
      · simp; omega
      · intro j h1 h2
        simp at h1
        simp only [List.getElem_take, List.getElem_set, List.getElem_append, List.length_take]
        by_cases hj : i = j
        · subst hj
          rw [if_pos rfl, dif_neg (by omega)]
          simp [show min i xs.length = i by omega]
        · rw [if_neg hj, dif_pos (by omega)]
    refine Ev.step (fun k => ?_) (ih (i + 1) (xs.set i (s + i)) (by simpa using hl) (by omega) ht')
    simp only [laws_markInt64S.l0]
    rw [if_pos (by omega), if_pos (by omega), w64 (x := s + (i : Int) + 1) (by omega) (by omega), w64 (x := (i : Int) + 1) (by omega) (by omega)]
    simp only [Int.toNat_natCast]
    push_cast
    rw [Int.add_assoc]
theorem markInt64S_ev (xs : List Int) (s : Int) (hs : 0 ≤ s) (hs2 : s ≤ 4611686018427387904) (hn : xs.length ≤ 1048576) : Ev (fun k => laws_markInt64S.f k xs s) (s + xs.length, marks s xs.length) := by
  refine Ev.congr (fun k => ?_) (markInt64S_l0 xs.length s hs hs2 hn xs.length 0 xs rfl (by omega) (by simp [marks]))
  unfold laws_markInt64S.f
  simp
-- part: validClass
/-- What one place of a class obeys. -/
def okAt (xs : List Int) (j : Nat) : Prop := 0 ≤ rd xs j ∧ rd xs j ≤ 39 ∧ (0 < j → rd xs ((j : Int) - 1) < rd xs j)
def VC (xs : List Int) : Prop := ∀ j : Nat, j < xs.length → okAt xs j
theorem l23Ok_l0 (xs : List Int) (hn : xs.length ≤ 1048576) : ∀ (d i : Nat), i + d = xs.length → ∃ b, Ev (fun k => spec_l23Ok.l0 k xs (i : Int)) b ∧ (b = true ↔ ∀ j : Nat, i ≤ j → j < xs.length → okAt xs j) := by
  intro d
  induction d with
  | zero =>
    intro i h
    refine ⟨true, Ev.step (f := fun _ => some true) (fun k => ?_) (Ev.now _), by simp; omega⟩
    simp only [spec_l23Ok.l0]
    rw [if_neg (by omega)]
  | succ d ih =>
    intro i h
    by_cases hok : okAt xs i
    · obtain ⟨b, hb, hbi⟩ := ih (i + 1) (by omega)
      refine ⟨b, Ev.step (fun k => ?_) hb, ?_⟩
      · obtain ⟨o1, o2, o3⟩ := hok
        simp only [spec_l23Ok.l0, spec_l00In.f]
        rw [if_pos (by omega), if_pos (by omega), if_pos o1, decide_eq_true o2]
        simp only [Option.bind_some, if_true]
        rw [w64 (x := (i : Int) + 1) (by omega) (by omega), w64 (x := (i : Int) - 1) (by omega) (by omega)]
        push_cast
        by_cases hi : (i : Int) > 0
        · have := o3 (by omega)
          rw [if_pos hi, if_pos (by omega), if_pos (by omega), if_neg (by omega)]
        · rw [if_neg hi]
      · rw [hbi]
        constructor
        · intro H j h1 h2
          by_cases hj : j = i
          · subst hj; exact hok
          · exact H j (by omega) h2
        · intro H j h1 h2
          exact H j (by omega) h2
    · refine ⟨false, Ev.step (f := fun _ => some false) (fun k => ?_) (Ev.now _), ?_⟩
      · simp only [spec_l23Ok.l0, spec_l00In.f]
        rw [if_pos (by omega), if_pos (by omega)]
        by_cases o1 : rd xs i ≥ 0
        · rw [if_pos o1]
          by_cases o2 : rd xs i ≤ 39
          · rw [decide_eq_true o2]
            simp only [Option.bind_some, if_true]
            rw [w64 (x := (i : Int) - 1) (by omega) (by omega)]
            by_cases hi : (i : Int) > 0
            · rw [if_pos hi, if_pos (by omega), if_pos (by omega), if_pos]
              refine Int.not_lt.1 fun h3 => hok ⟨o1, o2, fun _ => h3⟩
            · exact absurd ⟨o1, o2, fun h => by omega⟩ hok
          · rw [decide_eq_false o2]; simp
        · rw [if_neg o1]; simp
      · simp only [Bool.false_eq_true, false_iff]
        exact fun H => hok (H i (by omega) (by omega))
theorem l23Ok_ev (xs : List Int) (hn : xs.length ≤ 1048576) : ∃ b, Ev (fun k => spec_l23Ok.f k xs) b ∧ (b = true ↔ VC xs) := by
  obtain ⟨b, hb, h⟩ := l23Ok_l0 xs hn xs.length 0 (by omega)
  refine ⟨b, hb, ?_⟩
  rw [h]
  unfold VC
  simp
theorem validClass_l0 (xs : List Int) (hn : xs.length ≤ 1048576) : ∀ (d i : Nat), i + d = xs.length → ∃ b, Ev (fun k => impl_ValidClass.l0 k xs xs (xs.length : Int) (i : Int)) b ∧ (b = true ↔ ∀ j : Nat, i ≤ j → j < xs.length → okAt xs j) := by
  intro d
  induction d with
  | zero =>
    intro i h
    refine ⟨true, Ev.step (f := fun _ => some true) (fun k => ?_) (Ev.now _), by simp; omega⟩
    simp only [impl_ValidClass.l0]
    rw [if_neg (by omega)]
  | succ d ih =>
    intro i h
    by_cases hok : okAt xs i
    · obtain ⟨b, hb, hbi⟩ := ih (i + 1) (by omega)
      refine ⟨b, Ev.step (fun k => ?_) hb, ?_⟩
      · obtain ⟨o1, o2, o3⟩ := hok
        simp only [impl_ValidClass.l0, impl_isGlyphNumber.f]
        rw [if_pos (by omega), if_pos (by omega), if_pos (by omega), if_pos o1, decide_eq_true (by omega)]
        simp only [Option.bind_some, if_true]
        rw [w64 (x := (i : Int) + 1) (by omega) (by omega), w64 (x := (i : Int) - 1) (by omega) (by omega)]
        push_cast
        by_cases hi : (i : Int) > 0
        · have := o3 (by omega)
          rw [if_pos hi, if_pos (by omega), if_pos (by omega), if_neg (by omega)]
        · rw [if_neg hi]
      · rw [hbi]
        constructor
        · intro H j h1 h2
          by_cases hj : j = i
          · subst hj; exact hok
          · exact H j (by omega) h2
        · intro H j h1 h2
          exact H j (by omega) h2
    · refine ⟨false, Ev.step (f := fun _ => some false) (fun k => ?_) (Ev.now _), ?_⟩
      · simp only [impl_ValidClass.l0, impl_isGlyphNumber.f]
        rw [if_pos (by omega), if_pos (by omega), if_pos (by omega)]
        by_cases o1 : rd xs i ≥ 0
        · rw [if_pos o1]
          by_cases o2 : rd xs i ≤ 39
          · rw [decide_eq_true (by omega)]
            simp only [Option.bind_some, if_true]
            rw [w64 (x := (i : Int) - 1) (by omega) (by omega)]
            by_cases hi : (i : Int) > 0
            · rw [if_pos hi, if_pos (by omega), if_pos (by omega), if_pos]
              refine Int.not_lt.1 fun h3 => hok ⟨o1, o2, fun _ => h3⟩
            · exact absurd ⟨o1, o2, fun h => by omega⟩ hok
          · rw [decide_eq_false (by omega)]; simp
        · rw [if_neg o1]; simp
      · simp only [Bool.false_eq_true, false_iff]
        exact fun H => hok (H i (by omega) (by omega))
theorem validClass_ev (xs : List Int) (hn : xs.length ≤ 1048576) : ∃ b, Ev (fun k => impl_ValidClass.f k xs) b ∧ (b = true ↔ VC xs) := by
  obtain ⟨b, hb, h⟩ := validClass_l0 xs hn xs.length 0 (by omega)
  refine ⟨b, hb, ?_⟩
  rw [h]
  unfold VC
  simp
theorem valid_both (xs : List Int) (hn : xs.length ≤ 1048576) : ∃ b, Ev (fun k => spec_l23Ok.f k xs) b ∧ Ev (fun k => impl_ValidClass.f k xs) b ∧ (b = true ↔ VC xs) := by
  obtain ⟨b, h1, h2⟩ := l23Ok_ev xs hn
  obtain ⟨c, h3, h4⟩ := validClass_ev xs hn
  obtain rfl : b = c := by rw [Bool.eq_iff_iff, h2, h4]
  exact ⟨b, h1, h3, h2⟩
-- part: sorted
theorem eq_of_strict : ∀ {xs ys : List Int}, xs.Pairwise (· < ·) → ys.Pairwise (· < ·) → (∀ x, x ∈ xs ↔ x ∈ ys) → xs = ys
  | [], [], _, _, _ => rfl
  | [], y :: ys, _, _, h => absurd ((h y).2 (List.mem_cons_self ..)) (by simp)
  | x :: xs, [], _, _, h => absurd ((h x).1 (List.mem_cons_self ..)) (by simp)
  | x :: xs, y :: ys, hx, hy, h => by
    have hx' := List.pairwise_cons.1 hx
    have hy' := List.pairwise_cons.1 hy
    have e : x = y := by
      rcases List.mem_cons.1 ((h x).1 (List.mem_cons_self ..)) with e | e
      · exact e
      · rcases List.mem_cons.1 ((h y).2 (List.mem_cons_self ..)) with e' | e'
        · exact e'.symm
        · have h1 := hx'.1 y e'
          have h2 := hy'.1 x e
          omega
    subst e
    refine congrArg (x :: ·) (eq_of_strict hx'.2 hy'.2 fun z => ⟨fun hz => ?_, fun hz => ?_⟩)
    · rcases List.mem_cons.1 ((h z).1 (List.mem_cons_of_mem _ hz)) with e | e
      · have := hx'.1 z hz; omega
      · exact e
    · rcases List.mem_cons.1 ((h z).2 (List.mem_cons_of_mem _ hz)) with e | e
      · have := hy'.1 z hz; omega
      · exact e
theorem VC.strict {xs : List Int} (h : VC xs) : xs.Pairwise (· < ·) := by
  rw [List.pairwise_iff_getElem]
  have key : ∀ (d i : Nat) (hi : i + d + 1 < xs.length), xs[i] < xs[i + d + 1] := by
    intro d
    induction d with
    | zero =>
      intro i hi
      have := (h (i + 1) hi).2.2 (by omega)
      rw [rd_get hi, show (((i + 1 : Nat) : Int) - 1) = (i : Int) by omega, rd_get (by omega)] at this
      exact this
    | succ d ih =>
      intro i hi
      have h1 := ih i (by omega)
      have := (h (i + (d + 1) + 1) hi).2.2 (by omega)
      rw [rd_get hi, show (((i + (d + 1) + 1 : Nat) : Int) - 1) = ((i + d + 1 : Nat) : Int) by omega, rd_get (by omega)] at this
      exact Int.lt_trans h1 this
  intro i j hi hj hij
  obtain ⟨d, rfl⟩ : ∃ d, j = i + d + 1 := ⟨j - i - 1, by omega⟩
  exact key d i hj
theorem VC.range {xs : List Int} (h : VC xs) {x : Int} (hx : x ∈ xs) : 0 ≤ x ∧ x ≤ 39 := by
  obtain ⟨i, hi, rfl⟩ := List.getElem_of_mem hx
  have := h i hi
  rw [okAt, rd_get hi] at this
  exact ⟨this.1, this.2.1⟩
theorem marks_mem (s : Int) (n : Nat) (x : Int) : x ∈ marks s n ↔ s ≤ x ∧ x < s + n := by
  induction n generalizing s with
  | zero => simp [marks]
  | succ n ih => simp only [marks, List.mem_cons, ih]; push_cast; omega
theorem marks_strict (s : Int) (n : Nat) : (marks s n).Pairwise (· < ·) := by
  induction n generalizing s with
  | zero => simp [marks]
  | succ n ih =>
    rw [marks, List.pairwise_cons]
    exact ⟨fun x hx => by have := (marks_mem _ _ _).1 hx; omega, ih _⟩
-- part: ranges
theorem rdR_get {xs : List S88} {i : Nat} (h : i < xs.length) : rd_T88 xs (i : Int) = xs[i] := by
  simp [rd_T88, h]
/-- One glyph more. -/
def joinR (out : List S88) (g : Int) : List S88 :=
  if 0 < out.length ∧ (rd_T88 out ((out.length : Int) - 1)).f1 = g - 1 then out.set (out.length - 1) ⟨(rd_T88 out ((out.length : Int) - 1)).f0, g⟩ else out ++ [⟨g, g⟩]
def rangesM (xs : List Int) : List S88 := xs.foldl joinR []
theorem joinR_length (out : List S88) (g : Int) : 0 < (joinR out g).length ∧ (joinR out g).length ≤ out.length + 1 := by
  unfold joinR
  split
  · rename_i h; simp; omega
  · simp
theorem joinR_last (out : List S88) (g : Int) : (rd_T88 (joinR out g) (((joinR out g).length : Int) - 1)).f1 = g := by
  obtain ⟨n, hn⟩ : ∃ n, (joinR out g).length = n + 1 := ⟨(joinR out g).length - 1, by have := joinR_length out g; omega⟩
  rw [hn, show (((n + 1 : Nat) : Int) - 1) = (n : Int) by omega, rdR_get (by omega)]
  unfold joinR at hn ⊢
  by_cases h : 0 < out.length ∧ (rd_T88 out ((out.length : Int) - 1)).f1 = g - 1
  · simp only [if_pos h, List.length_set] at hn ⊢
    simp [List.getElem_set, show out.length - 1 = n by omega]
  · simp only [if_neg h, List.length_append, List.length_singleton] at hn ⊢
    simp [List.getElem_append, show n = out.length by omega]
theorem implRanges_l0 (xs : List Int) (hn : xs.length ≤ 1048576) (hx : ∀ x ∈ xs, 0 ≤ x ∧ x ≤ 65535) : ∀ (d i : Nat) (out : List S88), i + d = xs.length → out.length ≤ i →
    Ev (fun k => impl_rangesOf.l0 k out xs (xs.length : Int) (i : Int)) ((xs.drop i).foldl joinR out) := by
  intro d
  induction d with
  | zero =>
    intro i out h ho
    refine Ev.step (f := fun _ => some _) (fun k => ?_) (Ev.now _)
    simp only [impl_rangesOf.l0]
    rw [if_neg (by omega), List.drop_of_length_le (by omega)]
    rfl
  | succ d ih =>
    intro i out h ho
    have hi : i < xs.length := by omega
    have hb := hx xs[i] (List.getElem_mem hi)
    rw [List.drop_eq_getElem_cons hi, List.foldl_cons]
    have hl := joinR_length out xs[i]
    refine Ev.step (fun k => ?_) (ih (i + 1) (joinR out xs[i]) (by omega) (by omega))
    simp only [impl_rangesOf.l0]
    rw [if_pos (by omega), if_pos (by omega), if_pos (by omega), rd_get hi, w64 (x := (i : Int) + 1) (by omega) (by omega), if_pos (by omega : out.length < 8796093022208), w64 (x := xs[i] - 1) (by omega) (by omega), w64 (x := (out.length : Int) - 1) (by omega) (by omega)]
    unfold joinR
    by_cases h1 : 0 < out.length
    · rw [if_pos (by omega), if_pos (by omega), if_pos (by omega)]
      by_cases h2 : (rd_T88 out ((out.length : Int) - 1)).f1 = xs[i] - 1
      · rw [if_pos h2, if_pos ⟨h1, h2⟩, show ((out.length : Int) - 1).toNat = out.length - 1 by omega]
        push_cast; rfl
      · rw [if_neg h2, if_neg (fun h => h2 h.2)]
        push_cast; rfl
    · rw [if_neg (by omega), if_neg (fun h => h1 h.1)]
      push_cast; rfl
theorem implRanges_ev (xs : List Int) (hn : xs.length ≤ 1048576) (hx : ∀ x ∈ xs, 0 ≤ x ∧ x ≤ 65535) : Ev (fun k => impl_rangesOf.f k xs) (rangesM xs) :=
  implRanges_l0 xs hn hx xs.length 0 [] (by omega) (by simp)
theorem specRanges_l0 (xs : List Int) (hn : xs.length ≤ 1048576) (hx : ∀ x ∈ xs, 0 ≤ x ∧ x ≤ 65535) : ∀ (d i : Nat) (out : List S88), i + d = xs.length → out.length ≤ i → (i = 0 → out = []) → (∀ j : Nat, i = j + 1 → 0 < out.length ∧ (rd_T88 out ((out.length : Int) - 1)).f1 = rd xs j) →
    Ev (fun k => spec_l23Ranges.l0 k xs out (i : Int)) ((xs.drop i).foldl joinR out) := by
  intro d
  induction d with
  | zero =>
    intro i out h ho h0 hj
    refine Ev.step (f := fun _ => some _) (fun k => ?_) (Ev.now _)
    simp only [spec_l23Ranges.l0]
    rw [if_neg (by omega), List.drop_of_length_le (by omega)]
    rfl
  | succ d ih =>
    intro i out h ho h0 hj
    have hi : i < xs.length := by omega
    have hb := hx xs[i] (List.getElem_mem hi)
    rw [List.drop_eq_getElem_cons hi, List.foldl_cons]
    have hl := joinR_length out xs[i]
    refine Ev.step (fun k => ?_) (ih (i + 1) (joinR out xs[i]) (by omega) (by omega) (by omega) (fun j e => ⟨hl.1, by rw [joinR_last, show j = i by omega, rd_get hi]⟩))
    simp only [spec_l23Ranges.l0]
    rw [if_pos (show (i : Int) < (xs.length : Int) by omega), rd_get hi, w64 (x := (i : Int) + 1) (by omega) (by omega), if_pos (by omega : out.length < 8796093022208)]
    unfold joinR
    cases i with
    | zero =>
      have e := h0 rfl
      subst e
      rw [if_neg (show ¬ (((0 : Nat) : Int) > 0) by omega), if_pos (show (0 : Int) ≤ ((0 : Nat) : Int) by omega), if_neg (by simp)]
      rfl
    | succ j =>
      obtain ⟨h1, h2⟩ := hj j rfl
      have hb' := hx xs[j] (List.getElem_mem (by omega))
      rw [if_pos (show ((j + 1 : Nat) : Int) > 0 by omega), if_pos (show (0 : Int) ≤ ((j + 1 : Nat) : Int) by omega), w64 (x := ((j + 1 : Nat) : Int) - 1) (by omega) (by omega), w64 (x := (out.length : Int) - 1) (by omega) (by omega), if_pos (by omega), if_pos (by omega), show (((j + 1 : Nat) : Int) - 1) = (j : Int) by omega, h2, rd_get (by omega), w64 (x := xs[j] + 1) (by omega) (by omega)]
      by_cases h3 : xs[j + 1] = xs[j] + 1
      · rw [if_pos h3, if_pos (show (0 : Int) ≤ (out.length : Int) - 1 by omega), if_pos (show (out.length : Int) - 1 < (out.length : Int) by omega), if_pos ⟨h1, by omega⟩, show ((out.length : Int) - 1).toNat = out.length - 1 by omega]
        push_cast; rfl
      · rw [if_neg h3, if_neg (fun h => h3 (by omega))]
        push_cast; rfl
theorem specRanges_ev (xs : List Int) (hn : xs.length ≤ 1048576) (hx : ∀ x ∈ xs, 0 ≤ x ∧ x ≤ 65535) : Ev (fun k => spec_l23Ranges.f k xs) (rangesM xs) :=
  specRanges_l0 xs hn hx xs.length 0 [] (by omega) (by simp) (by simp) (by simp)
theorem rangesM_length (xs : List Int) : (rangesM xs).length ≤ xs.length := by
  have key : ∀ (xs : List Int) (out : List S88), (xs.foldl joinR out).length ≤ out.length + xs.length := by
    intro xs
    induction xs with
    | nil => intro out; simp
    | cons x xs ih =>
      intro out
      have := ih (joinR out x)
      have := joinR_length out x
      simp only [List.foldl_cons, List.length_cons]
      omega
  simpa [rangesM] using key xs []
-- part: rangeLists
theorem eqGlyphRangeS_l0 (xs : List S88) (hn : xs.length ≤ 1048576) : ∀ (d i : Nat), i + d = xs.length → Ev (fun k => laws_eqGlyphRangeS.l0 k xs xs (i : Int)) true := by
  intro d
  induction d with
  | zero =>
    intro i h
    refine Ev.step (f := fun _ => some true) (fun k => ?_) (Ev.now _)
    simp only [laws_eqGlyphRangeS.l0]
    rw [if_neg (by omega)]
  | succ d ih =>
    intro i h
    refine Ev.step (fun k => ?_) (ih (i + 1) (by omega))
    simp only [laws_eqGlyphRangeS.l0, laws_eqGlyphRange.f]
    rw [if_pos (by omega), if_pos (by omega), if_pos (by omega)]
    simp only [if_true, Option.bind_some]
    rw [w64 (by omega) (by omega)]
    push_cast
    rfl
theorem eqGlyphRangeS_ev (xs : List S88) (hn : xs.length ≤ 1048576) : Ev (fun k => laws_eqGlyphRangeS.f k xs xs) true := by
  refine Ev.congr (fun k => ?_) (eqGlyphRangeS_l0 xs hn xs.length 0 (by omega))
  unfold laws_eqGlyphRangeS.f
  rw [if_pos rfl]; rfl
def marksR (s : Int) : Nat → List S88
  | 0 => []
  | n + 1 => ⟨s, s + 1⟩ :: marksR (s + 2) n
theorem marksR_length (s : Int) (n : Nat) : (marksR s n).length = n := by
  induction n generalizing s with
  | zero => rfl
  | succ n ih => simp [marksR, ih]
theorem marksR_get (s : Int) (n : Nat) : ∀ (i : Nat) (h : i < (marksR s n).length), (marksR s n)[i] = ⟨s + 2 * i, s + 2 * i + 1⟩ := by
  induction n generalizing s with
  | zero => intro i h; simp [marksR] at h
  | succ n ih =>
    intro i h
    cases i with
    | zero => simp [marksR]
    | succ i =>
      simp only [marksR, List.getElem_cons_succ]; rw [ih]
      rw [show s + 2 + 2 * (i : Int) = s + 2 * ((i + 1 : Nat) : Int) by omega]
theorem marksR_snoc (s : Int) (n : Nat) : marksR s (n + 1) = marksR s n ++ [⟨s + 2 * n, s + 2 * n + 1⟩] := by
  induction n generalizing s with
  | zero => simp [marksR]
  | succ n ih =>
    rw [marksR, ih, marksR, List.cons_append, show s + 2 + 2 * (n : Int) = s + 2 * ((n + 1 : Nat) : Int) by omega]
theorem markGlyphRangeS_l0 (n : Nat) (s : Int) (hs : 0 ≤ s) (hs2 : s ≤ 4611686018427387904) (hn : n ≤ 1048576) : ∀ (d i : Nat) (xs : List S88), xs.length = n → i + d = n → xs.take i = marksR s i →
    Ev (fun k => laws_markGlyphRangeS.l0 k xs (s + 2 * i) (i : Int)) (s + 2 * n, marksR s n) := by
  intro d
  induction d with
  | zero =>
    intro i xs hl h ht
    refine Ev.step (f := fun _ => some _) (fun k => ?_) (Ev.now _)
    simp only [laws_markGlyphRangeS.l0]
    rw [if_neg (by omega)]
    obtain rfl : i = n := by omega
    rw [List.take_of_length_le (by omega)] at ht
    rw [ht]
  | succ d ih =>
    intro i xs hl h ht
    have ht' : (xs.set i ⟨s + 2 * i, s + 2 * i + 1⟩).take (i + 1) = marksR s (i + 1) := by
      rw [marksR_snoc, ← ht]
      apply List.ext_getElem
      · simp; omega
      · intro j h1 h2
        simp at h1
        simp only [List.getElem_take, List.getElem_set, List.getElem_append, List.length_take]
        by_cases hj : i = j
        · subst hj
          rw [if_pos rfl, dif_neg (by omega)]
          simp [show min i xs.length = i by omega]
        · rw [if_neg hj, dif_pos (by omega)]
    refine Ev.step (fun k => ?_) (ih (i + 1) (xs.set i ⟨s + 2 * i, s + 2 * i + 1⟩) (by simpa using hl) (by omega) ht')
    simp only [laws_markGlyphRangeS.l0, Option.bind_some, Int.toNat_natCast]
    rw [if_pos (by omega), if_pos (by omega), w64 (x := s + 2 * (i : Int) + 1) (by omega) (by omega), w64 (x := s + 2 * (i : Int) + 1 + 1) (by omega) (by omega), w64 (x := (i : Int) + 1) (by omega) (by omega), rdR_get (xs := xs) (by omega), rdR_get (xs := xs.set i _) (by rw [List.length_set]; omega)]
    simp only [List.getElem_set_self, List.set_set]
    push_cast
    rw [show s + 2 * (i : Int) + 1 + 1 = s + 2 * ((i : Int) + 1) by omega]
theorem markGlyphRangeS_ev (xs : List S88) (s : Int) (hs : 0 ≤ s) (hs2 : s ≤ 4611686018427387904) (hn : xs.length ≤ 1048576) : Ev (fun k => laws_markGlyphRangeS.f k xs s) (s + 2 * xs.length, marksR s xs.length) := by
  refine Ev.congr (fun k => ?_) (markGlyphRangeS_l0 xs.length s hs hs2 hn xs.length 0 xs rfl (by omega) (by simp [marksR]))
  unfold laws_markGlyphRangeS.f
  simp
theorem heldGlyphRangeS_l0 (n : Nat) (s : Int) (hs : 0 ≤ s) (hs2 : s ≤ 4611686018427387904) (hn : n ≤ 1048576) : ∀ (d i : Nat), i + d = n → Ev (fun k => laws_heldGlyphRangeS.l0 k (marksR s n) (s + 2 * i) (i : Int)) (s + 2 * n) := by
  intro d
  induction d with
  | zero =>
    intro i h
    refine Ev.step (f := fun _ => some _) (fun k => ?_) (Ev.now _)
    simp only [laws_heldGlyphRangeS.l0]
    rw [if_neg (by rw [marksR_length]; omega)]
    obtain rfl : i = n := by omega
    rfl
  | succ d ih =>
    intro i h
    refine Ev.step (fun k => ?_) (ih (i + 1) (by omega))
    simp only [laws_heldGlyphRangeS.l0]
    rw [if_pos (by rw [marksR_length]; omega), if_pos (by omega), rdR_get (by rw [marksR_length]; omega), marksR_get]
    simp only []
    rw [w64 (x := s + 2 * (i : Int) + 1) (by omega) (by omega), w64 (x := s + 2 * (i : Int) + 1 + 1) (by omega) (by omega), w64 (x := (i : Int) + 1) (by omega) (by omega), if_pos rfl, if_pos trivial]
    push_cast
    rw [show s + 2 * (i : Int) + 1 + 1 = s + 2 * ((i : Int) + 1) by omega]
theorem heldGlyphRangeS_ev (n : Nat) (s : Int) (hs : 0 ≤ s) (hs2 : s ≤ 4611686018427387904) (hn : n ≤ 1048576) : Ev (fun k => laws_heldGlyphRangeS.f k (marksR s n) s) (s + 2 * n) := by
  refine Ev.congr (fun k => ?_) (heldGlyphRangeS_l0 n s hs hs2 hn n 0 (by omega))
  unfold laws_heldGlyphRangeS.f
  simp
-- part: the law
theorem FnExactRangesOf : Owed := by
  intro a _
  apply Ev.rounds
  by_cases ha : (a.length : Int) > 1048576
  · exact evPos ha (Ev.now true)
  refine evNeg ha ?_
  have key : ∃ r : List S88 × Int, r.1.length ≤ 1048576 ∧ Ev (fun k => spec_RangesOf.f k a) r ∧ Ev (fun k => impl_RangesOf.f k a) r := by
    obtain ⟨x, hx, hx', hv⟩ := valid_both a (by omega)
    cases x with
    | false => exact ⟨([], 1), by simp, Ev.bind hx (evNeg (by simp) (Ev.now _)), Ev.bind hx' (evNeg (by simp) (Ev.now _))⟩
    | true =>
      have hb : ∀ y ∈ a, 0 ≤ y ∧ y ≤ 65535 := fun y hy => by have := (hv.1 rfl).range hy; omega
      refine ⟨(rangesM a, 0), ?_, Ev.bind hx (evPos rfl (Ev.bind (specRanges_ev a (by omega) hb) (Ev.now _))), Ev.bind hx' (evPos rfl (Ev.bind (implRanges_ev a (by omega) hb) (Ev.now _)))⟩
      have := rangesM_length a
      simp only; omega
  obtain ⟨⟨r, c⟩, hl, h1, h2⟩ := key
  have ta := toInt64S_ev a (by omega)
  have ea := eqInt64S_ev a (by omega)
  have er := eqGlyphRangeS_ev r hl
  have ma := markInt64S_ev a 1 (by omega) (by omega) (by omega)
  have mr := markGlyphRangeS_ev r 1 (by omega) (by omega) hl
  have hr := heldGlyphRangeS_ev r.length 1 (by omega) (by omega) hl
  refine Ev.bind ta (Ev.bind h1 (Ev.bind ta (Ev.bind h2 (Ev.bind er (evPos rfl ?_)))))
  refine Ev.step (fun k => by rw [laws_FnExactRangesOf.j0]) (evNeg (by simp) ?_)
  refine Ev.bind ta (Ev.bind ea (evPos rfl (Ev.bind ma ?_)))
  refine evNeg (by simp only; omega) (Ev.bind er (evPos rfl ?_))
  refine Ev.step (fun k => by rw [laws_FnExactRangesOf.j1]) (evNeg (by simp) ?_)
  refine Ev.bind mr (Ev.bind hr (evNeg (by omega) (evPos rfl ?_)))
  refine Ev.bind ta (Ev.bind h2 (Ev.bind er (evPos rfl ?_)))
  refine Ev.step (fun k => by rw [laws_FnExactRangesOf.j2]) (evNeg (by simp) ?_)
  exact Ev.bind hr (evNeg (by omega) (evPos rfl (Ev.now true)))
end Go.Proofs.Ytkjnlnkleplfhaa.Pure
