/- The plain statement of FnExactClassOfRanges: the program and the reference agree on every input that the guards let in. -/
import Derived.Test.YtkjnlnkleplfhaaArgFnExactClassOfRanges
namespace Go.Proofs.Ytkjnlnkleplfhaa.Pure
open Go.RowKit Go.Proofs.Ytkjnlnkleplfhaa.QFnExactClassOfRanges Go.Proofs.Ytkjnlnkleplfhaa.ArgFnExactClassOfRanges Go.Proofs.YtkjnlnkleplfhaaW.PrintWords Go.Proofs.YtkjnlnkleplfhaaW.PrintLast Go.Proofs.YtkjnlnkleplfhaaW.PrintMore
set_option linter.unusedVariables false
set_option linter.unusedSimpArgs false
-- part: base
theorem w64 {x : Int} (h : -9223372036854775808 ≤ x) (h' : x < 9223372036854775808) : wrap64 x = x := by
  unfold wrap64; omega
theorem evPos {α : Type} {c : Prop} [Decidable c] {g f : Nat → Option α} {r : α} (h : c) (k : Ev g r) : Ev (fun n => if c then g n else f n) r := by
  simpa only [if_pos h] using k
theorem evNeg {α : Type} {c : Prop} [Decidable c] {g f : Nat → Option α} {r : α} (h : ¬ c) (k : Ev f r) : Ev (fun n => if c then g n else f n) r := by
  simpa only [if_neg h] using k
theorem rd_get {xs : List Int} {i : Nat} (h : i < xs.length) : rd xs (i : Int) = xs[i] := by
  simp [rd, h]
/-- The numbers from s on, n of them. -/
def marks (s : Int) : Nat → List Int
  | 0 => []
  | n + 1 => s :: marks (s + 1) n
theorem marks_length (s : Int) (n : Nat) : (marks s n).length = n := by
  induction n generalizing s with
  | zero => rfl
  | succ n ih => simp [marks, ih]
theorem marks_get (s : Int) (n : Nat) : ∀ (i : Nat) (h : i < (marks s n).length), (marks s n)[i] = s + i := by
  induction n generalizing s with
  | zero => intro i h; simp [marks] at h
  | succ n ih =>
    intro i h
    cases i with
    | zero => simp [marks]
    | succ i => simp only [marks, List.getElem_cons_succ]; rw [ih]; push_cast; omega
theorem marks_snoc (s : Int) (n : Nat) : marks s (n + 1) = marks s n ++ [s + n] := by
  induction n generalizing s with
  | zero => simp [marks]
  | succ n ih => rw [marks, ih, marks]; simp; omega
-- part: eqInts
theorem eqInt64S_l0 (xs : List Int) (hn : xs.length ≤ 1099511627776) : ∀ (d i : Nat), i + d = xs.length → Ev (fun k => laws_eqInt64S.l0 k xs xs (i : Int)) true := by
  intro d
  induction d with
  | zero =>
    intro i h
    refine Ev.step (f := fun _ => some true) (fun k => ?_) (Ev.now _)
    simp only [laws_eqInt64S.l0]
    rw [if_neg (by omega)]
  | succ d ih =>
    intro i h
    refine Ev.step (fun k => ?_) (ih (i + 1) (by omega))
    simp only [laws_eqInt64S.l0]
    rw [if_pos (by omega), if_pos (by omega), if_pos (by omega), if_pos trivial, w64 (by omega) (by omega)]
    push_cast
    rfl
theorem eqInt64S_ev (xs : List Int) (hn : xs.length ≤ 1099511627776) : Ev (fun k => laws_eqInt64S.f k xs xs) true := by
  refine Ev.congr (fun k => ?_) (eqInt64S_l0 xs hn xs.length 0 (by omega))
  unfold laws_eqInt64S.f
  rw [if_pos rfl]; rfl
-- part: markInts
theorem markInt64S_l0 (n : Nat) (s : Int) (hs : 0 ≤ s) (hs2 : s ≤ 4611686018427387904) (hn : n ≤ 1099511627776) : ∀ (d i : Nat) (xs : List Int), xs.length = n → i + d = n → xs.take i = marks s i →
    Ev (fun k => laws_markInt64S.l0 k xs (s + i) (i : Int)) (s + n, marks s n) := by
  intro d
  induction d with
  | zero =>
    intro i xs hl h ht
    refine Ev.step (f := fun _ => some (s + n, marks s n)) (fun k => ?_) (Ev.now _)
    simp only [laws_markInt64S.l0]
    rw [if_neg (by omega)]
    obtain rfl : i = n := by omega
    rw [List.take_of_length_le (by omega)] at ht
    rw [ht]
  | succ d ih =>
    intro i xs hl h ht
    have ht' : (xs.set i (s + i)).take (i + 1) = marks s (i + 1) := by
      rw [marks_snoc, ← ht]
      apply List.ext_getElem
      · simp; omega
      · intro j h1 h2
        simp at h1
        simp only [List.getElem_take, List.getElem_set, List.getElem_append, List.length_take]
        by_cases hj : i = j
        · subst hj
          rw [if_pos rfl, dif_neg (by omega)]
          simp [show min i xs.length = i by omega]
        · rw [if_neg hj, dif_pos (by omega)]
    refine Ev.step (fun k => ?_) (ih (i + 1) (xs.set i (s + i)) (by simpa using hl) (by omega) ht')
    simp only [laws_markInt64S.l0]
    rw [if_pos (by omega), if_pos (by omega), w64 (x := s + (i : Int) + 1) (by omega) (by omega), w64 (x := (i : Int) + 1) (by omega) (by omega)]
    simp only [Int.toNat_natCast]
    push_cast
    rw [Int.add_assoc]
theorem markInt64S_ev (xs : List Int) (s : Int) (hs : 0 ≤ s) (hs2 : s ≤ 4611686018427387904) (hn : xs.length ≤ 1099511627776) : Ev (fun k => laws_markInt64S.f k xs s) (s + xs.length, marks s xs.length) := by
  refine Ev.congr (fun k => ?_) (markInt64S_l0 xs.length s hs hs2 hn xs.length 0 xs rfl (by omega) (by simp [marks]))
  unfold laws_markInt64S.f
  simp
-- part: heldInts
theorem heldInt64S_l0 (n : Nat) (s : Int) (hs : 0 ≤ s) (hs2 : s ≤ 4611686018427387904) (hn : n ≤ 1099511627776) : ∀ (d i : Nat), i + d = n → Ev (fun k => laws_heldInt64S.l0 k (marks s n) (s + i) (i : Int)) (s + n) := by
  intro d
  induction d with
  | zero =>
    intro i h
    refine Ev.step (f := fun _ => some (s + n)) (fun k => ?_) (Ev.now _)
    simp only [laws_heldInt64S.l0]
    rw [if_neg (by rw [marks_length]; omega)]
    obtain rfl : i = n := by omega
    rfl
  | succ d ih =>
    intro i h
    refine Ev.step (fun k => ?_) (ih (i + 1) (by omega))
    simp only [laws_heldInt64S.l0]
    rw [if_pos (by rw [marks_length]; omega), if_pos (by omega), rd_get (by rw [marks_length]; omega), marks_get, if_pos rfl, w64 (x := s + (i : Int) + 1) (by omega) (by omega), w64 (x := (i : Int) + 1) (by omega) (by omega)]
    push_cast
    rw [Int.add_assoc]
theorem heldInt64S_ev (n : Nat) (s : Int) (hs : 0 ≤ s) (hs2 : s ≤ 4611686018427387904) (hn : n ≤ 1099511627776) : Ev (fun k => laws_heldInt64S.f k (marks s n) s) (s + n) := by
  refine Ev.congr (fun k => ?_) (heldInt64S_l0 n s hs hs2 hn n 0 (by omega))
  unfold laws_heldInt64S.f
  simp
-- part: loops
theorem getD_nat {α : Type} {xs : List α} {i : Nat} {d : α} (h : i < xs.length) : xs.getD (i : Int).toNat d = xs[i] := by
  simp [List.getD_eq_getElem?_getD, h]
/-- A loop that fills a row with what a function makes of each element. -/
theorem ev_copy {α β : Type} (L : Nat → List β → Int → Option (List β)) (xs : List α) (F : Nat → α → Option β) (f : α → β)
    (stop : ∀ k out, out.length = xs.length → L (k + 1) out (xs.length : Int) = some out)
    (step : ∀ k out (i : Nat) (h : i < xs.length), out.length = xs.length → L (k + 1) out (i : Int) = (F k xs[i]).bind fun y => L k (out.set i y) ((i + 1 : Nat) : Int))
    (hF : ∀ x ∈ xs, Ev (fun k => F k x) (f x)) (out : List β) (ho : out.length = xs.length) : Ev (fun k => L k out 0) (xs.map f) := by
  have key : ∀ (d i : Nat) (out : List β), i + d = xs.length → out.length = xs.length → out.take i = (xs.take i).map f → Ev (fun k => L k out (i : Int)) (xs.map f) := by
    intro d
    induction d with
    | zero =>
      intro i out h ho ht
      obtain rfl : i = xs.length := by omega
      refine Ev.step (f := fun _ => some _) (fun k => ?_) (Ev.now _)
      rw [stop k out ho]
      rw [List.take_of_length_le (by omega), List.take_of_length_le (by omega)] at ht
      rw [ht]
    | succ d ih =>
      intro i out h ho ht
      have hi : i < xs.length := by omega
      refine Ev.step (fun k => step k out i hi ho) (Ev.bind (hF _ (List.getElem_mem hi)) ?_)
      refine ih (i + 1) (out.set i (f xs[i])) (by omega) (by simpa using ho) ?_
      apply List.ext_getElem
      · simp; omega
      · intro j h1 h2
        simp at h1 h2
        simp only [List.getElem_take, List.getElem_set, List.getElem_map]
        by_cases hj : i = j
        · subst hj; rw [if_pos rfl]
        · rw [if_neg hj]
          have hj2 : j < i := by omega
          have e1 : (out.take i)[j]'(by simp; omega) = out[j] := by simp
          have e2 : ((xs.take i).map f)[j]'(by simp; omega) = f xs[j] := by simp
          rw [← e1, ← e2]
          simp only [ht]
  exact key xs.length 0 out (by omega) ho (by simp)
/-- A loop that stops with 'false' at the first element that fails. -/
theorem ev_all {α : Type} (L : Nat → Int → Option Bool) (xs : List α) (F : Nat → α → Option Bool) (P : α → Bool) (e : Bool)
    (stop : ∀ k, L (k + 1) (xs.length : Int) = some e)
    (step : ∀ k (i : Nat) (h : i < xs.length), L (k + 1) (i : Int) = (F k xs[i]).bind fun b => if b = true then L k ((i + 1 : Nat) : Int) else some false)
    (hF : ∀ x ∈ xs, Ev (fun k => F k x) (P x)) : Ev (fun k => L k 0) (xs.all P && e) := by
  have key : ∀ (d i : Nat), i + d = xs.length → Ev (fun k => L k (i : Int)) ((xs.drop i).all P && e) := by
    intro d
    induction d with
    | zero =>
      intro i h
      obtain rfl : i = xs.length := by omega
      refine Ev.step (f := fun _ => some _) (fun k => ?_) (Ev.now _)
      rw [stop k]
      simp
    | succ d ih =>
      intro i h
      have hi : i < xs.length := by omega
      refine Ev.step (fun k => step k i hi) (Ev.bind (hF _ (List.getElem_mem hi)) ?_)
      rw [List.drop_eq_getElem_cons hi, List.all_cons]
      cases hp : P xs[i] with
      | false => exact evNeg (by simp) (by simpa using Ev.now false)
      | true => exact evPos rfl (by simpa using ih (i + 1) (by omega))
  simpa using key xs.length 0 (by omega)
/-- A loop that tells the first place at which a test answers 'true'. -/
theorem ev_first {α : Type} (L : Nat → Int → Option Int) (xs : List α) (F : Nat → α → Option Bool) (P : α → Bool)
    (stop : ∀ k, L (k + 1) (xs.length : Int) = some (-1))
    (step : ∀ k (i : Nat) (h : i < xs.length), L (k + 1) (i : Int) = (F k xs[i]).bind fun b => if b = true then some (i : Int) else L k ((i + 1 : Nat) : Int))
    (hF : ∀ x ∈ xs, Ev (fun k => F k x) (P x)) : ∃ r, Ev (fun k => L k 0) r ∧ decide (r ≥ 0) = xs.any P := by
  have key : ∀ (d i : Nat), i + d = xs.length → ∃ r, Ev (fun k => L k (i : Int)) r ∧ decide (r ≥ 0) = (xs.drop i).any P := by
    intro d
    induction d with
    | zero =>
      intro i h
      obtain rfl : i = xs.length := by omega
      refine ⟨-1, Ev.step (f := fun _ => some _) (fun k => stop k) (Ev.now _), by simp⟩
    | succ d ih =>
      intro i h
      have hi : i < xs.length := by omega
      rw [List.drop_eq_getElem_cons hi, List.any_cons]
      cases hp : P xs[i] with
      | true =>
        refine ⟨(i : Int), Ev.step (fun k => step k i hi) (Ev.bind (hF _ (List.getElem_mem hi)) ?_), by simp⟩
        rw [hp]
        exact evPos rfl (Ev.now _)
      | false =>
        obtain ⟨r, hr, hr2⟩ := ih (i + 1) (by omega)
        refine ⟨r, Ev.step (fun k => step k i hi) (Ev.bind (hF _ (List.getElem_mem hi)) ?_), by simpa using hr2⟩
        rw [hp]
        exact evNeg (by simp) hr
  simpa using key xs.length 0 (by omega)
/-- What is left of a number of which each element takes its share; -1 if it doesn't suffice. -/
def less (s : Int) (w : Nat) : Int := if s < w then -1 else s - w
theorem less_neg (s : Int) (w : Nat) (h : 0 ≤ s) : less s w < 0 ↔ s < w := by unfold less; split <;> omega
theorem ev_sz {α : Type} (L : Nat → Int → Int → Option Int) (xs : List α) (F : Nat → α → Int → Option Int) (w : α → Nat)
    (stop : ∀ k s, L (k + 1) s (xs.length : Int) = some s)
    (step : ∀ k s (i : Nat) (h : i < xs.length), 0 ≤ s → s ≤ 1048576 → L (k + 1) s (i : Int) = (F k xs[i] s).bind fun t => if t < 0 then some (-1) else L k t ((i + 1 : Nat) : Int))
    (hF : ∀ x ∈ xs, ∀ s, 0 ≤ s → s ≤ 1048576 → Ev (fun k => F k x s) (less s (w x))) (s : Int) (h0 : 0 ≤ s) (h1 : s ≤ 1048576) : Ev (fun k => L k s 0) (less s (xs.map w).sum) := by
  have key : ∀ (d i : Nat) (s : Int), i + d = xs.length → 0 ≤ s → s ≤ 1048576 → Ev (fun k => L k s (i : Int)) (less s ((xs.drop i).map w).sum) := by
    intro d
    induction d with
    | zero =>
      intro i s h h0 h1
      obtain rfl : i = xs.length := by omega
      refine Ev.step (f := fun _ => some _) (fun k => ?_) (Ev.now _)
      rw [stop k s]
      simp [less]; omega
    | succ d ih =>
      intro i s h h0 h1
      have hi : i < xs.length := by omega
      refine Ev.step (fun k => step k s i hi h0 h1) (Ev.bind (hF _ (List.getElem_mem hi) s h0 h1) ?_)
      rw [List.drop_eq_getElem_cons hi, List.map_cons, List.sum_cons]
      by_cases hs : s < w xs[i]
      · have e1 : less s (w xs[i]) = -1 := by unfold less; rw [if_pos hs]
        have e2 : less s (w xs[i] + ((xs.drop (i + 1)).map w).sum) = -1 := by unfold less; rw [if_pos (by push_cast; omega)]
        rw [e1, e2]
        exact evPos (by omega) (Ev.now _)
      · have e1 : less s (w xs[i]) = s - w xs[i] := by unfold less; rw [if_neg hs]
        rw [e1]
        refine evNeg (by omega) ?_
        have := ih (i + 1) (s - w xs[i]) (by omega) (by omega) (by omega)
        have e2 : less (s - w xs[i]) ((xs.drop (i + 1)).map w).sum = less s (w xs[i] + ((xs.drop (i + 1)).map w).sum) := by
          unfold less
          push_cast
          by_cases h3 : s - w xs[i] < (((xs.drop (i + 1)).map w).sum : Nat)
          · rw [if_pos h3, if_pos (by omega)]
          · rw [if_neg h3, if_neg (by omega)]; omega
        rw [← e2]
        exact this
  simpa using key xs.length 0 s (by omega) h0 h1
theorem less_then {s : Int} {a b : Nat} (h0 : 0 ≤ s) (h : ¬ less s a < 0) : less s a = s - a ∧ 0 ≤ s - a ∧ less (s - a) b = less s (a + b) := by
  rw [less_neg s a h0] at h
  have e : less s a = s - a := by unfold less; rw [if_neg h]
  refine ⟨e, by omega, ?_⟩
  unfold less
  push_cast
  by_cases h3 : s - a < b
  · rw [if_pos h3, if_pos (by omega)]
  · rw [if_neg h3, if_neg (by omega)]; omega
theorem less_more {s : Int} {a b : Nat} (h0 : 0 ≤ s) (h : less s a < 0) : less s (a + b) = -1 := by
  rw [less_neg s a h0] at h
  unfold less
  rw [if_pos (by push_cast; omega)]
theorem less_none {s : Int} {a : Nat} (h0 : 0 ≤ s) (h : less s a < 0) : less s a = -1 := by
  rw [less_neg s a h0] at h
  unfold less
  rw [if_pos h]
-- part: rangeRd
theorem rdR_get {xs : List S88} {i : Nat} (h : i < xs.length) : rd_T88 xs (i : Int) = xs[i] := by
  simp [rd_T88, h]
-- part: rangeMarks
theorem eqGlyphRangeS_l0 (xs : List S88) (hn : xs.length ≤ 1099511627776) : ∀ (d i : Nat), i + d = xs.length → Ev (fun k => laws_eqGlyphRangeS.l0 k xs xs (i : Int)) true := by
  intro d
  induction d with
  | zero =>
    intro i h
    refine Ev.step (f := fun _ => some true) (fun k => ?_) (Ev.now _)
    simp only [laws_eqGlyphRangeS.l0]
    rw [if_neg (by omega)]
  | succ d ih =>
    intro i h
    refine Ev.step (fun k => ?_) (ih (i + 1) (by omega))
    simp only [laws_eqGlyphRangeS.l0, laws_eqGlyphRange.f]
    rw [if_pos (by omega), if_pos (by omega), if_pos (by omega)]
    simp only [if_true, Option.bind_some]
    rw [w64 (by omega) (by omega)]
    push_cast
    rfl
theorem eqGlyphRangeS_ev (xs : List S88) (hn : xs.length ≤ 1099511627776) : Ev (fun k => laws_eqGlyphRangeS.f k xs xs) true := by
  refine Ev.congr (fun k => ?_) (eqGlyphRangeS_l0 xs hn xs.length 0 (by omega))
  unfold laws_eqGlyphRangeS.f
  rw [if_pos rfl]; rfl
def marksR (s : Int) : Nat → List S88
  | 0 => []
  | n + 1 => ⟨s, s + 1⟩ :: marksR (s + 2) n
theorem marksR_length (s : Int) (n : Nat) : (marksR s n).length = n := by
  induction n generalizing s with
  | zero => rfl
  | succ n ih => simp [marksR, ih]
theorem marksR_get (s : Int) (n : Nat) : ∀ (i : Nat) (h : i < (marksR s n).length), (marksR s n)[i] = ⟨s + 2 * i, s + 2 * i + 1⟩ := by
  induction n generalizing s with
  | zero => intro i h; simp [marksR] at h
  | succ n ih =>
    intro i h
    cases i with
    | zero => simp [marksR]
    | succ i =>
      simp only [marksR, List.getElem_cons_succ]; rw [ih]
      rw [show s + 2 + 2 * (i : Int) = s + 2 * ((i + 1 : Nat) : Int) by omega]
theorem marksR_snoc (s : Int) (n : Nat) : marksR s (n + 1) = marksR s n ++ [⟨s + 2 * n, s + 2 * n + 1⟩] := by
  induction n generalizing s with
  | zero => simp [marksR]
  | succ n ih =>
    rw [marksR, ih, marksR, List.cons_append, show s + 2 + 2 * (n : Int) = s + 2 * ((n + 1 : Nat) : Int) by omega]
theorem markGlyphRangeS_l0 (n : Nat) (s : Int) (hs : 0 ≤ s) (hs2 : s ≤ 4611686018427387904) (hn : n ≤ 1099511627776) : ∀ (d i : Nat) (xs : List S88), xs.length = n → i + d = n → xs.take i = marksR s i →
    Ev (fun k => laws_markGlyphRangeS.l0 k xs (s + 2 * i) (i : Int)) (s + 2 * n, marksR s n) := by
  intro d
  induction d with
  | zero =>
    intro i xs hl h ht
    refine Ev.step (f := fun _ => some _) (fun k => ?_) (Ev.now _)
    simp only [laws_markGlyphRangeS.l0]
    rw [if_neg (by omega)]
    obtain rfl : i = n := by omega
    rw [List.take_of_length_le (by omega)] at ht
    rw [ht]
  | succ d ih =>
    intro i xs hl h ht
    have ht' : (xs.set i ⟨s + 2 * i, s + 2 * i + 1⟩).take (i + 1) = marksR s (i + 1) := by
      rw [marksR_snoc, ← ht]
      apply List.ext_getElem
      · simp; omega
      · intro j h1 h2
        simp at h1
        simp only [List.getElem_take, List.getElem_set, List.getElem_append, List.length_take]
        by_cases hj : i = j
        · subst hj
          rw [if_pos rfl, dif_neg (by omega)]
          simp [show min i xs.length = i by omega]
        · rw [if_neg hj, dif_pos (by omega)]
    refine Ev.step (fun k => ?_) (ih (i + 1) (xs.set i ⟨s + 2 * i, s + 2 * i + 1⟩) (by simpa using hl) (by omega) ht')
    simp only [laws_markGlyphRangeS.l0, Option.bind_some, Int.toNat_natCast]
    rw [if_pos (by omega), if_pos (by omega), w64 (x := s + 2 * (i : Int) + 1) (by omega) (by omega), w64 (x := s + 2 * (i : Int) + 1 + 1) (by omega) (by omega), w64 (x := (i : Int) + 1) (by omega) (by omega), rdR_get (xs := xs) (by omega), rdR_get (xs := xs.set i _) (by rw [List.length_set]; omega)]
    simp only [List.getElem_set_self, List.set_set]
    push_cast
    rw [show s + 2 * (i : Int) + 1 + 1 = s + 2 * ((i : Int) + 1) by omega]
theorem markGlyphRangeS_ev (xs : List S88) (s : Int) (hs : 0 ≤ s) (hs2 : s ≤ 4611686018427387904) (hn : xs.length ≤ 1099511627776) : Ev (fun k => laws_markGlyphRangeS.f k xs s) (s + 2 * xs.length, marksR s xs.length) := by
  refine Ev.congr (fun k => ?_) (markGlyphRangeS_l0 xs.length s hs hs2 hn xs.length 0 xs rfl (by omega) (by simp [marksR]))
  unfold laws_markGlyphRangeS.f
  simp
-- part: the law
theorem in_f (a b c : Int) : spec_l00In.f a b c = some (decide (b ≤ a ∧ a ≤ c)) := by
  unfold spec_l00In.f
  by_cases h : a ≥ b <;> simp [h]
theorem num_f (a : Int) : impl_isGlyphNumber.f a = some (decide (0 ≤ a ∧ a ≤ 39)) := by
  unfold impl_isGlyphNumber.f
  by_cases h : a ≥ 0
  · rw [if_pos h]; congr 1; rw [decide_eq_decide]; omega
  · rw [if_neg h, decide_eq_false (by omega)]
theorem rdQ_get {xs : List S91} {i : Nat} (h : i < xs.length) : rd_T91 xs (i : Int) = xs[i] := by
  simp [rd_T91, h]
def toR (x : S91) : S88 := ⟨x.f0, x.f1⟩
theorem toGlyphRangeS_ev (xs : List S91) (h : xs.length ≤ 1048576) : Ev (fun k => laws_toGlyphRangeS.f k xs) (xs.map toR) := by
  have := ev_copy (fun k out i => laws_toGlyphRangeS.l0 k xs out i) xs (fun _ x => some (toR x)) toR (fun k out ho => by
      simp only [laws_toGlyphRangeS.l0]
      rw [if_neg (by omega)]) (fun k out i hi ho => by
      simp only [laws_toGlyphRangeS.l0, laws_toGlyphRange.f, Option.bind_some]
      rw [if_pos (by omega), if_pos (by omega), if_pos (by omega), rdQ_get hi, w64 (by omega) (by omega)]
      simp only [Int.toNat_natCast]
      push_cast
      rfl) (fun x hx => Ev.now _) (List.replicate xs.length z88) (by simp)
  refine Ev.congr (fun k => ?_) this
  unfold laws_toGlyphRangeS.f
  rw [if_pos (by omega), if_pos (by omega)]
  simp
theorem szGlyphRangeS_f (xs : List S91) (hl : xs.length ≤ 9223372036854775807) : laws_szGlyphRangeS.f xs 1048576 = some (less 1048576 xs.length) := by
  unfold laws_szGlyphRangeS.f less
  rw [w64 (by omega) (by omega)]
  by_cases h : (1048576 : Int) < xs.length
  · rw [if_pos (by omega), if_pos h]
  · rw [if_neg (by omega), if_neg h]
/-- The glyphs from g on, d of them. -/
def span : Int → Nat → List Int
  | _, 0 => []
  | g, d + 1 => g :: span (g + 1) d
theorem span_length (d : Nat) : ∀ g, (span g d).length = d := by
  induction d with
  | zero => intro g; rfl
  | succ d ih => intro g; simp [span, ih]
def spanR (x : S88) : List Int := span x.f0 (x.f1 + 1 - x.f0).toNat
/-- What one range obeys; p: the end of what lies before it. -/
def ranAt (x : S88) (p : Int) : Prop := (0 ≤ x.f0 ∧ x.f0 ≤ 39) ∧ (x.f0 ≤ x.f1 ∧ x.f1 ≤ 39) ∧ p < x.f0
instance (x : S88) (p : Int) : Decidable (ranAt x p) := by unfold ranAt; infer_instance
def ranFrom : List S88 → Int → Bool
  | [], _ => true
  | x :: xs, p => decide (ranAt x p) && ranFrom xs x.f1
theorem ranFrom_all : ∀ (xs : List S88) (p : Int), ranFrom xs p = true → ∀ x ∈ xs, 0 ≤ x.f0 ∧ x.f0 ≤ x.f1 ∧ x.f1 ≤ 39 := by
  intro xs
  induction xs with
  | nil => intro p _ x hx; cases hx
  | cons y ys ih =>
    intro p h x hx
    rw [ranFrom, Bool.and_eq_true, decide_eq_true_iff] at h
    obtain ⟨⟨h1, h2, h3⟩, h4⟩ := h
    rcases List.mem_cons.1 hx with rfl | hx
    · omega
    · exact ih _ h4 x hx
theorem specSpan (xs : List S88) (i : Nat) (hi : i < xs.length) (hn : xs.length ≤ 1048576) (hf : xs[i].f1 ≤ 39) (r : List Int × Int) :
    ∀ (d : Nat) (g : Int) (out : List Int), g + d = xs[i].f1 + 1 → 0 ≤ g → out.length + d ≤ 100000000 →
      Ev (fun k => spec_ClassOfRanges.l1 k xs (out ++ span g d) ((i + 1 : Nat) : Int)) r → Ev (fun k => spec_ClassOfRanges.l2 k xs out (i : Int) g) r := by
  intro d
  induction d with
  | zero =>
    intro g out h h0 ho e
    rw [span, List.append_nil] at e
    refine Ev.step (fun k => ?_) e
    simp only [spec_ClassOfRanges.l2]
    rw [if_pos (by omega), if_pos (by omega), rdR_get hi, if_neg (by omega), w64 (by omega) (by omega)]
    push_cast
    rfl
  | succ d ih =>
    intro g out h h0 ho e
    have := ih (g + 1) (out ++ [g]) (by omega) (by omega) (by simp; omega) (by rw [List.append_assoc, List.singleton_append]; exact e)
    refine Ev.step (fun k => ?_) this
    simp only [spec_ClassOfRanges.l2]
    rw [if_pos (by omega), if_pos (by omega), rdR_get hi, if_pos (show g ≤ xs[i].f1 by omega), if_pos (by omega), w64 (by omega) (by omega)]
theorem specBuild (xs : List S88) (hn : xs.length ≤ 1048576) (hx : ∀ x ∈ xs, 0 ≤ x.f0 ∧ x.f0 ≤ x.f1 ∧ x.f1 ≤ 39) :
    ∀ (d i : Nat) (out : List Int), i + d = xs.length → out.length ≤ 40 * i → Ev (fun k => spec_ClassOfRanges.l1 k xs out (i : Int)) (out ++ (xs.drop i).flatMap spanR, 0) := by
  intro d
  induction d with
  | zero =>
    intro i out h ho
    refine Ev.step (f := fun _ => some _) (fun k => ?_) (Ev.now _)
    simp only [spec_ClassOfRanges.l1]
    rw [if_neg (by omega), List.drop_of_length_le (by omega)]
    simp
  | succ d ih =>
    intro i out h ho
    have hi : i < xs.length := by omega
    have hb := hx xs[i] (List.getElem_mem hi)
    rw [List.drop_eq_getElem_cons hi, List.flatMap_cons, ← List.append_assoc]
    refine Ev.step (fun k => by
      simp only [spec_ClassOfRanges.l1]
      rw [if_pos (by omega), if_pos (by omega), rdR_get hi]) ?_
    refine specSpan xs i hi hn hb.2.2 _ (xs[i].f1 + 1 - xs[i].f0).toNat xs[i].f0 out (by omega) (by omega) (by omega) ?_
    exact ih (i + 1) (out ++ spanR xs[i]) (by omega) (by rw [List.length_append, spanR, span_length]; omega)
theorem specRan (xs : List S88) (hn : xs.length ≤ 1048576) (R : List Int) (hR : ranFrom xs (-1) = true → Ev (fun k => spec_ClassOfRanges.l1 k xs [] 0) (R, 0)) :
    ∀ (d i : Nat) (p : Int), i + d = xs.length → ranFrom xs (-1) = ranFrom (xs.drop i) p → (i = 0 → p = -1) → (∀ j : Nat, i = j + 1 → ∃ h : j < xs.length, p = xs[j].f1) →
      Ev (fun k => spec_ClassOfRanges.l0 k xs (i : Int)) (if ranFrom xs (-1) = true then (R, 0) else ([], 1)) := by
  intro d
  induction d with
  | zero =>
    intro i p h he h0 hj
    rw [List.drop_of_length_le (by omega), ranFrom] at he
    rw [if_pos he]
    refine Ev.step (fun k => ?_) (hR he)
    simp only [spec_ClassOfRanges.l0]
    rw [if_neg (by omega)]
  | succ d ih =>
    intro i p h he h0 hj
    have hi : i < xs.length := by omega
    rw [List.drop_eq_getElem_cons hi, ranFrom] at he
    have bad : ¬ ranAt xs[i] p → (if ranFrom xs (-1) = true then (R, (0:Int)) else ([], 1)) = ([], 1) := fun hr => by
      rw [he, decide_eq_false hr, Bool.false_and]; rfl
    by_cases r1 : 0 ≤ xs[i].f0 ∧ xs[i].f0 ≤ 39
    · by_cases r2 : xs[i].f0 ≤ xs[i].f1 ∧ xs[i].f1 ≤ 39
      · have go : ranAt xs[i] p → Ev (fun k => spec_ClassOfRanges.l0 k xs ((i + 1 : Nat) : Int)) (if ranFrom xs (-1) = true then (R, 0) else ([], 1)) := fun hr =>
          ih (i + 1) xs[i].f1 (by omega) (by rw [he, decide_eq_true hr, Bool.true_and]) (by omega) (fun j e => by
            obtain rfl : j = i := by omega
            exact ⟨hi, rfl⟩)
        cases i with
        | zero =>
          have e := h0 rfl
          refine Ev.step (fun k => ?_) (go ⟨r1, r2, by omega⟩)
          simp only [spec_ClassOfRanges.l0, in_f, Option.bind_some]
          rw [if_pos (by omega), if_pos (by omega), rdR_get hi, decide_eq_true r1, decide_eq_true r2, if_pos rfl, if_pos rfl, if_neg (by omega), w64 (by omega) (by omega)]
          rfl
        | succ j =>
          obtain ⟨hj1, e⟩ := hj j rfl
          by_cases r3 : xs[j + 1].f0 ≤ p
          · rw [bad (fun hr => by have := hr.2.2; omega)]
            refine Ev.step (f := fun _ => some _) (fun k => ?_) (Ev.now _)
            simp only [spec_ClassOfRanges.l0, in_f, Option.bind_some]
            rw [if_pos (by omega), if_pos (by omega), rdR_get hi, decide_eq_true r1, decide_eq_true r2, if_pos rfl, if_pos rfl, if_pos (by omega), w64 (x := ((j + 1 : Nat) : Int) - 1) (by omega) (by omega), if_pos (by omega), if_pos (by omega), show (((j + 1 : Nat) : Int) - 1) = (j : Int) by omega, rdR_get hj1, ← e, if_pos r3]
          · refine Ev.step (fun k => ?_) (go ⟨r1, r2, by omega⟩)
            simp only [spec_ClassOfRanges.l0, in_f, Option.bind_some]
            rw [if_pos (by omega), if_pos (by omega), rdR_get hi, decide_eq_true r1, decide_eq_true r2, if_pos rfl, if_pos rfl, if_pos (by omega), w64 (x := ((j + 1 : Nat) : Int) - 1) (by omega) (by omega), if_pos (by omega), if_pos (by omega), show (((j + 1 : Nat) : Int) - 1) = (j : Int) by omega, rdR_get hj1, ← e, if_neg r3, w64 (x := ((j + 1 : Nat) : Int) + 1) (by omega) (by omega)]
            push_cast
            rfl
      · rw [bad (fun hr => r2 hr.2.1)]
        refine Ev.step (f := fun _ => some _) (fun k => ?_) (Ev.now _)
        simp only [spec_ClassOfRanges.l0, in_f, Option.bind_some]
        rw [if_pos (by omega), if_pos (by omega), rdR_get hi, decide_eq_true r1, decide_eq_false r2, if_pos rfl, if_neg (by simp)]
    · rw [bad (fun hr => r1 hr.1)]
      refine Ev.step (f := fun _ => some _) (fun k => ?_) (Ev.now _)
      simp only [spec_ClassOfRanges.l0, in_f, Option.bind_some]
      rw [if_pos (by omega), if_pos (by omega), rdR_get hi, decide_eq_false r1, if_neg (by simp)]
theorem implSpan (xs : List S88) (i : Nat) (hi : i < xs.length) (hn : xs.length ≤ 1048576) (a b : Int) (hb : b ≤ 39) (r : List Int × Int) :
    ∀ (d : Nat) (g : Int) (out : List Int), g + d = b + 1 → 0 ≤ g → out.length + d ≤ 100000000 →
      Ev (fun k => impl_ClassOfRanges.l0 k xs (out ++ span g d) xs (xs.length : Int) ((i + 1 : Nat) : Int)) r → Ev (fun k => impl_ClassOfRanges.l1 k xs out g xs (xs.length : Int) (i : Int) a b) r := by
  intro d
  induction d with
  | zero =>
    intro g out h h0 ho e
    rw [span, List.append_nil] at e
    refine Ev.step (fun k => ?_) e
    simp only [impl_ClassOfRanges.l1]
    rw [if_neg (by omega), w64 (by omega) (by omega)]
    push_cast
    rfl
  | succ d ih =>
    intro g out h h0 ho e
    have := ih (g + 1) (out ++ [g]) (by omega) (by omega) (by simp; omega) (by rw [List.append_assoc, List.singleton_append]; exact e)
    refine Ev.step (fun k => ?_) this
    simp only [impl_ClassOfRanges.l1]
    rw [if_pos (show g ≤ b by omega), if_pos (by omega), w64 (by omega) (by omega)]
theorem implRan (xs : List S88) (hn : xs.length ≤ 1048576) :
    ∀ (d i : Nat) (p : Int) (out : List Int), i + d = xs.length → out.length ≤ 40 * i → (i = 0 → p = -1) → (∀ j : Nat, i = j + 1 → ∃ h : j < xs.length, p = xs[j].f1) →
      Ev (fun k => impl_ClassOfRanges.l0 k xs out xs (xs.length : Int) (i : Int)) (if ranFrom (xs.drop i) p = true then (out ++ (xs.drop i).flatMap spanR, 0) else ([], 1)) := by
  intro d
  induction d with
  | zero =>
    intro i p out h ho h0 hj
    refine Ev.step (f := fun _ => some _) (fun k => ?_) (Ev.now _)
    simp only [impl_ClassOfRanges.l0]
    rw [if_neg (by omega), List.drop_of_length_le (by omega)]
    simp [ranFrom]
  | succ d ih =>
    intro i p out h ho h0 hj
    have hi : i < xs.length := by omega
    rw [List.drop_eq_getElem_cons hi, ranFrom]
    have bad : ∀ a b, Ev (fun k => impl_ClassOfRanges.j1 k xs out xs (xs.length : Int) (i : Int) true a b) ([], 1) := fun a b =>
      Ev.step (f := fun _ => some ([], 1)) (fun k => by simp [impl_ClassOfRanges.j1]) (Ev.now _)
    have go : ranAt xs[i] p → Ev (fun k => impl_ClassOfRanges.j1 k xs out xs (xs.length : Int) (i : Int) false xs[i].f0 xs[i].f1) (if ranFrom (xs.drop (i + 1)) xs[i].f1 = true then (out ++ (xs[i] :: xs.drop (i + 1)).flatMap spanR, 0) else ([], 1)) := by
      intro hr
      obtain ⟨r1, r2, r3⟩ := hr
      refine Ev.step (f := fun k => impl_ClassOfRanges.l1 k xs out xs[i].f0 xs (xs.length : Int) (i : Int) xs[i].f0 xs[i].f1) (fun k => by simp [impl_ClassOfRanges.j1]) ?_
      refine implSpan xs i hi hn _ _ r2.2 _ (xs[i].f1 + 1 - xs[i].f0).toNat xs[i].f0 out (by omega) (by omega) (by omega) ?_
      rw [List.flatMap_cons, ← List.append_assoc]
      exact ih (i + 1) xs[i].f1 (out ++ spanR xs[i]) (by omega) (by rw [List.length_append, spanR, span_length]; omega) (by omega) (fun j e => by
        obtain rfl : j = i := by omega
        exact ⟨hi, rfl⟩)
    refine Ev.step (fun k => by
      simp only [impl_ClassOfRanges.l0, num_f, Option.bind_some]
      rw [if_pos (by omega), if_pos (by omega), if_pos (by omega), rdR_get hi]) ?_
    by_cases r1 : 0 ≤ xs[i].f0 ∧ xs[i].f0 ≤ 39
    · refine evPos (decide_eq_true r1) ?_
      by_cases r2 : 0 ≤ xs[i].f1 ∧ xs[i].f1 ≤ 39
      · refine evPos (decide_eq_true r2) ?_
        by_cases r4 : xs[i].f1 < xs[i].f0
        · rw [decide_eq_false (fun hr : ranAt xs[i] p => by have := hr.2.1; omega), Bool.false_and]
          exact evPos r4 (bad _ _)
        · refine evNeg r4 ?_
          cases i with
          | zero =>
            have e := h0 rfl
            rw [decide_eq_true (show ranAt xs[0] p from ⟨r1, by omega, by omega⟩), Bool.true_and]
            exact evNeg (by omega) (go ⟨r1, by omega, by omega⟩)
          | succ j =>
            obtain ⟨hj1, e⟩ := hj j rfl
            refine Ev.congr (f := fun k => impl_ClassOfRanges.j1 k xs out xs (xs.length : Int) ((j + 1 : Nat) : Int) (decide (xs[j + 1].f0 ≤ p)) xs[j + 1].f0 xs[j + 1].f1) (fun k => by
              rw [if_pos (by omega), w64 (x := ((j + 1 : Nat) : Int) - 1) (by omega) (by omega), if_pos (by omega), if_pos (by omega), show (((j + 1 : Nat) : Int) - 1) = (j : Int) by omega, rdR_get hj1, ← e]) ?_
            by_cases r3 : xs[j + 1].f0 ≤ p
            · rw [decide_eq_false (fun hr : ranAt xs[j + 1] p => by have := hr.2.2; omega), Bool.false_and, decide_eq_true r3]
              exact bad _ _
            · rw [decide_eq_true (show ranAt xs[j + 1] p from ⟨r1, by omega, by omega⟩), Bool.true_and, decide_eq_false r3]
              exact go ⟨r1, by omega, by omega⟩
      · rw [decide_eq_false (fun hr : ranAt xs[i] p => by have := hr.1; have := hr.2.1; omega), Bool.false_and]
        exact evNeg (by simpa using r2) (bad _ _)
    · rw [decide_eq_false (fun hr : ranAt xs[i] p => by have := hr.1; omega), Bool.false_and]
      exact evNeg (by simpa using r1) (bad _ _)
theorem flat_length (xs : List S88) (hx : ∀ x ∈ xs, 0 ≤ x.f0 ∧ x.f0 ≤ x.f1 ∧ x.f1 ≤ 39) : (xs.flatMap spanR).length ≤ 40 * xs.length := by
  induction xs with
  | nil => simp
  | cons x xs ih =>
    have h1 := hx x (List.mem_cons_self ..)
    have h2 := ih (fun y hy => hx y (List.mem_cons_of_mem _ hy))
    rw [List.flatMap_cons, List.length_append, spanR, span_length, List.length_cons]
    omega
theorem FnExactClassOfRanges : Owed := by
  intro xs wx
  apply Ev.rounds
  refine Ev.bind (g := fun _ => _) (by rw [szGlyphRangeS_f xs wx.1]; exact Ev.now _) ?_
  by_cases h : less 1048576 xs.length < 0
  · exact evPos h (Ev.now true)
  refine evNeg h ?_
  have hn : xs.length ≤ 1048576 := by rw [less_neg _ _ (by omega)] at h; omega
  have t := toGlyphRangeS_ev xs hn
  obtain ⟨ys, ey⟩ : ∃ ys, ys = xs.map toR := ⟨_, rfl⟩
  rw [← ey] at t
  have hy : ys.length ≤ 1048576 := by rw [ey, List.length_map]; exact hn
  have key : ∃ r : List Int × Int, r.1.length ≤ 100000000 ∧ Ev (fun k => spec_ClassOfRanges.f k ys) r ∧ Ev (fun k => impl_ClassOfRanges.f k ys) r := by
    refine ⟨if ranFrom ys (-1) = true then (ys.flatMap spanR, 0) else ([], 1), ?_, ?_, ?_⟩
    · split
      · rename_i hr
        have := flat_length ys (ranFrom_all ys _ hr)
        simp only; omega
      · simp
    · exact specRan ys hy (ys.flatMap spanR) (fun hr => specBuild ys hy (ranFrom_all ys _ hr) ys.length 0 [] (by omega) (by simp)) ys.length 0 (-1) (by omega) rfl (fun _ => rfl) (by omega)
    · exact implRan ys hy ys.length 0 (-1) [] (by omega) (by simp) (fun _ => rfl) (by omega)
  obtain ⟨⟨r, c⟩, hl, k1, k2⟩ := key
  simp only at hl
  have er := eqInt64S_ev r (by omega)
  have mr := markInt64S_ev r 1 (by omega) (by omega) (by omega)
  have hr := heldInt64S_ev r.length 1 (by omega) (by omega) (by omega)
  refine Ev.step (fun k => by rw [laws_FnExactClassOfRanges.j0]) (Ev.bind t (Ev.bind k1 (Ev.bind t (Ev.bind k2 (Ev.bind er (evPos rfl ?_))))))
  refine Ev.step (fun k => by rw [laws_FnExactClassOfRanges.j1]) ?_
  refine evNeg (by simp) ?_
  refine Ev.step (fun k => by rw [laws_FnExactClassOfRanges.j2]) (Ev.bind t (Ev.bind (eqGlyphRangeS_ev ys (by omega)) (evPos rfl ?_)))
  refine Ev.step (fun k => by rw [laws_FnExactClassOfRanges.j3]) (Ev.bind (markGlyphRangeS_ev ys 1 (by omega) (by omega) (by omega)) ?_)
  refine evNeg (by simp only; omega) ?_
  refine Ev.bind er (evPos rfl ?_)
  refine Ev.step (fun k => by rw [laws_FnExactClassOfRanges.j4]) ?_
  refine evNeg (by simp) ?_
  refine Ev.step (fun k => by rw [laws_FnExactClassOfRanges.j5]) (Ev.bind mr (Ev.bind hr ?_))
  refine evNeg (by omega) ?_
  refine Ev.step (fun k => by rw [laws_FnExactClassOfRanges.j6]) (evPos rfl ?_)
  refine Ev.step (fun k => by rw [laws_FnExactClassOfRanges.j7]) (Ev.bind t (Ev.bind k2 (Ev.bind er (evPos rfl ?_))))
  refine Ev.step (fun k => by rw [laws_FnExactClassOfRanges.j8]) ?_
  refine evNeg (by simp) ?_
  refine Ev.step (fun k => by rw [laws_FnExactClassOfRanges.j9]) (Ev.bind hr ?_)
  refine evNeg (by omega) ?_
  exact evPos rfl (Ev.now true)
end Go.Proofs.Ytkjnlnkleplfhaa.Pure
