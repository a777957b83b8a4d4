/- The plain statement of FnExactGlyphsOfRun: the program and the reference agree on every input that the guards let in. -/
import Derived.Test.YtkjnlnkleplfhaaArgFnExactGlyphsOfRun
namespace Go.Proofs.Ytkjnlnkleplfhaa.Pure
open Go.RowKit Go.Proofs.Ytkjnlnkleplfhaa.QFnExactGlyphsOfRun Go.Proofs.Ytkjnlnkleplfhaa.ArgFnExactGlyphsOfRun Go.Proofs.YtkjnlnkleplfhaaW.PrintWords Go.Proofs.YtkjnlnkleplfhaaW.PrintLast Go.Proofs.YtkjnlnkleplfhaaW.PrintMore
set_option linter.unusedVariables false
set_option linter.unusedSimpArgs false
-- part: base
theorem w64 {x : Int} (h : -9223372036854775808 ≤ x) (h' : x < 9223372036854775808) : wrap64 x = x := by
  unfold wrap64; omega
theorem evPos {α : Type} {c : Prop} [Decidable c] {g f : Nat → Option α} {r : α} (h : c) (k : Ev g r) : Ev (fun n => if c then g n else f n) r := by
  simpa only [if_pos h] using k
theorem evNeg {α : Type} {c : Prop} [Decidable c] {g f : Nat → Option α} {r : α} (h : ¬ c) (k : Ev f r) : Ev (fun n => if c then g n else f n) r := by
  simpa only [if_neg h] using k
theorem rd_get {xs : List Int} {i : Nat} (h : i < xs.length) : rd xs (i : Int) = xs[i] := by
  simp [rd, h]
/-- The numbers from s on, n of them. -/
def marks (s : Int) : Nat → List Int
  | 0 => []
  | n + 1 => s :: marks (s + 1) n
theorem marks_length (s : Int) (n : Nat) : (marks s n).length = n := by
  induction n generalizing s with
  | zero => rfl
  | succ n ih => simp [marks, ih]
theorem marks_get (s : Int) (n : Nat) : ∀ (i : Nat) (h : i < (marks s n).length), (marks s n)[i] = s + i := by
  induction n generalizing s with
  | zero => intro i h; simp [marks] at h
  | succ n ih =>
    intro i h
    cases i with
    | zero => simp [marks]
    | succ i => simp only [marks, List.getElem_cons_succ]; rw [ih]; push_cast; omega
theorem marks_snoc (s : Int) (n : Nat) : marks s (n + 1) = marks s n ++ [s + n] := by
  induction n generalizing s with
  | zero => simp [marks]
  | succ n ih => rw [marks, ih, marks]; simp; omega
-- part: eqInts
theorem eqInt64S_l0 (xs : List Int) (hn : xs.length ≤ 1099511627776) : ∀ (d i : Nat), i + d = xs.length → Ev (fun k => laws_eqInt64S.l0 k xs xs (i : Int)) true := by
  intro d
  induction d with
  | zero =>
    intro i h
    refine Ev.step (f := fun _ => some true) (fun k => ?_) (Ev.now _)
    simp only [laws_eqInt64S.l0]
    rw [if_neg (by omega)]
  | succ d ih =>
    intro i h
    refine Ev.step (fun k => ?_) (ih (i + 1) (by omega))
    simp only [laws_eqInt64S.l0]
    rw [if_pos (by omega), if_pos (by omega), if_pos (by omega), if_pos trivial, w64 (by omega) (by omega)]
    push_cast
    rfl
theorem eqInt64S_ev (xs : List Int) (hn : xs.length ≤ 1099511627776) : Ev (fun k => laws_eqInt64S.f k xs xs) true := by
  refine Ev.congr (fun k => ?_) (eqInt64S_l0 xs hn xs.length 0 (by omega))
  unfold laws_eqInt64S.f
  rw [if_pos rfl]; rfl
-- part: markInts
theorem markInt64S_l0 (n : Nat) (s : Int) (hs : 0 ≤ s) (hs2 : s ≤ 4611686018427387904) (hn : n ≤ 1099511627776) : ∀ (d i : Nat) (xs : List Int), xs.length = n → i + d = n → xs.take i = marks s i →
    Ev (fun k => laws_markInt64S.l0 k xs (s + i) (i : Int)) (s + n, marks s n) := by
  intro d
  induction d with
  | zero =>
    intro i xs hl h ht
    refine Ev.step (f := fun _ => some (s + n, marks s n)) (fun k => ?_) (Ev.now _)
    simp only [laws_markInt64S.l0]
    rw [if_neg (by omega)]
    obtain rfl : i = n := by omega
    rw [List.take_of_length_le (by omega)] at ht
    rw [ht]
  | succ d ih =>
    intro i xs hl h ht
    have ht' : (xs.set i (s + i)).take (i + 1) = marks s (i + 1) := by
      rw [marks_snoc, ← ht]
      apply List.ext_getElem
      · simp; omega
      · intro j h1 h2
        simp at h1
        simp only [List.getElem_take, List.getElem_set, List.getElem_append, List.length_take]
        by_cases hj : i = j
        · subst hj
          rw [if_pos rfl, dif_neg (by omega)]
          simp [show min i xs.length = i by omega]
        · rw [if_neg hj, dif_pos (by omega)]
    refine Ev.step (fun k => ?_) (ih (i + 1) (xs.set i (s + i)) (by simpa using hl) (by omega) ht')
    simp only [laws_markInt64S.l0]
    rw [if_pos (by omega), if_pos (by omega), w64 (x := s + (i : Int) + 1) (by omega) (by omega), w64 (x := (i : Int) + 1) (by omega) (by omega)]
    simp only [Int.toNat_natCast]
    push_cast
    rw [Int.add_assoc]
theorem markInt64S_ev (xs : List Int) (s : Int) (hs : 0 ≤ s) (hs2 : s ≤ 4611686018427387904) (hn : xs.length ≤ 1099511627776) : Ev (fun k => laws_markInt64S.f k xs s) (s + xs.length, marks s xs.length) := by
  refine Ev.congr (fun k => ?_) (markInt64S_l0 xs.length s hs hs2 hn xs.length 0 xs rfl (by omega) (by simp [marks]))
  unfold laws_markInt64S.f
  simp
-- part: heldInts
theorem heldInt64S_l0 (n : Nat) (s : Int) (hs : 0 ≤ s) (hs2 : s ≤ 4611686018427387904) (hn : n ≤ 1099511627776) : ∀ (d i : Nat), i + d = n → Ev (fun k => laws_heldInt64S.l0 k (marks s n) (s + i) (i : Int)) (s + n) := by
  intro d
  induction d with
  | zero =>
    intro i h
    refine Ev.step (f := fun _ => some (s + n)) (fun k => ?_) (Ev.now _)
    simp only [laws_heldInt64S.l0]
    rw [if_neg (by rw [marks_length]; omega)]
    obtain rfl : i = n := by omega
    rfl
  | succ d ih =>
    intro i h
    refine Ev.step (fun k => ?_) (ih (i + 1) (by omega))
    simp only [laws_heldInt64S.l0]
    rw [if_pos (by rw [marks_length]; omega), if_pos (by omega), rd_get (by rw [marks_length]; omega), marks_get, if_pos rfl, w64 (x := s + (i : Int) + 1) (by omega) (by omega), w64 (x := (i : Int) + 1) (by omega) (by omega)]
    push_cast
    rw [Int.add_assoc]
theorem heldInt64S_ev (n : Nat) (s : Int) (hs : 0 ≤ s) (hs2 : s ≤ 4611686018427387904) (hn : n ≤ 1099511627776) : Ev (fun k => laws_heldInt64S.f k (marks s n) s) (s + n) := by
  refine Ev.congr (fun k => ?_) (heldInt64S_l0 n s hs hs2 hn n 0 (by omega))
  unfold laws_heldInt64S.f
  simp
-- part: loops
theorem getD_nat {α : Type} {xs : List α} {i : Nat} {d : α} (h : i < xs.length) : xs.getD (i : Int).toNat d = xs[i] := by
  simp [List.getD_eq_getElem?_getD, h]
/-- A loop that fills a row with what a function makes of each element. -/
theorem ev_copy {α β : Type} (L : Nat → List β → Int → Option (List β)) (xs : List α) (F : Nat → α → Option β) (f : α → β)
    (stop : ∀ k out, out.length = xs.length → L (k + 1) out (xs.length : Int) = some out)
    (step : ∀ k out (i : Nat) (h : i < xs.length), out.length = xs.length → L (k + 1) out (i : Int) = (F k xs[i]).bind fun y => L k (out.set i y) ((i + 1 : Nat) : Int))
    (hF : ∀ x ∈ xs, Ev (fun k => F k x) (f x)) (out : List β) (ho : out.length = xs.length) : Ev (fun k => L k out 0) (xs.map f) := by
  have key : ∀ (d i : Nat) (out : List β), i + d = xs.length → out.length = xs.length → out.take i = (xs.take i).map f → Ev (fun k => L k out (i : Int)) (xs.map f) := by
    intro d
    induction d with
    | zero =>
      intro i out h ho ht
      obtain rfl : i = xs.length := by omega
      refine Ev.step (f := fun _ => some _) (fun k => ?_) (Ev.now _)
      rw [stop k out ho]
      rw [List.take_of_length_le (by omega), List.take_of_length_le (by omega)] at ht
      rw [ht]
    | succ d ih =>
      intro i out h ho ht
      have hi : i < xs.length := by omega
      refine Ev.step (fun k => step k out i hi ho) (Ev.bind (hF _ (List.getElem_mem hi)) ?_)
      refine ih (i + 1) (out.set i (f xs[i])) (by omega) (by simpa using ho) ?_
      apply List.ext_getElem
      · simp; omega
      · intro j h1 h2
        simp at h1 h2
        simp only [List.getElem_take, List.getElem_set, List.getElem_map]
        by_cases hj : i = j
        · subst hj; rw [if_pos rfl]
        · rw [if_neg hj]
          have hj2 : j < i := by omega
          have e1 : (out.take i)[j]'(by simp; omega) = out[j] := by simp
          have e2 : ((xs.take i).map f)[j]'(by simp; omega) = f xs[j] := by simp
          rw [← e1, ← e2]
          simp only [ht]
  exact key xs.length 0 out (by omega) ho (by simp)
/-- A loop that stops with 'false' at the first element that fails. -/
theorem ev_all {α : Type} (L : Nat → Int → Option Bool) (xs : List α) (F : Nat → α → Option Bool) (P : α → Bool) (e : Bool)
    (stop : ∀ k, L (k + 1) (xs.length : Int) = some e)
    (step : ∀ k (i : Nat) (h : i < xs.length), L (k + 1) (i : Int) = (F k xs[i]).bind fun b => if b = true then L k ((i + 1 : Nat) : Int) else some false)
    (hF : ∀ x ∈ xs, Ev (fun k => F k x) (P x)) : Ev (fun k => L k 0) (xs.all P && e) := by
  have key : ∀ (d i : Nat), i + d = xs.length → Ev (fun k => L k (i : Int)) ((xs.drop i).all P && e) := by
    intro d
    induction d with
    | zero =>
      intro i h
      obtain rfl : i = xs.length := by omega
      refine Ev.step (f := fun _ => some _) (fun k => ?_) (Ev.now _)
      rw [stop k]
      simp
    | succ d ih =>
      intro i h
      have hi : i < xs.length := by omega
      refine Ev.step (fun k => step k i hi) (Ev.bind (hF _ (List.getElem_mem hi)) ?_)
      rw [List.drop_eq_getElem_cons hi, List.all_cons]
      cases hp : P xs[i] with
      | false => exact evNeg (by simp) (by simpa using Ev.now false)
      | true => exact evPos rfl (by simpa using ih (i + 1) (by omega))
  simpa using key xs.length 0 (by omega)
/-- A loop that tells the first place at which a test answers 'true'. -/
theorem ev_first {α : Type} (L : Nat → Int → Option Int) (xs : List α) (F : Nat → α → Option Bool) (P : α → Bool)
    (stop : ∀ k, L (k + 1) (xs.length : Int) = some (-1))
    (step : ∀ k (i : Nat) (h : i < xs.length), L (k + 1) (i : Int) = (F k xs[i]).bind fun b => if b = true then some (i : Int) else L k ((i + 1 : Nat) : Int))
    (hF : ∀ x ∈ xs, Ev (fun k => F k x) (P x)) : ∃ r, Ev (fun k => L k 0) r ∧ decide (r ≥ 0) = xs.any P := by
  have key : ∀ (d i : Nat), i + d = xs.length → ∃ r, Ev (fun k => L k (i : Int)) r ∧ decide (r ≥ 0) = (xs.drop i).any P := by
    intro d
    induction d with
    | zero =>
      intro i h
      obtain rfl : i = xs.length := by omega
      refine ⟨-1, Ev.step (f := fun _ => some _) (fun k => stop k) (Ev.now _), by simp⟩
    | succ d ih =>
      intro i h
      have hi : i < xs.length := by omega
      rw [List.drop_eq_getElem_cons hi, List.any_cons]
      cases hp : P xs[i] with
      | true =>
        refine ⟨(i : Int), Ev.step (fun k => step k i hi) (Ev.bind (hF _ (List.getElem_mem hi)) ?_), by simp⟩
        rw [hp]
        exact evPos rfl (Ev.now _)
      | false =>
        obtain ⟨r, hr, hr2⟩ := ih (i + 1) (by omega)
        refine ⟨r, Ev.step (fun k => step k i hi) (Ev.bind (hF _ (List.getElem_mem hi)) ?_), by simpa using hr2⟩
        rw [hp]
        exact evNeg (by simp) hr
  simpa using key xs.length 0 (by omega)
/-- What is left of a number of which each element takes its share; -1 if it doesn't suffice. -/
def less (s : Int) (w : Nat) : Int := if s < w then -1 else s - w
theorem less_neg (s : Int) (w : Nat) (h : 0 ≤ s) : less s w < 0 ↔ s < w := by unfold less; split <;> omega
theorem ev_sz {α : Type} (L : Nat → Int → Int → Option Int) (xs : List α) (F : Nat → α → Int → Option Int) (w : α → Nat)
    (stop : ∀ k s, L (k + 1) s (xs.length : Int) = some s)
    (step : ∀ k s (i : Nat) (h : i < xs.length), 0 ≤ s → s ≤ 1048576 → L (k + 1) s (i : Int) = (F k xs[i] s).bind fun t => if t < 0 then some (-1) else L k t ((i + 1 : Nat) : Int))
    (hF : ∀ x ∈ xs, ∀ s, 0 ≤ s → s ≤ 1048576 → Ev (fun k => F k x s) (less s (w x))) (s : Int) (h0 : 0 ≤ s) (h1 : s ≤ 1048576) : Ev (fun k => L k s 0) (less s (xs.map w).sum) := by
  have key : ∀ (d i : Nat) (s : Int), i + d = xs.length → 0 ≤ s → s ≤ 1048576 → Ev (fun k => L k s (i : Int)) (less s ((xs.drop i).map w).sum) := by
    intro d
    induction d with
    | zero =>
      intro i s h h0 h1
      obtain rfl : i = xs.length := by omega
      refine Ev.step (f := fun _ => some _) (fun k => ?_) (Ev.now _)
      rw [stop k s]
      simp [less]; omega
    | succ d ih =>
      intro i s h h0 h1
      have hi : i < xs.length := by omega
      refine Ev.step (fun k => step k s i hi h0 h1) (Ev.bind (hF _ (List.getElem_mem hi) s h0 h1) ?_)
      rw [List.drop_eq_getElem_cons hi, List.map_cons, List.sum_cons]
      by_cases hs : s < w xs[i]
      · have e1 : less s (w xs[i]) = -1 := by unfold less; rw [if_pos hs]
        have e2 : less s (w xs[i] + ((xs.drop (i + 1)).map w).sum) = -1 := by unfold less; rw [if_pos (by push_cast; omega)]
        rw [e1, e2]
        exact evPos (by omega) (Ev.now _)
      · have e1 : less s (w xs[i]) = s - w xs[i] := by unfold less; rw [if_neg hs]
        rw [e1]
        refine evNeg (by omega) ?_
        have := ih (i + 1) (s - w xs[i]) (by omega) (by omega) (by omega)
        have e2 : less (s - w xs[i]) ((xs.drop (i + 1)).map w).sum = less s (w xs[i] + ((xs.drop (i + 1)).map w).sum) := by
          unfold less
          push_cast
          by_cases h3 : s - w xs[i] < (((xs.drop (i + 1)).map w).sum : Nat)
          · rw [if_pos h3, if_pos (by omega)]
          · rw [if_neg h3, if_neg (by omega)]; omega
        rw [← e2]
        exact this
  simpa using key xs.length 0 s (by omega) h0 h1
theorem less_then {s : Int} {a b : Nat} (h0 : 0 ≤ s) (h : ¬ less s a < 0) : less s a = s - a ∧ 0 ≤ s - a ∧ less (s - a) b = less s (a + b) := by
  rw [less_neg s a h0] at h
  have e : less s a = s - a := by unfold less; rw [if_neg h]
  refine ⟨e, by omega, ?_⟩
  unfold less
  push_cast
  by_cases h3 : s - a < b
  · rw [if_pos h3, if_pos (by omega)]
  · rw [if_neg h3, if_neg (by omega)]; omega
theorem less_more {s : Int} {a b : Nat} (h0 : 0 ≤ s) (h : less s a < 0) : less s (a + b) = -1 := by
  rw [less_neg s a h0] at h
  unfold less
  rw [if_pos (by push_cast; omega)]
theorem less_none {s : Int} {a : Nat} (h0 : 0 ≤ s) (h : less s a < 0) : less s a = -1 := by
  rw [less_neg s a h0] at h
  unfold less
  rw [if_pos h]
-- part: marks
/-- A row of marks: c numbers an element. -/
def mkRow {α : Type} (m : Int → α) (s : Int) (c n : Nat) : List α := (List.range n).map (fun i => m (s + (i : Nat) * c))
theorem mkRow_length {α : Type} (m : Int → α) (s : Int) (c n : Nat) : (mkRow m s c n).length = n := by simp [mkRow]
theorem mk_bound {c n : Nat} (hn : n ≤ 1099511627776) (hc : c ≤ 16) : ∀ i : Nat, i ≤ n → (i : Int) * c ≤ 17592186044416 ∧ 0 ≤ (i : Int) * c := by
  intro i hi
  have h2 : i * c ≤ n * 16 := Nat.mul_le_mul hi hc
  have h3 : ((i * c : Nat) : Int) = (i : Int) * c := by push_cast; rfl
  constructor
  · rw [← h3]; omega
  · rw [← h3]; omega
theorem mk_next (s : Int) (c i : Nat) : s + (i : Int) * c + c = s + ((i + 1 : Nat) : Int) * c := by
  push_cast
  rw [Int.add_mul, Int.one_mul]; omega
theorem ev_mark {α : Type} (L : Nat → List α → Int → Int → Option (Int × List α)) (m : Int → α) (c n : Nat) (hn : n ≤ 1099511627776) (hc : c ≤ 16)
    (stopL : ∀ k xs s, xs.length = n → L (k + 1) xs s (n : Int) = some (s, xs))
    (stepL : ∀ k xs s (i : Nat), xs.length = n → i < n → 0 ≤ s → s ≤ 1152921504606846976 → L (k + 1) xs s (i : Int) = L k (xs.set i (m s)) (s + c) ((i + 1 : Nat) : Int))
    (xs : List α) (hl : xs.length = n) (s : Int) (h0 : 0 ≤ s) (h1 : s ≤ 1099511627776) : Ev (fun k => L k xs s 0) (s + n * c, mkRow m s c n) := by
  have hb := mk_bound hn hc
  have key : ∀ (d i : Nat) (xs : List α), i + d = n → xs.length = n → xs.take i = mkRow m s c i → Ev (fun k => L k xs (s + (i : Int) * c) (i : Int)) (s + n * c, mkRow m s c n) := by
    intro d
    induction d with
    | zero =>
      intro i xs h hl ht
      obtain rfl : i = n := by omega
      refine Ev.step (f := fun _ => some _) (fun k => ?_) (Ev.now _)
      rw [stopL k xs _ hl]
      rw [List.take_of_length_le (by omega)] at ht
      rw [ht]
    | succ d ih =>
      intro i xs h hl ht
      have hi : i < n := by omega
      have := hb i (by omega)
      refine Ev.step (fun k => stepL k xs _ i hl hi (by omega) (by omega)) ?_
      rw [mk_next]
      refine ih (i + 1) _ (by omega) (by simpa using hl) ?_
      unfold mkRow at ht ⊢
      rw [List.range_succ, List.map_append, ← ht]
      apply List.ext_getElem
      · simp; omega
      · intro j h1 h2
        simp at h1
        simp only [List.getElem_take, List.getElem_set, List.getElem_append, List.length_take]
        by_cases hj : i = j
        · subst hj
          rw [if_pos rfl, dif_neg (by omega)]
          simp [show min i xs.length = i by omega]
        · rw [if_neg hj, dif_pos (by omega)]
  simpa using key n 0 xs (by omega) hl (by simp [mkRow])
theorem ev_held {α : Type} (H : Nat → List α → Int → Int → Option Int) (m : Int → α) (c n : Nat) (hn : n ≤ 1099511627776) (hc : c ≤ 16)
    (stopH : ∀ k ys s, ys.length = n → H (k + 1) ys s (n : Int) = some s)
    (stepH : ∀ k ys s (i : Nat) (h : i < ys.length), ys.length = n → 0 ≤ s → s ≤ 1152921504606846976 → ys[i] = m s → H (k + 1) ys s (i : Int) = H k ys (s + c) ((i + 1 : Nat) : Int))
    (s : Int) (h0 : 0 ≤ s) (h1 : s ≤ 1099511627776) : Ev (fun k => H k (mkRow m s c n) s 0) (s + n * c) := by
  have hb := mk_bound hn hc
  have key : ∀ (d i : Nat), i + d = n → Ev (fun k => H k (mkRow m s c n) (s + (i : Int) * c) (i : Int)) (s + n * c) := by
    intro d
    induction d with
    | zero =>
      intro i h
      obtain rfl : i = n := by omega
      exact Ev.step (f := fun _ => some _) (fun k => stopH k _ _ (mkRow_length ..)) (Ev.now _)
    | succ d ih =>
      intro i h
      have hi : i < n := by omega
      have := hb i (by omega)
      refine Ev.step (fun k => stepH k _ _ i (by rw [mkRow_length]; exact hi) (mkRow_length ..) (by omega) (by omega) (by simp [mkRow])) ?_
      rw [mk_next]
      exact ih (i + 1) (by omega)
  simpa using key n 0 (by omega)
-- part: itemLists
theorem rdI_get {xs : List S96} {i : Nat} (h : i < xs.length) : rd_T96 xs (i : Int) = xs[i] := by
  simp [rd_T96, h]
theorem rdJ_get {xs : List S98} {i : Nat} (h : i < xs.length) : rd_T98 xs (i : Int) = xs[i] := by
  simp [rd_T98, h]
def toI (x : S98) : S96 := ⟨x.f0, x.f1, x.f2⟩
theorem toItemS_ev (xs : List S98) (h : xs.length ≤ 1048576) : Ev (fun k => laws_toItemS.f k xs) (xs.map toI) := by
  have := ev_copy (fun k out i => laws_toItemS.l0 k xs out i) xs (fun _ x => some (toI x)) toI (fun k out ho => by
      simp only [laws_toItemS.l0]
      rw [if_neg (by omega)]) (fun k out i hi ho => by
      simp only [laws_toItemS.l0, laws_toItem.f, Option.bind_some]
      rw [if_pos (by omega), if_pos (by omega), if_pos (by omega), rdJ_get hi, w64 (by omega) (by omega)]
      simp only [Int.toNat_natCast]
      push_cast
      rfl) (fun x hx => Ev.now _) (List.replicate xs.length z96) (by simp)
  refine Ev.congr (fun k => ?_) this
  unfold laws_toItemS.f
  rw [if_pos (by omega), if_pos (by omega)]
  simp
theorem eqItemS_ev (xs : List S96) (h : xs.length ≤ 1099511627776) : Ev (fun k => laws_eqItemS.f k xs xs) true := by
  have := ev_all (fun k i => laws_eqItemS.l0 k xs xs i) xs (fun _ _ => some true) (fun _ => true) true (fun k => by
      simp only [laws_eqItemS.l0]
      rw [if_neg (by omega)]) (fun k i hi => by
      simp only [laws_eqItemS.l0, laws_eqItem.f]
      rw [if_pos (by omega), if_pos (by omega), if_pos (by omega)]
      simp only [if_true, Option.bind_some]
      rw [w64 (by omega) (by omega)]
      push_cast
      rfl) (fun x hx => Ev.now _)
  rw [Bool.and_true, show (xs.all fun _ => true) = true by simp] at this
  refine Ev.congr (fun k => ?_) this
  unfold laws_eqItemS.f
  rw [if_pos rfl]
theorem szItemS_f (xs : List S98) (hl : xs.length ≤ 9223372036854775807) : laws_szItemS.f xs 1048576 = some (less 1048576 xs.length) := by
  unfold laws_szItemS.f less
  rw [w64 (by omega) (by omega)]
  by_cases h : (1048576 : Int) < xs.length
  · rw [if_pos (by omega), if_pos h]
  · rw [if_neg (by omega), if_neg h]
-- part: itemMarks
theorem markItemS_ev (xs : List S96) (h : xs.length ≤ 1048576) : Ev (fun k => laws_markItemS.f k xs 1) (1 + xs.length * (3 : Nat), mkRow (fun s => (⟨s, s + 1, s + 2⟩ : S96)) 1 3 xs.length) :=
  ev_mark (fun k xs s i => laws_markItemS.l0 k xs s i) _ 3 xs.length (by omega) (by omega) (fun k xs s hl => by
      simp only [laws_markItemS.l0]
      rw [if_neg (by omega)]) (fun k xs s i hl hi h0 h1 => by
      simp only [laws_markItemS.l0, Option.bind_some, Int.toNat_natCast]
      rw [if_pos (by omega), if_pos (by omega), w64 (x := s + 1) (by omega) (by omega), w64 (x := s + 1 + 1) (by omega) (by omega), w64 (x := s + 1 + 1 + 1) (by omega) (by omega), w64 (x := (i : Int) + 1) (by omega) (by omega), rdI_get (xs := xs) (by omega), rdI_get (xs := xs.set i _) (by rw [List.length_set]; omega), rdI_get (xs := (xs.set i _).set i _) (by rw [List.length_set, List.length_set]; omega)]
      simp only [List.getElem_set_self, List.set_set]
      push_cast
      rw [show s + 1 + 1 + 1 = s + 3 by omega, show s + 1 + 1 = s + 2 by omega]) xs rfl 1 (by omega) (by omega)
-- part: the law
theorem in_f (a b c : Int) : spec_l00In.f a b c = some (decide (b ≤ a ∧ a ≤ c)) := by
  unfold spec_l00In.f
  by_cases h : a ≥ b <;> simp [h]
/-- What one place of a run obeys; p: the end of what lies before it. -/
def runAt (x : S96) (p : Int) : Prop := (0 ≤ x.f0 ∧ x.f0 ≤ 39) ∧ (p ≤ x.f1 ∧ x.f1 ≤ 262144) ∧ (0 ≤ x.f2 ∧ x.f2 ≤ 262144)
instance (x : S96) (p : Int) : Decidable (runAt x p) := by unfold runAt; infer_instance
def runFrom : List S96 → Int → Bool
  | [], _ => true
  | x :: xs, p => decide (runAt x p) && runFrom xs (x.f1 + x.f2)
theorem specRun_l0 (xs : List S96) (hn : xs.length ≤ 1048576) : ∀ (d i : Nat) (p : Int), i + d = xs.length → 0 ≤ p → p ≤ 524288 →
    Ev (fun k => spec_l26Run.l0 k xs 40 p (i : Int)) (runFrom (xs.drop i) p && decide (xs.length ≤ 60)) := by
  intro d
  induction d with
  | zero =>
    intro i p h h0 h1
    refine Ev.step (f := fun _ => some _) (fun k => ?_) (Ev.now _)
    simp only [spec_l26Run.l0]
    rw [if_neg (by omega), List.drop_of_length_le (by omega)]
    by_cases h2 : xs.length ≤ 60
    · rw [if_pos (by omega)]; simp [runFrom, h2]
    · rw [if_neg (by omega)]; simp [runFrom, h2]
  | succ d ih =>
    intro i p h h0 h1
    have hi : i < xs.length := by omega
    rw [List.drop_eq_getElem_cons hi]
    by_cases hr : runAt xs[i] p
    · have hr2 := hr
      obtain ⟨r1, r2, r3⟩ := hr2
      rw [runFrom, decide_eq_true hr, Bool.true_and]
      refine Ev.step (fun k => ?_) (ih (i + 1) (xs[i].f1 + xs[i].f2) (by omega) (by omega) (by omega))
      simp only [spec_l26Run.l0, in_f, Option.bind_some]
      rw [if_pos (by omega), if_pos (by omega), rdI_get hi, w64 (x := (40 : Int) - 1) (by omega) (by omega), w64 (x := xs[i].f1 + xs[i].f2) (by omega) (by omega), w64 (x := (i : Int) + 1) (by omega) (by omega), decide_eq_true (show 0 ≤ xs[i].f0 ∧ xs[i].f0 ≤ 40 - 1 by omega), decide_eq_true r2, decide_eq_true r3, if_pos rfl, if_pos rfl, if_pos rfl]
      push_cast
      rfl
    · rw [runFrom, decide_eq_false hr, Bool.false_and, Bool.false_and]
      refine Ev.step (f := fun _ => some false) (fun k => ?_) (Ev.now _)
      simp only [spec_l26Run.l0, in_f, Option.bind_some]
      rw [if_pos (by omega), if_pos (by omega), rdI_get hi, w64 (x := (40 : Int) - 1) (by omega) (by omega)]
      by_cases r1 : 0 ≤ xs[i].f0 ∧ xs[i].f0 ≤ 40 - 1
      · rw [decide_eq_true r1, if_pos rfl]
        by_cases r2 : p ≤ xs[i].f1 ∧ xs[i].f1 ≤ 262144
        · rw [decide_eq_true r2, if_pos rfl]
          by_cases r3 : 0 ≤ xs[i].f2 ∧ xs[i].f2 ≤ 262144
          · exact absurd ⟨⟨r1.1, by omega⟩, r2, r3⟩ hr
          · rw [decide_eq_false r3, if_neg (by simp)]
        · rw [decide_eq_false r2, if_neg (by simp)]
      · rw [decide_eq_false r1, if_neg (by simp)]
theorem implRun_l0 (xs : List S96) (hn : xs.length ≤ 1048576) : ∀ (d i : Nat) (p : Int), i + d = xs.length → (i = 0 → p = 0) → (∀ j : Nat, i = j + 1 → ∃ h : j < xs.length, p = xs[j].f1 + xs[j].f2 ∧ 0 ≤ p ∧ p ≤ 524288) →
    Ev (fun k => impl_ValidRun.l0 k xs 40 xs (xs.length : Int) (i : Int)) (runFrom (xs.drop i) p) := by
  intro d
  induction d with
  | zero =>
    intro i p h h0 hj
    refine Ev.step (f := fun _ => some _) (fun k => ?_) (Ev.now _)
    simp only [impl_ValidRun.l0]
    rw [if_neg (by omega), List.drop_of_length_le (by omega)]
    rfl
  | succ d ih =>
    intro i p h h0 hj
    have hi : i < xs.length := by omega
    have hp : 0 ≤ p ∧ p ≤ 524288 := by
      cases i with
      | zero => have := h0 rfl; omega
      | succ j => obtain ⟨_, _, h2⟩ := hj j rfl; exact h2
    rw [List.drop_eq_getElem_cons hi]
    have bad : ∀ v0 v1 v2, Ev (fun k => impl_ValidRun.j2 k xs 40 (i : Int) xs (xs.length : Int) (i : Int) true v0 v1 v2) false := fun _ _ _ => Ev.step (f := fun _ => some false) (fun k => by simp [impl_ValidRun.j2]) (Ev.now _)
    refine Ev.step (fun k => by
      simp only [impl_ValidRun.l0]
      rw [if_pos (by omega), if_pos (by omega), if_pos (by omega), rdI_get hi]) ?_
    by_cases a1 : xs[i].f0 < 0
    · rw [runFrom, decide_eq_false (fun h : runAt xs[i] p => by have := h.1; omega), Bool.false_and]
      exact evPos a1 (bad _ _ _)
    refine evNeg a1 ?_
    by_cases a2 : xs[i].f0 ≥ 40
    · rw [runFrom, decide_eq_false (fun h : runAt xs[i] p => by have := h.1; omega), Bool.false_and]
      exact evPos a2 (bad _ _ _)
    refine evNeg a2 ?_
    by_cases a3 : xs[i].f1 < 0
    · rw [runFrom, decide_eq_false (fun h : runAt xs[i] p => by have := h.2.1; omega), Bool.false_and]
      exact evPos a3 (bad _ _ _)
    refine evNeg a3 ?_
    by_cases a4 : xs[i].f1 > 262144
    · rw [runFrom, decide_eq_false (fun h : runAt xs[i] p => by have := h.2.1; omega), Bool.false_and]
      exact evPos a4 (bad _ _ _)
    refine evNeg a4 ?_
    by_cases a5 : xs[i].f2 < 0
    · rw [runFrom, decide_eq_false (fun h : runAt xs[i] p => by have := h.2.2; omega), Bool.false_and]
      exact evPos a5 (bad _ _ _)
    refine evNeg a5 ?_
    by_cases a6 : xs[i].f2 > 262144
    · rw [runFrom, decide_eq_false (fun h : runAt xs[i] p => by have := h.2.2; omega), Bool.false_and]
      rw [decide_eq_true a6]
      exact bad _ _ _
    rw [decide_eq_false a6]
    have go : Ev (fun k => impl_ValidRun.l0 k xs 40 xs (xs.length : Int) ((i + 1 : Nat) : Int)) (runFrom (xs.drop (i + 1)) (xs[i].f1 + xs[i].f2)) :=
      ih (i + 1) (xs[i].f1 + xs[i].f2) (by omega) (by omega) (fun j e => by
        obtain rfl : j = i := by omega
        exact ⟨hi, rfl, by omega, by omega⟩)
    cases i with
    | zero =>
      have e := h0 rfl
      subst e
      rw [runFrom, decide_eq_true (show runAt xs[0] 0 from ⟨by omega, by omega, by omega⟩), Bool.true_and]
      refine Ev.step (fun k => ?_) go
      simp only [impl_ValidRun.j2]
      rw [if_neg (by simp), if_neg (by omega), w64 (by omega) (by omega)]
      rfl
    | succ j =>
      obtain ⟨hj1, e, h2⟩ := hj j rfl
      by_cases a7 : xs[j + 1].f1 < p
      · rw [runFrom, decide_eq_false (fun h : runAt xs[j + 1] p => by have := h.2.1; omega), Bool.false_and]
        refine Ev.step (f := fun _ => some false) (fun k => ?_) (Ev.now _)
        simp only [impl_ValidRun.j2]
        rw [if_neg (by simp), if_pos (by omega), w64 (x := ((j + 1 : Nat) : Int) - 1) (by omega) (by omega), if_pos (by omega), if_pos (by omega), show (((j + 1 : Nat) : Int) - 1) = (j : Int) by omega, rdI_get hj1, ← e, w64 (x := p) (by omega) (by omega), if_pos a7]
      · rw [runFrom, decide_eq_true (show runAt xs[j + 1] p from ⟨by omega, by omega, by omega⟩), Bool.true_and]
        refine Ev.step (fun k => ?_) go
        simp only [impl_ValidRun.j2]
        rw [if_neg (by simp), if_pos (by omega), w64 (x := ((j + 1 : Nat) : Int) - 1) (by omega) (by omega), if_pos (by omega), if_pos (by omega), show (((j + 1 : Nat) : Int) - 1) = (j : Int) by omega, rdI_get hj1, ← e, w64 (x := p) (by omega) (by omega), if_neg a7, w64 (x := ((j + 1 : Nat) : Int) + 1) (by omega) (by omega)]
        push_cast
        rfl
theorem specGlyphs_ev (xs : List S96) (hn : xs.length ≤ 1048576) : Ev (fun k => spec_GlyphsOfRun.l0 k xs [] 0) (xs.map (·.f0)) := by
  have key : ∀ (d i : Nat) (out : List Int), i + d = xs.length → out.length ≤ i → Ev (fun k => spec_GlyphsOfRun.l0 k xs out (i : Int)) (out ++ (xs.drop i).map (·.f0)) := by
    intro d
    induction d with
    | zero =>
      intro i out h ho
      refine Ev.step (f := fun _ => some _) (fun k => ?_) (Ev.now _)
      simp only [spec_GlyphsOfRun.l0]
      rw [if_neg (by omega), List.drop_of_length_le (by omega)]
      simp
    | succ d ih =>
      intro i out h ho
      have hi : i < xs.length := by omega
      rw [List.drop_eq_getElem_cons hi, List.map_cons]
      have := ih (i + 1) (out ++ [xs[i].f0]) (by omega) (by simp; omega)
      rw [List.append_assoc, List.singleton_append] at this
      refine Ev.step (fun k => ?_) this
      simp only [spec_GlyphsOfRun.l0]
      rw [if_pos (by omega), if_pos (by omega), if_pos (by omega), rdI_get hi, w64 (by omega) (by omega)]
      push_cast
      rfl
  simpa using key xs.length 0 [] (by omega) (by simp)
theorem implGlyphs_ev (xs : List S96) (hn : xs.length ≤ 1048576) : Ev (fun k => impl_GlyphsOfRun.l0 k [] xs (xs.length : Int) 0) (xs.map (·.f0)) := by
  have key : ∀ (d i : Nat) (out : List Int), i + d = xs.length → out.length ≤ i → Ev (fun k => impl_GlyphsOfRun.l0 k out xs (xs.length : Int) (i : Int)) (out ++ (xs.drop i).map (·.f0)) := by
    intro d
    induction d with
    | zero =>
      intro i out h ho
      refine Ev.step (f := fun _ => some _) (fun k => ?_) (Ev.now _)
      simp only [impl_GlyphsOfRun.l0]
      rw [if_neg (by omega), List.drop_of_length_le (by omega)]
      simp
    | succ d ih =>
      intro i out h ho
      have hi : i < xs.length := by omega
      rw [List.drop_eq_getElem_cons hi, List.map_cons]
      have := ih (i + 1) (out ++ [xs[i].f0]) (by omega) (by simp; omega)
      rw [List.append_assoc, List.singleton_append] at this
      refine Ev.step (fun k => ?_) this
      simp only [impl_GlyphsOfRun.l0]
      rw [if_pos (by omega), if_pos (by omega), if_pos (by omega), if_pos (by omega), rdI_get hi, w64 (by omega) (by omega)]
      push_cast
      rfl
  simpa using key xs.length 0 [] (by omega) (by simp)
theorem FnExactGlyphsOfRun : Owed := by
  intro xs wx
  apply Ev.rounds
  refine Ev.bind (g := fun _ => _) (by rw [szItemS_f xs wx.1]; exact Ev.now _) ?_
  by_cases h : less 1048576 xs.length < 0
  · exact evPos h (Ev.now true)
  refine evNeg h ?_
  have hn : xs.length ≤ 1048576 := by rw [less_neg _ _ (by omega)] at h; omega
  have t := toItemS_ev xs hn
  obtain ⟨ys, ey⟩ : ∃ ys, ys = xs.map toI := ⟨_, rfl⟩
  rw [← ey] at t
  have hy : ys.length ≤ 1048576 := by rw [ey, List.length_map]; exact hn
  have key : ∃ r : List Int, r.length ≤ 1048576 ∧ Ev (fun k => spec_GlyphsOfRun.f k ys) r ∧ Ev (fun k => impl_GlyphsOfRun.f k ys) r := by
    have s1 : Ev (fun k => spec_l26Any.f k ys) (runFrom ys 0 && decide (ys.length ≤ 60)) := Ev.bind (by have := specRun_l0 ys hy ys.length 0 0 (by omega) (by omega) (by omega); rw [List.drop_zero] at this; exact this) (Ev.now _)
    have s2 : Ev (fun k => impl_ValidRun.f k ys 40) (runFrom ys 0 && decide (ys.length ≤ 60)) := by
      refine evNeg (by omega) ?_
      by_cases h6 : ys.length ≤ 60
      · rw [decide_eq_true h6, Bool.and_true, decide_eq_false (show ¬ (ys.length : Int) > 60 by omega)]
        refine Ev.step (fun k => by simp only [impl_ValidRun.j0]; rw [if_neg (by simp)]) ?_
        have := implRun_l0 ys hy ys.length 0 0 (by omega) (by simp) (by simp)
        rw [List.drop_zero] at this
        exact this
      · rw [decide_eq_false h6, Bool.and_false, decide_eq_true (show (ys.length : Int) > 60 by omega)]
        exact Ev.step (f := fun _ => some false) (fun k => by simp [impl_ValidRun.j0]) (Ev.now _)
    cases e : (runFrom ys 0 && decide (ys.length ≤ 60)) with
    | false =>
      rw [e] at s1 s2
      exact ⟨[], by simp, Ev.bind s1 (evNeg (by simp) (Ev.now _)), Ev.bind s2 (evNeg (by simp) (Ev.now _))⟩
    | true =>
      rw [e] at s1 s2
      exact ⟨ys.map (·.f0), by simpa using hy, Ev.bind s1 (evPos rfl (specGlyphs_ev ys hy)), Ev.bind s2 (evPos rfl (implGlyphs_ev ys hy))⟩
  obtain ⟨r, hl, k1, k2⟩ := key
  have er := eqInt64S_ev r (by omega)
  have mr := markInt64S_ev r 1 (by omega) (by omega) (by omega)
  have hr := heldInt64S_ev r.length 1 (by omega) (by omega) (by omega)
  refine Ev.step (fun k => by rw [laws_FnExactGlyphsOfRun.j0]) (Ev.bind t (Ev.bind k1 (Ev.bind t (Ev.bind k2 (Ev.bind er (evPos rfl ?_))))))
  refine Ev.step (fun k => by rw [laws_FnExactGlyphsOfRun.j1]) (Ev.bind t (Ev.bind (eqItemS_ev ys (by omega)) (evPos rfl ?_)))
  refine Ev.step (fun k => by rw [laws_FnExactGlyphsOfRun.j2]) (Ev.bind (markItemS_ev ys hy) ?_)
  refine evNeg (by simp only; omega) ?_
  refine Ev.bind er ?_
  refine Ev.step (fun k => by rw [laws_FnExactGlyphsOfRun.j3]) (evNeg (by simp) ?_)
  refine Ev.step (fun k => by rw [laws_FnExactGlyphsOfRun.j4]) (Ev.bind mr (Ev.bind hr (evNeg (show ¬ ((1:Int) + r.length < 0) by omega) ?_)))
  refine Ev.step (fun k => by rw [laws_FnExactGlyphsOfRun.j5]) (evPos rfl ?_)
  refine Ev.step (fun k => by rw [laws_FnExactGlyphsOfRun.j6]) (Ev.bind t (Ev.bind k2 (Ev.bind er (evPos rfl ?_))))
  exact Ev.step (fun k => by rw [laws_FnExactGlyphsOfRun.j7]) (Ev.bind hr (evNeg (show ¬ ((1:Int) + r.length < 0) by omega) (evPos rfl (Ev.now true))))
end Go.Proofs.Ytkjnlnkleplfhaa.Pure
