/- The plain statement of FnExactSameLine: the program and the reference agree on every input that the guards let in. -/
import Derived.Test.YtkjnlnkleplfhaaArgFnExactSameLine
namespace Go.Proofs.Ytkjnlnkleplfhaa.Pure
open Go.RowKit Go.Proofs.Ytkjnlnkleplfhaa.QFnExactSameLine Go.Proofs.Ytkjnlnkleplfhaa.ArgFnExactSameLine Go.Proofs.YtkjnlnkleplfhaaW.PrintWords Go.Proofs.YtkjnlnkleplfhaaW.PrintLast Go.Proofs.YtkjnlnkleplfhaaW.PrintMore
set_option linter.unusedVariables false
set_option linter.unusedSimpArgs false
-- part: base
theorem w64 {x : Int} (h : -9223372036854775808 ≤ x) (h' : x < 9223372036854775808) : wrap64 x = x := by
  unfold wrap64; omega
theorem evPos {α : Type} {c : Prop} [Decidable c] {g f : Nat → Option α} {r : α} (h : c) (k : Ev g r) : Ev (fun n => if c then g n else f n) r := by
  simpa only [if_pos h] using k
theorem evNeg {α : Type} {c : Prop} [Decidable c] {g f : Nat → Option α} {r : α} (h : ¬ c) (k : Ev f r) : Ev (fun n => if c then g n else f n) r := by
  simpa only [if_neg h] using k
theorem rd_get {xs : List Int} {i : Nat} (h : i < xs.length) : rd xs (i : Int) = xs[i] := by
  simp [rd, h]
/-- The numbers from s on, n of them. -/
def marks (s : Int) : Nat → List Int
  | 0 => []
  | n + 1 => s :: marks (s + 1) n
theorem marks_length (s : Int) (n : Nat) : (marks s n).length = n := by
  induction n generalizing s with
  | zero => rfl
  | succ n ih => simp [marks, ih]
theorem marks_get (s : Int) (n : Nat) : ∀ (i : Nat) (h : i < (marks s n).length), (marks s n)[i] = s + i := by
  induction n generalizing s with
  | zero => intro i h; simp [marks] at h
  | succ n ih =>
    intro i h
    cases i with
    | zero => simp [marks]
    | succ i => simp only [marks, List.getElem_cons_succ]; rw [ih]; push_cast; omega
theorem marks_snoc (s : Int) (n : Nat) : marks s (n + 1) = marks s n ++ [s + n] := by
  induction n generalizing s with
  | zero => simp [marks]
  | succ n ih => rw [marks, ih, marks]; simp; omega
-- part: loops
theorem getD_nat {α : Type} {xs : List α} {i : Nat} {d : α} (h : i < xs.length) : xs.getD (i : Int).toNat d = xs[i] := by
  simp [List.getD_eq_getElem?_getD, h]
/-- A loop that fills a row with what a function makes of each element. -/
theorem ev_copy {α β : Type} (L : Nat → List β → Int → Option (List β)) (xs : List α) (F : Nat → α → Option β) (f : α → β)
    (stop : ∀ k out, out.length = xs.length → L (k + 1) out (xs.length : Int) = some out)
    (step : ∀ k out (i : Nat) (h : i < xs.length), out.length = xs.length → L (k + 1) out (i : Int) = (F k xs[i]).bind fun y => L k (out.set i y) ((i + 1 : Nat) : Int))
    (hF : ∀ x ∈ xs, Ev (fun k => F k x) (f x)) (out : List β) (ho : out.length = xs.length) : Ev (fun k => L k out 0) (xs.map f) := by
  have key : ∀ (d i : Nat) (out : List β), i + d = xs.length → out.length = xs.length → out.take i = (xs.take i).map f → Ev (fun k => L k out (i : Int)) (xs.map f) := by
    intro d
    induction d with
    | zero =>
      intro i out h ho ht
      obtain rfl : i = xs.length := by omega
      refine Ev.step (f := fun _ => some _) (fun k => ?_) (Ev.now _)
      rw [stop k out ho]
      rw [List.take_of_length_le (by omega), List.take_of_length_le (by omega)] at ht
      rw [ht]
    | succ d ih =>
      intro i out h ho ht
      have hi : i < xs.length := by omega
      refine Ev.step (fun k => step k out i hi ho) (Ev.bind (hF _ (List.getElem_mem hi)) ?_)
      refine ih (i + 1) (out.set i (f xs[i])) (by omega) (by simpa using ho) ?_
      apply List.ext_getElem
      · simp; omega
      · intro j h1 h2
        simp at h1 h2
        simp only [List.getElem_take, List.getElem_set, List.getElem_map]
        by_cases hj : i = j
        · subst hj; rw [if_pos rfl]
        · rw [if_neg hj]
          have hj2 : j < i := by omega
          have e1 : (out.take i)[j]'(by simp; omega) = out[j] := by simp
          have e2 : ((xs.take i).map f)[j]'(by simp; omega) = f xs[j] := by simp
          rw [← e1, ← e2]
          simp only [ht]
  exact key xs.length 0 out (by omega) ho (by simp)
/-- A loop that stops with 'false' at the first element that fails. -/
theorem ev_all {α : Type} (L : Nat → Int → Option Bool) (xs : List α) (F : Nat → α → Option Bool) (P : α → Bool) (e : Bool)
    (stop : ∀ k, L (k + 1) (xs.length : Int) = some e)
    (step : ∀ k (i : Nat) (h : i < xs.length), L (k + 1) (i : Int) = (F k xs[i]).bind fun b => if b = true then L k ((i + 1 : Nat) : Int) else some false)
    (hF : ∀ x ∈ xs, Ev (fun k => F k x) (P x)) : Ev (fun k => L k 0) (xs.all P && e) := by
  have key : ∀ (d i : Nat), i + d = xs.length → Ev (fun k => L k (i : Int)) ((xs.drop i).all P && e) := by
    intro d
    induction d with
    | zero =>
      intro i h
      obtain rfl : i = xs.length := by omega
      refine Ev.step (f := fun _ => some _) (fun k => ?_) (Ev.now _)
      rw [stop k]
      simp
    | succ d ih =>
      intro i h
      have hi : i < xs.length := by omega
      refine Ev.step (fun k => step k i hi) (Ev.bind (hF _ (List.getElem_mem hi)) ?_)
      rw [List.drop_eq_getElem_cons hi, List.all_cons]
      cases hp : P xs[i] with
      | false => exact evNeg (by simp) (by simpa using Ev.now false)
      | true => exact evPos rfl (by simpa using ih (i + 1) (by omega))
  simpa using key xs.length 0 (by omega)
/-- A loop that tells the first place at which a test answers 'true'. -/
theorem ev_first {α : Type} (L : Nat → Int → Option Int) (xs : List α) (F : Nat → α → Option Bool) (P : α → Bool)
    (stop : ∀ k, L (k + 1) (xs.length : Int) = some (-1))
    (step : ∀ k (i : Nat) (h : i < xs.length), L (k + 1) (i : Int) = (F k xs[i]).bind fun b => if b = true then some (i : Int) else L k ((i + 1 : Nat) : Int))
    (hF : ∀ x ∈ xs, Ev (fun k => F k x) (P x)) : ∃ r, Ev (fun k => L k 0) r ∧ decide (r ≥ 0) = xs.any P := by
  have key : ∀ (d i : Nat), i + d = xs.length → ∃ r, Ev (fun k => L k (i : Int)) r ∧ decide (r ≥ 0) = (xs.drop i).any P := by
    intro d
    induction d with
    | zero =>
      intro i h
      obtain rfl : i = xs.length := by omega
      refine ⟨-1, Ev.step (f := fun _ => some _) (fun k => stop k) (Ev.now _), by simp⟩
    | succ d ih =>
      intro i h
      have hi : i < xs.length := by omega
      rw [List.drop_eq_getElem_cons hi, List.any_cons]
      cases hp : P xs[i] with
      | true =>
        refine ⟨(i : Int), Ev.step (fun k => step k i hi) (Ev.bind (hF _ (List.getElem_mem hi)) ?_), by simp⟩
        rw [hp]
        exact evPos rfl (Ev.now _)
      | false =>
        obtain ⟨r, hr, hr2⟩ := ih (i + 1) (by omega)
        refine ⟨r, Ev.step (fun k => step k i hi) (Ev.bind (hF _ (List.getElem_mem hi)) ?_), by simpa using hr2⟩
        rw [hp]
        exact evNeg (by simp) hr
  simpa using key xs.length 0 (by omega)
/-- What is left of a number of which each element takes its share; -1 if it doesn't suffice. -/
def less (s : Int) (w : Nat) : Int := if s < w then -1 else s - w
theorem less_neg (s : Int) (w : Nat) (h : 0 ≤ s) : less s w < 0 ↔ s < w := by unfold less; split <;> omega
theorem ev_sz {α : Type} (L : Nat → Int → Int → Option Int) (xs : List α) (F : Nat → α → Int → Option Int) (w : α → Nat)
    (stop : ∀ k s, L (k + 1) s (xs.length : Int) = some s)
    (step : ∀ k s (i : Nat) (h : i < xs.length), 0 ≤ s → s ≤ 1048576 → L (k + 1) s (i : Int) = (F k xs[i] s).bind fun t => if t < 0 then some (-1) else L k t ((i + 1 : Nat) : Int))
    (hF : ∀ x ∈ xs, ∀ s, 0 ≤ s → s ≤ 1048576 → Ev (fun k => F k x s) (less s (w x))) (s : Int) (h0 : 0 ≤ s) (h1 : s ≤ 1048576) : Ev (fun k => L k s 0) (less s (xs.map w).sum) := by
  have key : ∀ (d i : Nat) (s : Int), i + d = xs.length → 0 ≤ s → s ≤ 1048576 → Ev (fun k => L k s (i : Int)) (less s ((xs.drop i).map w).sum) := by
    intro d
    induction d with
    | zero =>
      intro i s h h0 h1
      obtain rfl : i = xs.length := by omega
      refine Ev.step (f := fun _ => some _) (fun k => ?_) (Ev.now _)
      rw [stop k s]
      simp [less]; omega
    | succ d ih =>
      intro i s h h0 h1
      have hi : i < xs.length := by omega
      refine Ev.step (fun k => step k s i hi h0 h1) (Ev.bind (hF _ (List.getElem_mem hi) s h0 h1) ?_)
      rw [List.drop_eq_getElem_cons hi, List.map_cons, List.sum_cons]
      by_cases hs : s < w xs[i]
      · have e1 : less s (w xs[i]) = -1 := by unfold less; rw [if_pos hs]
        have e2 : less s (w xs[i] + ((xs.drop (i + 1)).map w).sum) = -1 := by unfold less; rw [if_pos (by push_cast; omega)]
        rw [e1, e2]
        exact evPos (by omega) (Ev.now _)
      · have e1 : less s (w xs[i]) = s - w xs[i] := by unfold less; rw [if_neg hs]
        rw [e1]
        refine evNeg (by omega) ?_
        have := ih (i + 1) (s - w xs[i]) (by omega) (by omega) (by omega)
        have e2 : less (s - w xs[i]) ((xs.drop (i + 1)).map w).sum = less s (w xs[i] + ((xs.drop (i + 1)).map w).sum) := by
          unfold less
          push_cast
          by_cases h3 : s - w xs[i] < (((xs.drop (i + 1)).map w).sum : Nat)
          · rw [if_pos h3, if_pos (by omega)]
          · rw [if_neg h3, if_neg (by omega)]; omega
        rw [← e2]
        exact this
  simpa using key xs.length 0 s (by omega) h0 h1
theorem less_then {s : Int} {a b : Nat} (h0 : 0 ≤ s) (h : ¬ less s a < 0) : less s a = s - a ∧ 0 ≤ s - a ∧ less (s - a) b = less s (a + b) := by
  rw [less_neg s a h0] at h
  have e : less s a = s - a := by unfold less; rw [if_neg h]
  refine ⟨e, by omega, ?_⟩
  unfold less
  push_cast
  by_cases h3 : s - a < b
  · rw [if_pos h3, if_pos (by omega)]
  · rw [if_neg h3, if_neg (by omega)]; omega
theorem less_more {s : Int} {a b : Nat} (h0 : 0 ≤ s) (h : less s a < 0) : less s (a + b) = -1 := by
  rw [less_neg s a h0] at h
  unfold less
  rw [if_pos (by push_cast; omega)]
theorem less_none {s : Int} {a : Nat} (h0 : 0 ≤ s) (h : less s a < 0) : less s a = -1 := by
  rw [less_neg s a h0] at h
  unfold less
  rw [if_pos h]
-- part: strs
theorem rdS_get {xs : List ByteArray} {i : Nat} (h : i < xs.length) : rdOf ByteArray.empty xs (i : Int) = xs[i] := by
  simp [rdOf, List.getD_eq_getElem?_getD, h]
def wtS (xs : List ByteArray) : Nat := xs.length + (xs.map ByteArray.size).sum
theorem szStringS_ev (xs : List ByteArray) (hl : xs.length ≤ 9223372036854775807) (hx : ∀ x ∈ xs, x.size ≤ 9223372036854775807) (s : Int) (h0 : 0 ≤ s) (h1 : s ≤ 1048576) : Ev (fun k => laws_szStringS.f k xs s) (less s (wtS xs)) := by
  unfold laws_szStringS.f
  rw [w64 (by omega) (by omega)]
  by_cases h : s < xs.length
  · have e : less s (wtS xs) = -1 := by unfold less wtS; rw [if_pos (by push_cast; omega)]
    rw [e]
    exact evPos (by omega) (Ev.now _)
  · refine evNeg (by omega) ?_
    have e : less s (wtS xs) = less (s - xs.length) (xs.map ByteArray.size).sum :=
      ((less_then (s := s) (a := xs.length) (b := (xs.map ByteArray.size).sum) h0 (by rw [less_neg _ _ h0]; exact h)).2.2).symm
    rw [e]
    refine ev_sz (fun k s i => laws_szStringS.l0 k xs s i) xs (fun _ x s => some (less s x.size)) ByteArray.size ?_ ?_ ?_ _ (by omega) (by omega)
    · intro k s
      simp only [laws_szStringS.l0]
      rw [if_neg (by omega)]
    · intro k s i hi h2 h3
      have hb := hx _ (List.getElem_mem hi)
      simp only [laws_szStringS.l0, Option.bind_some]
      rw [if_pos (by omega), if_pos (by omega), rdS_get hi, w64 (x := s - (xs[i].size : Int)) (by omega) (by omega), w64 (x := (i : Int) + 1) (by omega) (by omega)]
      push_cast
      unfold less
      by_cases h4 : s < (xs[i].size : Int)
      · rw [if_pos (by omega), if_pos h4, if_pos (by omega)]
      · rw [if_neg (by omega), if_neg h4, if_neg (by omega)]
    · intro x _ s _ _
      exact Ev.now _
theorem toStringS_ev (xs : List ByteArray) (h : xs.length ≤ 1048576) : Ev (fun k => laws_toStringS.f k xs) xs := by
  have := ev_copy (fun k out i => laws_toStringS.l0 k xs out i) xs (fun _ x => some x) id (fun k out ho => by
      simp only [laws_toStringS.l0]
      rw [if_neg (by omega)]) (fun k out i hi ho => by
      simp only [laws_toStringS.l0, Option.bind_some]
      rw [if_pos (by omega), if_pos (by omega), if_pos (by omega), rdS_get hi, w64 (by omega) (by omega)]
      simp only [Int.toNat_natCast]
      push_cast
      rfl) (fun x hx => Ev.now _) (List.replicate xs.length (⟨#[]⟩ : ByteArray)) (by simp)
  rw [List.map_id] at this
  refine Ev.congr (fun k => ?_) this
  unfold laws_toStringS.f
  rw [if_pos (by omega), if_pos (by omega)]
  simp
theorem eqStringS_ev (xs : List ByteArray) (h : xs.length ≤ 1099511627776) : Ev (fun k => laws_eqStringS.f k xs xs) true := by
  have := ev_all (fun k i => laws_eqStringS.l0 k xs xs i) xs (fun _ _ => some true) (fun _ => true) true (fun k => by
      simp only [laws_eqStringS.l0]
      rw [if_neg (by omega)]) (fun k i hi => by
      simp only [laws_eqStringS.l0, Option.bind_some]
      rw [if_pos (by omega), if_pos (by omega), if_pos (by omega), if_pos trivial, w64 (by omega) (by omega)]
      push_cast
      rfl) (fun x hx => Ev.now _)
  rw [Bool.and_true, show (xs.all fun _ => true) = true by simp] at this
  refine Ev.congr (fun k => ?_) this
  unfold laws_eqStringS.f
  rw [if_pos rfl]
-- part: sameStrs
/-- Two lists of strings are alike. -/
def sameS (xs ys : List ByteArray) : Bool := decide (xs.map ByteArray.toList = ys.map ByteArray.toList)
theorem ev_same (L : Nat → Int → Option Bool) (xs ys : List ByteArray) (hl : xs.length = ys.length) (stop : ∀ k, L (k + 1) (xs.length : Int) = some true)
    (step : ∀ k (i : Nat) (h : i < xs.length) (h2 : i < ys.length), L (k + 1) (i : Int) = if xs[i].toList = ys[i].toList then L k ((i + 1 : Nat) : Int) else some false) : Ev (fun k => L k 0) (sameS xs ys) := by
  have key : ∀ (d i : Nat), i + d = xs.length → Ev (fun k => L k (i : Int)) (sameS (xs.drop i) (ys.drop i)) := by
    intro d
    induction d with
    | zero =>
      intro i h
      obtain rfl : i = xs.length := by omega
      refine Ev.step (f := fun _ => some _) (fun k => ?_) (Ev.now _)
      rw [stop k, List.drop_of_length_le (by omega), List.drop_of_length_le (by omega)]
      rfl
    | succ d ih =>
      intro i h
      have hi : i < xs.length := by omega
      have hi2 : i < ys.length := by omega
      refine Ev.step (fun k => step k i hi hi2) ?_
      have e : sameS (xs.drop i) (ys.drop i) = (decide (xs[i].toList = ys[i].toList) && sameS (xs.drop (i + 1)) (ys.drop (i + 1))) := by
        rw [List.drop_eq_getElem_cons hi, List.drop_eq_getElem_cons hi2]
        unfold sameS
        rw [Bool.eq_iff_iff, Bool.and_eq_true, decide_eq_true_iff, decide_eq_true_iff, decide_eq_true_iff, List.map_cons, List.map_cons, List.cons.injEq]
      rw [e]
      by_cases h1 : xs[i].toList = ys[i].toList
      · rw [decide_eq_true h1, Bool.true_and]
        exact evPos h1 (ih (i + 1) (by omega))
      · rw [decide_eq_false h1, Bool.false_and]
        exact evNeg h1 (Ev.now _)
  simpa using key xs.length 0 (by omega)
theorem sameS_len {xs ys : List ByteArray} (h : xs.length ≠ ys.length) : sameS xs ys = false := by
  unfold sameS
  refine decide_eq_false (fun e => h ?_)
  simpa using congrArg List.length e
theorem equalStrings_ev (xs ys : List ByteArray) (hn : xs.length ≤ 1048576) : Ev (fun k => slices_Equal_string_string.f k xs ys) (sameS xs ys) := by
  unfold slices_Equal_string_string.f
  by_cases hl : xs.length = ys.length
  · refine evPos (by omega) (ev_same (fun k i => slices_Equal_string_string.l0 k xs ys (xs.length : Int) i) xs ys hl (fun k => ?_) (fun k i h h2 => ?_))
    · simp only [slices_Equal_string_string.l0]
      rw [if_neg (by omega)]
    · simp only [slices_Equal_string_string.l0]
      rw [if_pos (by omega), if_pos (by omega), if_pos (by omega), if_pos (by omega), rdS_get h, rdS_get h2, w64 (by omega) (by omega)]
      push_cast
      rfl
  · rw [sameS_len hl]
    exact evNeg (by omega) (Ev.now _)
-- part: featureLine
/-- How much a line weighs. -/
def wtLine (n : ByteArray) (a b c d : List ByteArray) : Nat := n.size + wtS a + wtS b + wtS c + wtS d
def fitsS (xs : List ByteArray) : Prop := xs.length ≤ 9223372036854775807 ∧ ∀ x ∈ xs, x.size ≤ 9223372036854775807
theorem szLine_ev (v : Int) (n : ByteArray) (a b c d : List ByteArray) (u : Int) (hn : n.size ≤ 9223372036854775807) (ha : fitsS a) (hb : fitsS b) (hc : fitsS c) (hd : fitsS d) (s : Int) (h0 : 0 ≤ s) (h1 : s ≤ 1048576) :
    Ev (fun k => laws_szFeatureLine.f k v n a b c d u s) (less s (wtLine n a b c d)) := by
  unfold laws_szFeatureLine.f wtLine
  rw [w64 (by omega) (by omega)]
  by_cases n0 : less s n.size < 0
  · rw [show n.size + wtS a + wtS b + wtS c + wtS d = n.size + (wtS a + wtS b + wtS c + wtS d) by omega, less_more h0 n0]
    rw [less_neg _ _ h0] at n0
    exact evPos (by omega) (Ev.now _)
  obtain ⟨e0, p0, _⟩ := less_then (b := 0) h0 n0
  have q0 := (less_then (b := wtS a) h0 n0).2.2
  refine evNeg (by omega) (Ev.bind (szStringS_ev a ha.1 ha.2 _ p0 (by omega)) ?_)
  rw [q0]
  by_cases n1 : less s (n.size + wtS a) < 0
  · rw [show n.size + wtS a + wtS b + wtS c + wtS d = n.size + wtS a + (wtS b + wtS c + wtS d) by omega, less_more h0 n1]
    exact evPos n1 (Ev.now _)
  refine evNeg n1 ?_
  obtain ⟨e1, p1, _⟩ := less_then (b := 0) h0 n1
  rw [e1]
  refine Ev.bind (szStringS_ev b hb.1 hb.2 _ p1 (by omega)) ?_
  have q1 := (less_then (b := wtS b) h0 n1).2.2
  rw [q1]
  by_cases n2 : less s (n.size + wtS a + wtS b) < 0
  · rw [show n.size + wtS a + wtS b + wtS c + wtS d = n.size + wtS a + wtS b + (wtS c + wtS d) by omega, less_more h0 n2]
    exact evPos n2 (Ev.now _)
  refine evNeg n2 ?_
  obtain ⟨e2, p2, _⟩ := less_then (b := 0) h0 n2
  rw [e2]
  refine Ev.bind (szStringS_ev c hc.1 hc.2 _ p2 (by omega)) ?_
  have q2 := (less_then (b := wtS c) h0 n2).2.2
  rw [q2]
  by_cases n3 : less s (n.size + wtS a + wtS b + wtS c) < 0
  · rw [less_more h0 n3]
    exact evPos n3 (Ev.now _)
  refine evNeg n3 ?_
  obtain ⟨e3, p3, _⟩ := less_then (b := 0) h0 n3
  rw [e3]
  refine Ev.bind (szStringS_ev d hd.1 hd.2 _ p3 (by omega)) ?_
  have q3 := (less_then (b := wtS d) h0 n3).2.2
  rw [q3]
  by_cases n4 : less s (n.size + wtS a + wtS b + wtS c + wtS d) < 0
  · rw [less_none h0 n4]
    exact evPos (by omega) (Ev.now _)
  · exact evNeg n4 (Ev.now _)
theorem wtLine_len {n : ByteArray} {a b c d : List ByteArray} (h : wtLine n a b c d ≤ 1048576) : a.length ≤ 1048576 ∧ b.length ≤ 1048576 ∧ c.length ≤ 1048576 ∧ d.length ≤ 1048576 := by
  unfold wtLine wtS at h
  omega
theorem toLine_ev (v : Int) (n : ByteArray) (a b c d : List ByteArray) (u : Int) (h : a.length ≤ 1048576 ∧ b.length ≤ 1048576 ∧ c.length ≤ 1048576 ∧ d.length ≤ 1048576) : Ev (fun k => laws_toFeatureLine.f k v n a b c d u) (v, n, a, b, c, d, u) :=
  Ev.bind (toStringS_ev a h.1) (Ev.bind (toStringS_ev b h.2.1) (Ev.bind (toStringS_ev c h.2.2.1) (Ev.bind (toStringS_ev d h.2.2.2) (Ev.now _))))
theorem eqLine_ev (v : Int) (n : ByteArray) (a b c d : List ByteArray) (u : Int) (h : a.length ≤ 1048576 ∧ b.length ≤ 1048576 ∧ c.length ≤ 1048576 ∧ d.length ≤ 1048576) : Ev (fun k => laws_eqFeatureLine.f k v n a b c d u v n a b c d u) true :=
  evPos rfl (evPos rfl (Ev.bind (eqStringS_ev a (by omega)) (evPos rfl (Ev.bind (eqStringS_ev b (by omega)) (evPos rfl (Ev.bind (eqStringS_ev c (by omega)) (evPos rfl (Ev.bind (eqStringS_ev d (by omega)) (evPos rfl (evPos rfl (Ev.now _)))))))))))
-- part: the law
theorem sameList_ev (xs ys : List ByteArray) (hn : xs.length ≤ 1048576) : Ev (fun k => spec_l24SameList.f k xs ys) (sameS xs ys) := by
  unfold spec_l24SameList.f
  by_cases hl : xs.length = ys.length
  · refine evPos (by omega) (ev_same (fun k i => spec_l24SameList.l0 k xs ys i) xs ys hl (fun k => ?_) (fun k i h h2 => ?_))
    · simp only [spec_l24SameList.l0]
      rw [if_neg (by omega)]
    · simp only [spec_l24SameList.l0]
      rw [if_pos (by omega), if_pos (by omega), if_pos (by omega), rdS_get h, rdS_get h2, w64 (by omega) (by omega)]
      push_cast
      rfl
  · rw [sameS_len hl]
    exact evNeg (by omega) (Ev.now _)
theorem evIf {x y : Bool} {g : Nat → Option Bool} (h : Ev g y) : Ev (fun n => if x = true then g n else some false) (x && y) := by
  cases x
  · exact evNeg (by simp) (Ev.now _)
  · exact evPos rfl h
theorem evDec {c : Prop} [Decidable c] {y : Bool} {g : Nat → Option Bool} (h : Ev g y) : Ev (fun n => if c then g n else some false) (decide c && y) := by
  by_cases hc : c
  · rw [decide_eq_true hc, Bool.true_and]; exact evPos hc h
  · rw [decide_eq_false hc, Bool.false_and]; exact evNeg hc (Ev.now _)
def sameL (v : Int) (n : ByteArray) (a b c d : List ByteArray) (u v' : Int) (n' : ByteArray) (a' b' c' d' : List ByteArray) (u' : Int) : Bool :=
  decide (v = v') && (decide (n.toList = n'.toList) && (decide (u = u') && (sameS a a' && (sameS b b' && (sameS c c' && sameS d d')))))
theorem FnExactSameLine : Owed := by
  intro v n a b c d u v' n' a' b' c' d' u' _ wn wa wb wc wd _ _ wn' wa' wb' wc' wd' _
  apply Ev.rounds
  refine Ev.bind (szLine_ev v n a b c d u wn wa wb wc wd 1048576 (by omega) (by omega)) ?_
  by_cases h : less 1048576 (wtLine n a b c d) < 0
  · exact evPos h (Ev.now true)
  refine evNeg h ?_
  obtain ⟨e1, p1, _⟩ := less_then (s := 1048576) (a := wtLine n a b c d) (b := 0) (by omega) h
  rw [e1]
  refine Ev.step (fun k => by rw [laws_FnExactSameLine.j0]) (Ev.bind (szLine_ev v' n' a' b' c' d' u' wn' wa' wb' wc' wd' _ p1 (by omega)) ?_)
  by_cases h2 : less (1048576 - wtLine n a b c d) (wtLine n' a' b' c' d') < 0
  · exact evPos h2 (Ev.now true)
  refine evNeg h2 ?_
  have b1 := wtLine_len (n := n) (a := a) (b := b) (c := c) (d := d) (by omega)
  have b2 := wtLine_len (n := n') (a := a') (b := b') (c := c') (d := d') (by rw [less_neg _ _ p1] at h2; omega)
  have t1 := toLine_ev v n a b c d u b1
  have t2 := toLine_ev v' n' a' b' c' d' u' b2
  have s1 : Ev (fun k => spec_SameLine.f k v n a b c d u v' n' a' b' c' d' u') (sameL v n a b c d u v' n' a' b' c' d' u') :=
    evDec (evDec (evDec (Ev.bind (sameList_ev a a' b1.1) (evIf (Ev.bind (sameList_ev b b' b1.2.1) (evIf (Ev.bind (sameList_ev c c' b1.2.2.1) (evIf (Ev.bind (sameList_ev d d' b1.2.2.2) (Ev.now _)))))))))) 
  have s2 : Ev (fun k => impl_SameLine.f k v n a b c d u v' n' a' b' c' d' u') (sameL v n a b c d u v' n' a' b' c' d' u') := by
    have e : sameL v n a b c d u v' n' a' b' c' d' u' = (decide (v = v') && (decide (n.toList = n'.toList) && (sameS a a' && (sameS b b' && (sameS c c' && (sameS d d' && (u == u'))))))) := by
      unfold sameL
      by_cases h3 : u = u'
      · rw [decide_eq_true h3, h3]; simp
      · rw [decide_eq_false h3]; simp [h3]
    rw [e]
    exact evDec (evDec (Ev.bind (equalStrings_ev a a' b1.1) (evIf (Ev.bind (equalStrings_ev b b' b1.2.1) (evIf (Ev.bind (equalStrings_ev c c' b1.2.2.1) (evIf (Ev.bind (equalStrings_ev d d' b1.2.2.2) (evIf (Ev.now _)))))))))) 
  refine Ev.step (fun k => by rw [laws_FnExactSameLine.j1]) (Ev.bind t1 (Ev.bind t2 (Ev.bind s1 (Ev.bind t1 (Ev.bind t2 (Ev.bind s2 ?_))))))
  refine evNeg (by rw [bne_self_eq_false]; simp) ?_
  refine Ev.step (fun k => by rw [laws_FnExactSameLine.j2]) (Ev.bind t1 (Ev.bind (eqLine_ev v n a b c d u b1) (evPos rfl ?_)))
  exact Ev.step (fun k => by rw [laws_FnExactSameLine.j3]) (Ev.bind t2 (Ev.bind (eqLine_ev v' n' a' b' c' d' u' b2) (evPos rfl (Ev.now true))))
end Go.Proofs.Ytkjnlnkleplfhaa.Pure
