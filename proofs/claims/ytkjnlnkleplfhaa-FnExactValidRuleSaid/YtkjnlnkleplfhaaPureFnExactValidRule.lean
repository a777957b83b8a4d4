/- The plain statement of FnExactValidRule: the program and the reference agree on every input that the guards let in. -/
import Derived.Test.YtkjnlnkleplfhaaArgFnExactValidRule
namespace Go.Proofs.Ytkjnlnkleplfhaa.Pure
open Go.RowKit Go.Proofs.Ytkjnlnkleplfhaa.QFnExactValidRule Go.Proofs.Ytkjnlnkleplfhaa.ArgFnExactValidRule Go.Proofs.YtkjnlnkleplfhaaW.PrintWords Go.Proofs.YtkjnlnkleplfhaaW.PrintLast Go.Proofs.YtkjnlnkleplfhaaW.PrintMore
set_option linter.unusedVariables false
set_option linter.unusedSimpArgs false
-- part: base
theorem w64 {x : Int} (h : -9223372036854775808 ≤ x) (h' : x < 9223372036854775808) : wrap64 x = x := by
  unfold wrap64; omega
theorem evPos {α : Type} {c : Prop} [Decidable c] {g f : Nat → Option α} {r : α} (h : c) (k : Ev g r) : Ev (fun n => if c then g n else f n) r := by
  simpa only [if_pos h] using k
theorem evNeg {α : Type} {c : Prop} [Decidable c] {g f : Nat → Option α} {r : α} (h : ¬ c) (k : Ev f r) : Ev (fun n => if c then g n else f n) r := by
  simpa only [if_neg h] using k
theorem rd_get {xs : List Int} {i : Nat} (h : i < xs.length) : rd xs (i : Int) = xs[i] := by
  simp [rd, h]
/-- The numbers from s on, n of them. -/
def marks (s : Int) : Nat → List Int
  | 0 => []
  | n + 1 => s :: marks (s + 1) n
theorem marks_length (s : Int) (n : Nat) : (marks s n).length = n := by
  induction n generalizing s with
  | zero => rfl
  | succ n ih => simp [marks, ih]
theorem marks_get (s : Int) (n : Nat) : ∀ (i : Nat) (h : i < (marks s n).length), (marks s n)[i] = s + i := by
  induction n generalizing s with
  | zero => intro i h; simp [marks] at h
  | succ n ih =>
    intro i h
    cases i with
    | zero => simp [marks]
    | succ i => simp only [marks, List.getElem_cons_succ]; rw [ih]; push_cast; omega
theorem marks_snoc (s : Int) (n : Nat) : marks s (n + 1) = marks s n ++ [s + n] := by
  induction n generalizing s with
  | zero => simp [marks]
  | succ n ih => rw [marks, ih, marks]; simp; omega
-- part: copyInts
theorem toInt64S_l0 (xs : List Int) (hn : xs.length ≤ 1048576) : ∀ (d i : Nat), i + d = xs.length → Ev (fun k => laws_toInt64S.l0 k xs (xs.take i ++ List.replicate d 0) (i : Int)) xs := by
  intro d
  induction d with
  | zero =>
    intro i h
    refine Ev.step (f := fun _ => some xs) (fun k => ?_) (Ev.now _)
    simp only [laws_toInt64S.l0]
    rw [if_neg (by omega)]
    simp [List.take_of_length_le (by omega : xs.length ≤ i)]
  | succ d ih =>
    intro i h
    refine Ev.step (fun k => ?_) (ih (i + 1) (by omega))
    simp only [laws_toInt64S.l0]
    rw [if_pos (by omega), if_pos (by omega), if_pos (by simp; omega), w64 (by omega) (by omega)]
    have e : (xs.take i ++ List.replicate (d + 1) 0).set ((i : Int)).toNat (rd xs i) = xs.take (i + 1) ++ List.replicate d 0 := by
      rw [rd_get (by omega)]
      apply List.ext_getElem
      · simp; omega
      · intro j h1 h2
        simp only [List.getElem_set, List.getElem_append, List.getElem_take, List.getElem_replicate, List.length_take, Int.toNat_natCast]
        by_cases hj : i = j
        · subst hj; simp; omega
        · rw [if_neg hj]
          by_cases hj2 : j < i
          · rw [dif_pos (by omega), dif_pos (by omega)]
          · rw [dif_neg (by omega), dif_neg (by omega)]
    rw [e]
    push_cast
    rfl
theorem toInt64S_ev (xs : List Int) (hn : xs.length ≤ 1048576) : Ev (fun k => laws_toInt64S.f k xs) xs := by
  refine Ev.congr (fun k => ?_) (toInt64S_l0 xs hn xs.length 0 (by omega))
  unfold laws_toInt64S.f
  rw [if_pos (by omega), if_pos (by omega)]
  simp
theorem eqInt64S_l0 (xs : List Int) (hn : xs.length ≤ 1048576) : ∀ (d i : Nat), i + d = xs.length → Ev (fun k => laws_eqInt64S.l0 k xs xs (i : Int)) true := by
  intro d
  induction d with
  | zero =>
    intro i h
    refine Ev.step (f := fun _ => some true) (fun k => ?_) (Ev.now _)
    simp only [laws_eqInt64S.l0]
    rw [if_neg (by omega)]
  | succ d ih =>
    intro i h
    refine Ev.step (fun k => ?_) (ih (i + 1) (by omega))
    simp only [laws_eqInt64S.l0]
    rw [if_pos (by omega), if_pos (by omega), if_pos (by omega), if_pos trivial, w64 (by omega) (by omega)]
    push_cast
    rfl
theorem eqInt64S_ev (xs : List Int) (hn : xs.length ≤ 1048576) : Ev (fun k => laws_eqInt64S.f k xs xs) true := by
  refine Ev.congr (fun k => ?_) (eqInt64S_l0 xs hn xs.length 0 (by omega))
  unfold laws_eqInt64S.f
  rw [if_pos rfl]; rfl
-- part: loops
theorem getD_nat {α : Type} {xs : List α} {i : Nat} {d : α} (h : i < xs.length) : xs.getD (i : Int).toNat d = xs[i] := by
  simp [List.getD_eq_getElem?_getD, h]
/-- A loop that fills a row with what a function makes of each element. -/
theorem ev_copy {α β : Type} (L : Nat → List β → Int → Option (List β)) (xs : List α) (F : Nat → α → Option β) (f : α → β)
    (stop : ∀ k out, out.length = xs.length → L (k + 1) out (xs.length : Int) = some out)
    (step : ∀ k out (i : Nat) (h : i < xs.length), out.length = xs.length → L (k + 1) out (i : Int) = (F k xs[i]).bind fun y => L k (out.set i y) ((i + 1 : Nat) : Int))
    (hF : ∀ x ∈ xs, Ev (fun k => F k x) (f x)) (out : List β) (ho : out.length = xs.length) : Ev (fun k => L k out 0) (xs.map f) := by
  have key : ∀ (d i : Nat) (out : List β), i + d = xs.length → out.length = xs.length → out.take i = (xs.take i).map f → Ev (fun k => L k out (i : Int)) (xs.map f) := by
    intro d
    induction d with
    | zero =>
      intro i out h ho ht
      obtain rfl : i = xs.length := by omega
      refine Ev.step (f := fun _ => some _) (fun k => ?_) (Ev.now _)
      rw [stop k out ho]
      rw [List.take_of_length_le (by omega), List.take_of_length_le (by omega)] at ht
      rw [ht]
    | succ d ih =>
      intro i out h ho ht
      have hi : i < xs.length := by omega
      refine Ev.step (fun k => step k out i hi ho) (Ev.bind (hF _ (List.getElem_mem hi)) ?_)
      refine ih (i + 1) (out.set i (f xs[i])) (by omega) (by simpa using ho) ?_
      apply List.ext_getElem
      · simp; omega
      · intro j h1 h2
        simp at h1 h2
        simp only [List.getElem_take, List.getElem_set, List.getElem_map]
        by_cases hj : i = j
        · subst hj; rw [if_pos rfl]
        · rw [if_neg hj]
          have hj2 : j < i := by omega
          have e1 : (out.take i)[j]'(by simp; omega) = out[j] := by simp
          have e2 : ((xs.take i).map f)[j]'(by simp; omega) = f xs[j] := by simp
          rw [← e1, ← e2]
          simp only [ht]
  exact key xs.length 0 out (by omega) ho (by simp)
/-- A loop that stops with 'false' at the first element that fails. -/
theorem ev_all {α : Type} (L : Nat → Int → Option Bool) (xs : List α) (F : Nat → α → Option Bool) (P : α → Bool) (e : Bool)
    (stop : ∀ k, L (k + 1) (xs.length : Int) = some e)
    (step : ∀ k (i : Nat) (h : i < xs.length), L (k + 1) (i : Int) = (F k xs[i]).bind fun b => if b = true then L k ((i + 1 : Nat) : Int) else some false)
    (hF : ∀ x ∈ xs, Ev (fun k => F k x) (P x)) : Ev (fun k => L k 0) (xs.all P && e) := by
  have key : ∀ (d i : Nat), i + d = xs.length → Ev (fun k => L k (i : Int)) ((xs.drop i).all P && e) := by
    intro d
    induction d with
    | zero =>
      intro i h
      obtain rfl : i = xs.length := by omega
      refine Ev.step (f := fun _ => some _) (fun k => ?_) (Ev.now _)
      rw [stop k]
      simp
    | succ d ih =>
      intro i h
      have hi : i < xs.length := by omega
      refine Ev.step (fun k => step k i hi) (Ev.bind (hF _ (List.getElem_mem hi)) ?_)
      rw [List.drop_eq_getElem_cons hi, List.all_cons]
      cases hp : P xs[i] with
      | false => exact evNeg (by simp) (by simpa using Ev.now false)
      | true => exact evPos rfl (by simpa using ih (i + 1) (by omega))
  simpa using key xs.length 0 (by omega)
/-- A loop that tells the first place at which a test answers 'true'. -/
theorem ev_first {α : Type} (L : Nat → Int → Option Int) (xs : List α) (F : Nat → α → Option Bool) (P : α → Bool)
    (stop : ∀ k, L (k + 1) (xs.length : Int) = some (-1))
    (step : ∀ k (i : Nat) (h : i < xs.length), L (k + 1) (i : Int) = (F k xs[i]).bind fun b => if b = true then some (i : Int) else L k ((i + 1 : Nat) : Int))
    (hF : ∀ x ∈ xs, Ev (fun k => F k x) (P x)) : ∃ r, Ev (fun k => L k 0) r ∧ decide (r ≥ 0) = xs.any P := by
  have key : ∀ (d i : Nat), i + d = xs.length → ∃ r, Ev (fun k => L k (i : Int)) r ∧ decide (r ≥ 0) = (xs.drop i).any P := by
    intro d
    induction d with
    | zero =>
      intro i h
      obtain rfl : i = xs.length := by omega
      refine ⟨-1, Ev.step (f := fun _ => some _) (fun k => stop k) (Ev.now _), by simp⟩
    | succ d ih =>
      intro i h
      have hi : i < xs.length := by omega
      rw [List.drop_eq_getElem_cons hi, List.any_cons]
      cases hp : P xs[i] with
      | true =>
        refine ⟨(i : Int), Ev.step (fun k => step k i hi) (Ev.bind (hF _ (List.getElem_mem hi)) ?_), by simp⟩
        rw [hp]
        exact evPos rfl (Ev.now _)
      | false =>
        obtain ⟨r, hr, hr2⟩ := ih (i + 1) (by omega)
        refine ⟨r, Ev.step (fun k => step k i hi) (Ev.bind (hF _ (List.getElem_mem hi)) ?_), by simpa using hr2⟩
        rw [hp]
        exact evNeg (by simp) hr
  simpa using key xs.length 0 (by omega)
/-- What is left of a number of which each element takes its share; -1 if it doesn't suffice. -/
def less (s : Int) (w : Nat) : Int := if s < w then -1 else s - w
theorem less_neg (s : Int) (w : Nat) (h : 0 ≤ s) : less s w < 0 ↔ s < w := by unfold less; split <;> omega
theorem ev_sz {α : Type} (L : Nat → Int → Int → Option Int) (xs : List α) (F : Nat → α → Int → Option Int) (w : α → Nat)
    (stop : ∀ k s, L (k + 1) s (xs.length : Int) = some s)
    (step : ∀ k s (i : Nat) (h : i < xs.length), 0 ≤ s → s ≤ 1048576 → L (k + 1) s (i : Int) = (F k xs[i] s).bind fun t => if t < 0 then some (-1) else L k t ((i + 1 : Nat) : Int))
    (hF : ∀ x ∈ xs, ∀ s, 0 ≤ s → s ≤ 1048576 → Ev (fun k => F k x s) (less s (w x))) (s : Int) (h0 : 0 ≤ s) (h1 : s ≤ 1048576) : Ev (fun k => L k s 0) (less s (xs.map w).sum) := by
  have key : ∀ (d i : Nat) (s : Int), i + d = xs.length → 0 ≤ s → s ≤ 1048576 → Ev (fun k => L k s (i : Int)) (less s ((xs.drop i).map w).sum) := by
    intro d
    induction d with
    | zero =>
      intro i s h h0 h1
      obtain rfl : i = xs.length := by omega
      refine Ev.step (f := fun _ => some _) (fun k => ?_) (Ev.now _)
      rw [stop k s]
      simp [less]; omega
    | succ d ih =>
      intro i s h h0 h1
      have hi : i < xs.length := by omega
      refine Ev.step (fun k => step k s i hi h0 h1) (Ev.bind (hF _ (List.getElem_mem hi) s h0 h1) ?_)
      rw [List.drop_eq_getElem_cons hi, List.map_cons, List.sum_cons]
      by_cases hs : s < w xs[i]
      · have e1 : less s (w xs[i]) = -1 := by unfold less; rw [if_pos hs]
        have e2 : less s (w xs[i] + ((xs.drop (i + 1)).map w).sum) = -1 := by unfold less; rw [if_pos (by push_cast; omega)]
        rw [e1, e2]
        exact evPos (by omega) (Ev.now _)
      · have e1 : less s (w xs[i]) = s - w xs[i] := by unfold less; rw [if_neg hs]
        rw [e1]
        refine evNeg (by omega) ?_
        have := ih (i + 1) (s - w xs[i]) (by omega) (by omega) (by omega)
        have e2 : less (s - w xs[i]) ((xs.drop (i + 1)).map w).sum = less s (w xs[i] + ((xs.drop (i + 1)).map w).sum) := by
          unfold less
          push_cast
          by_cases h3 : s - w xs[i] < (((xs.drop (i + 1)).map w).sum : Nat)
          · rw [if_pos h3, if_pos (by omega)]
          · rw [if_neg h3, if_neg (by omega)]; omega
        rw [← e2]
        exact this
  simpa using key xs.length 0 s (by omega) h0 h1
theorem less_then {s : Int} {a b : Nat} (h0 : 0 ≤ s) (h : ¬ less s a < 0) : less s a = s - a ∧ 0 ≤ s - a ∧ less (s - a) b = less s (a + b) := by
  rw [less_neg s a h0] at h
  have e : less s a = s - a := by unfold less; rw [if_neg h]
  refine ⟨e, by omega, ?_⟩
  unfold less
  push_cast
  by_cases h3 : s - a < b
  · rw [if_pos h3, if_pos (by omega)]
  · rw [if_neg h3, if_neg (by omega)]; omega
theorem less_more {s : Int} {a b : Nat} (h0 : 0 ≤ s) (h : less s a < 0) : less s (a + b) = -1 := by
  rw [less_neg s a h0] at h
  unfold less
  rw [if_pos (by push_cast; omega)]
theorem less_none {s : Int} {a : Nat} (h0 : 0 ≤ s) (h : less s a < 0) : less s a = -1 := by
  rw [less_neg s a h0] at h
  unfold less
  rw [if_pos h]
-- part: intss
theorem szInt64S_ev (xs : List Int) (hl : xs.length ≤ 9223372036854775807) (s : Int) (h0 : 0 ≤ s) (h1 : s ≤ 1048576) : laws_szInt64S.f xs s = some (less s xs.length) := by
  unfold laws_szInt64S.f less
  rw [w64 (by omega) (by omega)]
  by_cases h : s < xs.length
  · rw [if_pos (by omega), if_pos h]
  · rw [if_neg (by omega), if_neg h]
/-- How much a list of lists weighs. -/
def wtL (xs : List (List Int)) : Nat := xs.length + (xs.map List.length).sum
theorem szInt64SS_ev (xs : List (List Int)) (hl : xs.length ≤ 9223372036854775807) (hx : ∀ x ∈ xs, x.length ≤ 9223372036854775807) (s : Int) (h0 : 0 ≤ s) (h1 : s ≤ 1048576) : Ev (fun k => laws_szInt64SS.f k xs s) (less s (wtL xs)) := by
  unfold laws_szInt64SS.f
  rw [w64 (by omega) (by omega)]
  by_cases h : s < xs.length
  · have e : less s (wtL xs) = -1 := by unfold less wtL; rw [if_pos (by push_cast; omega)]
    rw [e]
    exact evPos (by omega) (Ev.now _)
  · refine evNeg (by omega) ?_
    have e : less s (wtL xs) = less (s - xs.length) (xs.map List.length).sum := by
      have := (less_then (s := s) (a := xs.length) (b := (xs.map List.length).sum) h0 (by rw [less_neg _ _ h0]; exact h)).2.2
      exact this.symm
    rw [e]
    refine ev_sz (fun k s i => laws_szInt64SS.l0 k xs s i) xs (fun _ x s => laws_szInt64S.f x s) List.length ?_ ?_ ?_ _ (by omega) (by omega)
    · intro k s
      simp only [laws_szInt64SS.l0]
      rw [if_neg (by omega)]
    · intro k s i hi _ _
      simp only [laws_szInt64SS.l0, rd_L1]
      rw [if_pos (by omega), if_pos (by omega), getD_nat hi, w64 (by omega) (by omega)]
      push_cast
      rfl
    · intro x hx2 s h2 h3
      exact ⟨0, fun k _ => szInt64S_ev x (hx x hx2) s h2 h3⟩
/-- All lists are short. -/
def shortL (xs : List (List Int)) : Prop := xs.length ≤ 1048576 ∧ ∀ x ∈ xs, x.length ≤ 1048576
theorem sum_ge {α : Type} (w : α → Nat) {xs : List α} {x : α} (h : x ∈ xs) : w x ≤ (xs.map w).sum := by
  induction xs with
  | nil => simp at h
  | cons y ys ih =>
    rcases List.mem_cons.1 h with rfl | h
    · simp
    · have := ih h
      simp only [List.map_cons, List.sum_cons]; omega
theorem shortL_of {xs : List (List Int)} (h : wtL xs ≤ 1048576) : shortL xs := by
  unfold wtL at h
  refine ⟨by omega, fun x hx => ?_⟩
  have := sum_ge List.length hx
  omega
theorem toInt64SS_ev (xs : List (List Int)) (h : shortL xs) : Ev (fun k => laws_toInt64SS.f k xs) xs := by
  have := ev_copy (fun k out i => laws_toInt64SS.l0 k xs out i) xs (fun k x => laws_toInt64S.f k x) id (fun k out ho => by
      simp only [laws_toInt64SS.l0]
      rw [if_neg (by omega)]) (fun k out i hi ho => by
      simp only [laws_toInt64SS.l0, rd_L1]
      have := h.1
      rw [if_pos (by omega), if_pos (by omega), getD_nat hi, w64 (by omega) (by omega)]
      simp only [show ((i : Int) < (out.length : Int)) from by omega, if_true, Int.toNat_natCast]
      push_cast
      rfl) (fun x hx => toInt64S_ev x (h.2 x hx)) (List.replicate xs.length []) (by simp)
  rw [List.map_id] at this
  refine Ev.congr (fun k => ?_) this
  have := h.1
  unfold laws_toInt64SS.f
  rw [if_pos (by omega), if_pos (by omega)]
  simp
theorem eqInt64SS_ev (xs : List (List Int)) (h : shortL xs) : Ev (fun k => laws_eqInt64SS.f k xs xs) true := by
  have := ev_all (fun k i => laws_eqInt64SS.l0 k xs xs i) xs (fun k x => laws_eqInt64S.f k x x) (fun _ => true) true (fun k => by
      simp only [laws_eqInt64SS.l0]
      rw [if_neg (by omega)]) (fun k i hi => by
      simp only [laws_eqInt64SS.l0, rd_L1]
      have := h.1
      rw [if_pos (by omega), if_pos (by omega), if_pos (by omega), getD_nat hi, w64 (by omega) (by omega)]
      push_cast
      rfl) (fun x hx => eqInt64S_ev x (h.2 x hx))
  rw [Bool.and_true, show (xs.all fun _ => true) = true by simp] at this
  refine Ev.congr (fun k => ?_) this
  unfold laws_eqInt64SS.f
  rw [if_pos rfl]
-- part: rule
/-- How much a rule weighs. -/
def wtRule (a b c : List (List Int)) (d : List Int) : Nat := wtL a + wtL b + wtL c + d.length
theorem szRule_ev (a b c : List (List Int)) (d : List Int) (ha : a.length ≤ 9223372036854775807 ∧ ∀ x ∈ a, x.length ≤ 9223372036854775807) (hb : b.length ≤ 9223372036854775807 ∧ ∀ x ∈ b, x.length ≤ 9223372036854775807)
    (hc : c.length ≤ 9223372036854775807 ∧ ∀ x ∈ c, x.length ≤ 9223372036854775807) (hd : d.length ≤ 9223372036854775807) (s : Int) (h0 : 0 ≤ s) (h1 : s ≤ 1048576) : Ev (fun k => laws_szRule.f k a b c d s) (less s (wtRule a b c d)) := by
  unfold laws_szRule.f wtRule
  refine Ev.bind (szInt64SS_ev a ha.1 ha.2 s h0 h1) ?_
  by_cases n1 : less s (wtL a) < 0
  · rw [Nat.add_assoc, Nat.add_assoc, less_more h0 n1]
    exact evPos n1 (Ev.now _)
  refine evNeg n1 ?_
  obtain ⟨e1, p1, _⟩ := less_then (b := 0) h0 n1
  rw [e1]
  refine Ev.bind (szInt64SS_ev b hb.1 hb.2 _ p1 (by omega)) ?_
  have q1 := (less_then (b := wtL b) h0 n1).2.2
  rw [q1]
  by_cases n2 : less s (wtL a + wtL b) < 0
  · rw [Nat.add_assoc, less_more h0 n2]
    exact evPos n2 (Ev.now _)
  refine evNeg n2 ?_
  obtain ⟨e2, p2, _⟩ := less_then (b := 0) h0 n2
  rw [e2]
  refine Ev.bind (szInt64SS_ev c hc.1 hc.2 _ p2 (by omega)) ?_
  have q2 := (less_then (b := wtL c) h0 n2).2.2
  rw [q2]
  by_cases n3 : less s (wtL a + wtL b + wtL c) < 0
  · rw [less_more h0 n3]
    exact evPos n3 (Ev.now _)
  refine evNeg n3 ?_
  obtain ⟨e3, p3, _⟩ := less_then (b := 0) h0 n3
  rw [e3, szInt64S_ev d hd _ p3 (by omega)]
  have q3 := (less_then (b := d.length) h0 n3).2.2
  rw [q3]
  simp only [Option.bind_some]
  by_cases n4 : less s (wtL a + wtL b + wtL c + d.length) < 0
  · rw [less_none h0 n4]
    exact evPos (by omega) (Ev.now _)
  · exact evNeg n4 (Ev.now _)
theorem toRule_ev (a b c : List (List Int)) (d : List Int) (h : wtRule a b c d ≤ 1048576) : Ev (fun k => laws_toRule.f k a b c d) (a, b, c, d) := by
  unfold wtRule at h
  exact Ev.bind (toInt64SS_ev a (shortL_of (by omega))) (Ev.bind (toInt64SS_ev b (shortL_of (by omega))) (Ev.bind (toInt64SS_ev c (shortL_of (by omega))) (Ev.bind (toInt64S_ev d (by omega)) (Ev.now _))))
theorem eqRule_ev (a b c : List (List Int)) (d : List Int) (h : wtRule a b c d ≤ 1048576) : Ev (fun k => laws_eqRule.f k a b c d a b c d) true := by
  unfold wtRule at h
  exact Ev.bind (eqInt64SS_ev a (shortL_of (by omega))) (evPos rfl (Ev.bind (eqInt64SS_ev b (shortL_of (by omega))) (evPos rfl (Ev.bind (eqInt64SS_ev c (shortL_of (by omega))) (evPos rfl (Ev.bind (eqInt64S_ev d (by omega)) (evPos rfl (Ev.now _))))))))
-- part: validClass
/-- What one place of a class obeys. -/
def okAt (xs : List Int) (j : Nat) : Prop := 0 ≤ rd xs j ∧ rd xs j ≤ 39 ∧ (0 < j → rd xs ((j : Int) - 1) < rd xs j)
def VC (xs : List Int) : Prop := ∀ j : Nat, j < xs.length → okAt xs j
theorem l23Ok_l0 (xs : List Int) (hn : xs.length ≤ 1048576) : ∀ (d i : Nat), i + d = xs.length → ∃ b, Ev (fun k => spec_l23Ok.l0 k xs (i : Int)) b ∧ (b = true ↔ ∀ j : Nat, i ≤ j → j < xs.length → okAt xs j) := by
  intro d
  induction d with
  | zero =>
    intro i h
    refine ⟨true, Ev.step (f := fun _ => some true) (fun k => ?_) (Ev.now _), by simp; omega⟩
    simp only [spec_l23Ok.l0]
    rw [if_neg (by omega)]
  | succ d ih =>
    intro i h
    by_cases hok : okAt xs i
    · obtain ⟨b, hb, hbi⟩ := ih (i + 1) (by omega)
      refine ⟨b, Ev.step (fun k => ?_) hb, ?_⟩
      · obtain ⟨o1, o2, o3⟩ := hok
        simp only [spec_l23Ok.l0, spec_l00In.f]
        rw [if_pos (by omega), if_pos (by omega), if_pos o1, decide_eq_true o2]
        simp only [Option.bind_some, if_true]
        rw [w64 (x := (i : Int) + 1) (by omega) (by omega), w64 (x := (i : Int) - 1) (by omega) (by omega)]
        push_cast
        by_cases hi : (i : Int) > 0
        · have := o3 (by omega)
          rw [if_pos hi, if_pos (by omega), if_pos (by omega), if_neg (by omega)]
        · rw [if_neg hi]
      · rw [hbi]
        constructor
        · intro H j h1 h2
          by_cases hj : j = i
          · subst hj; exact hok
          · exact H j (by omega) h2
        · intro H j h1 h2
          exact H j (by omega) h2
    · refine ⟨false, Ev.step (f := fun _ => some false) (fun k => ?_) (Ev.now _), ?_⟩
      · simp only [spec_l23Ok.l0, spec_l00In.f]
        rw [if_pos (by omega), if_pos (by omega)]
        by_cases o1 : rd xs i ≥ 0
        · rw [if_pos o1]
          by_cases o2 : rd xs i ≤ 39
          · rw [decide_eq_true o2]
            simp only [Option.bind_some, if_true]
            rw [w64 (x := (i : Int) - 1) (by omega) (by omega)]
            by_cases hi : (i : Int) > 0
            · rw [if_pos hi, if_pos (by omega), if_pos (by omega), if_pos]
              refine Int.not_lt.1 fun h3 => hok ⟨o1, o2, fun _ => h3⟩
            · exact absurd ⟨o1, o2, fun h => by omega⟩ hok
          · rw [decide_eq_false o2]; simp
        · rw [if_neg o1]; simp
      · simp only [Bool.false_eq_true, false_iff]
        exact fun H => hok (H i (by omega) (by omega))
theorem l23Ok_ev (xs : List Int) (hn : xs.length ≤ 1048576) : ∃ b, Ev (fun k => spec_l23Ok.f k xs) b ∧ (b = true ↔ VC xs) := by
  obtain ⟨b, hb, h⟩ := l23Ok_l0 xs hn xs.length 0 (by omega)
  refine ⟨b, hb, ?_⟩
  rw [h]
  unfold VC
  simp
theorem validClass_l0 (xs : List Int) (hn : xs.length ≤ 1048576) : ∀ (d i : Nat), i + d = xs.length → ∃ b, Ev (fun k => impl_ValidClass.l0 k xs xs (xs.length : Int) (i : Int)) b ∧ (b = true ↔ ∀ j : Nat, i ≤ j → j < xs.length → okAt xs j) := by
  intro d
  induction d with
  | zero =>
    intro i h
    refine ⟨true, Ev.step (f := fun _ => some true) (fun k => ?_) (Ev.now _), by simp; omega⟩
    simp only [impl_ValidClass.l0]
    rw [if_neg (by omega)]
  | succ d ih =>
    intro i h
    by_cases hok : okAt xs i
    · obtain ⟨b, hb, hbi⟩ := ih (i + 1) (by omega)
      refine ⟨b, Ev.step (fun k => ?_) hb, ?_⟩
      · obtain ⟨o1, o2, o3⟩ := hok
        simp only [impl_ValidClass.l0, impl_isGlyphNumber.f]
        rw [if_pos (by omega), if_pos (by omega), if_pos (by omega), if_pos o1, decide_eq_true (by omega)]
        simp only [Option.bind_some, if_true]
        rw [w64 (x := (i : Int) + 1) (by omega) (by omega), w64 (x := (i : Int) - 1) (by omega) (by omega)]
        push_cast
        by_cases hi : (i : Int) > 0
        · have := o3 (by omega)
          rw [if_pos hi, if_pos (by omega), if_pos (by omega), if_neg (by omega)]
        · rw [if_neg hi]
      · rw [hbi]
        constructor
        · intro H j h1 h2
          by_cases hj : j = i
          · subst hj; exact hok
          · exact H j (by omega) h2
        · intro H j h1 h2
          exact H j (by omega) h2
    · refine ⟨false, Ev.step (f := fun _ => some false) (fun k => ?_) (Ev.now _), ?_⟩
      · simp only [impl_ValidClass.l0, impl_isGlyphNumber.f]
        rw [if_pos (by omega), if_pos (by omega), if_pos (by omega)]
        by_cases o1 : rd xs i ≥ 0
        · rw [if_pos o1]
          by_cases o2 : rd xs i ≤ 39
          · rw [decide_eq_true (by omega)]
            simp only [Option.bind_some, if_true]
            rw [w64 (x := (i : Int) - 1) (by omega) (by omega)]
            by_cases hi : (i : Int) > 0
            · rw [if_pos hi, if_pos (by omega), if_pos (by omega), if_pos]
              refine Int.not_lt.1 fun h3 => hok ⟨o1, o2, fun _ => h3⟩
            · exact absurd ⟨o1, o2, fun h => by omega⟩ hok
          · rw [decide_eq_false (by omega)]; simp
        · rw [if_neg o1]; simp
      · simp only [Bool.false_eq_true, false_iff]
        exact fun H => hok (H i (by omega) (by omega))
theorem validClass_ev (xs : List Int) (hn : xs.length ≤ 1048576) : ∃ b, Ev (fun k => impl_ValidClass.f k xs) b ∧ (b = true ↔ VC xs) := by
  obtain ⟨b, hb, h⟩ := validClass_l0 xs hn xs.length 0 (by omega)
  refine ⟨b, hb, ?_⟩
  rw [h]
  unfold VC
  simp
theorem valid_both (xs : List Int) (hn : xs.length ≤ 1048576) : ∃ b, Ev (fun k => spec_l23Ok.f k xs) b ∧ Ev (fun k => impl_ValidClass.f k xs) b ∧ (b = true ↔ VC xs) := by
  obtain ⟨b, h1, h2⟩ := l23Ok_ev xs hn
  obtain ⟨c, h3, h4⟩ := validClass_ev xs hn
  obtain rfl : b = c := by rw [Bool.eq_iff_iff, h2, h4]
  exact ⟨b, h1, h3, h2⟩
-- part: validRule
instance (xs : List Int) (j : Nat) : Decidable (okAt xs j) := by unfold okAt; infer_instance
instance (xs : List Int) : Decidable (VC xs) := by unfold VC; infer_instance
theorem l23Ok_dec (xs : List Int) (hn : xs.length ≤ 1048576) : Ev (fun k => spec_l23Ok.f k xs) (decide (VC xs)) := by
  obtain ⟨b, h, hb⟩ := l23Ok_ev xs hn
  have e : b = decide (VC xs) := by rw [Bool.eq_iff_iff, hb, decide_eq_true_iff]
  rwa [← e]
theorem validClass_dec (xs : List Int) (hn : xs.length ≤ 1048576) : Ev (fun k => impl_ValidClass.f k xs) (decide (VC xs)) := by
  obtain ⟨b, h, hb⟩ := validClass_ev xs hn
  have e : b = decide (VC xs) := by rw [Bool.eq_iff_iff, hb, decide_eq_true_iff]
  rwa [← e]
/-- A class that is not empty. -/
def fullC (xs : List Int) : Bool := decide (0 < xs.length) && decide (VC xs)
theorem specClass_ev (xs : List Int) (hn : xs.length ≤ 1048576) : Ev (fun k => spec_l25Class.f k xs) (fullC xs) := by
  unfold spec_l25Class.f fullC
  by_cases h : 0 < xs.length
  · rw [decide_eq_true h]
    exact evPos (by omega) (Ev.bind (l23Ok_dec xs hn) (Ev.now _))
  · rw [decide_eq_false h]
    exact evNeg (by omega) (Ev.now _)
theorem implFull_ev (xs : List Int) (hn : xs.length ≤ 1048576) : Ev (fun k => impl_fullClass.f k xs) (fullC xs) := by
  unfold impl_fullClass.f fullC
  by_cases h : 0 < xs.length
  · rw [decide_eq_true h]
    exact evPos (by omega) (Ev.bind (validClass_dec xs hn) (Ev.now _))
  · rw [decide_eq_false h]
    exact evNeg (by omega) (Ev.now _)
theorem in_f (a b c : Int) : spec_l00In.f a b c = some (decide (b ≤ a ∧ a ≤ c)) := by
  unfold spec_l00In.f
  by_cases h : a ≥ b <;> simp [h]
/-- Some numbers of classes that are not empty. -/
def fullCs (xs : List (List Int)) (least : Int) : Bool := xs.all fullC && decide (least ≤ (xs.length : Int) ∧ (xs.length : Int) ≤ 4)
theorem specClasses_ev (xs : List (List Int)) (h : xs.length ≤ 1048576 ∧ ∀ x ∈ xs, x.length ≤ 1048576) (least : Int) : Ev (fun k => spec_l25Classes.f k xs least) (fullCs xs least) := by
  refine ev_all (fun k i => spec_l25Classes.l0 k xs least i) xs (fun k x => spec_l25Class.f k x) fullC _ (fun k => ?_) (fun k i hi => ?_) (fun x hx => specClass_ev x (h.2 x hx))
  · simp only [spec_l25Classes.l0]
    rw [if_neg (by omega), in_f]
    rfl
  · simp only [spec_l25Classes.l0, rd_L1]
    have := h.1
    rw [if_pos (by omega), if_pos (by omega), getD_nat hi, w64 (by omega) (by omega)]
    push_cast
    rfl
theorem implClasses_ev (xs : List (List Int)) (h : xs.length ≤ 1048576 ∧ ∀ x ∈ xs, x.length ≤ 1048576) (least : Int) : Ev (fun k => impl_fullClasses.f k xs least 4) (fullCs xs least) := by
  unfold impl_fullClasses.f fullCs
  by_cases h1 : (xs.length : Int) ≥ least
  · refine evPos h1 ?_
    by_cases h2 : (xs.length : Int) ≤ 4
    · refine evPos h2 ?_
      obtain ⟨r, hr, hr2⟩ := ev_first (fun k i => slices_IndexFunc_int64_int64_by_impl_fullClasses_1.l0 k xs (xs.length : Int) i) xs (fun k x => impl_fullClasses_1.f k x) (fun x => !fullC x) (fun k => by
          simp only [slices_IndexFunc_int64_int64_by_impl_fullClasses_1.l0]
          rw [if_neg (by omega)]) (fun k i hi => by
          simp only [slices_IndexFunc_int64_int64_by_impl_fullClasses_1.l0, rd_L1]
          have := h.1
          rw [if_pos (by omega), if_pos (by omega), if_pos (by omega), getD_nat hi, w64 (by omega) (by omega)]
          push_cast
          rfl) (fun x hx => Ev.bind (implFull_ev x (h.2 x hx)) (Ev.now _))
      have e : (xs.all fullC && decide (least ≤ (xs.length : Int) ∧ (xs.length : Int) ≤ 4)) = !(decide (r ≥ 0)) := by
        rw [hr2, decide_eq_true ⟨h1, h2⟩, Bool.and_true, List.not_any_eq_all_not]
        simp
      rw [e]
      exact Ev.bind (Ev.bind hr (Ev.now _)) (Ev.now _)
    · rw [decide_eq_false (fun h => h2 h.2), Bool.and_false]
      exact evNeg h2 (Ev.now _)
  · rw [decide_eq_false (fun h => h1 h.1), Bool.and_false]
    exact evNeg h1 (Ev.now _)
/-- Glyph numbers. -/
def glyphs (d : List Int) : Bool := d.all fun g => decide (0 ≤ g ∧ g ≤ 39)
def ruleOk (a b c : List (List Int)) (d : List Int) : Bool := fullCs a 0 && fullCs b 1 && fullCs c 0 && decide (d.length ≤ 4) && glyphs d
theorem implOutput_ev (d : List Int) (hd : d.length ≤ 1048576) : Ev (fun k => slices_ContainsFunc_int64_int64_by_impl_ValidRule_1.f k d) (!glyphs d) := by
  obtain ⟨r, hr, hr2⟩ := ev_first (fun k i => slices_IndexFunc_int64_int64_by_impl_ValidRule_1.l0 k d (d.length : Int) i) d (fun _ x => impl_ValidRule_1.f x) (fun g => !decide (0 ≤ g ∧ g ≤ 39)) (fun k => by
      simp only [slices_IndexFunc_int64_int64_by_impl_ValidRule_1.l0]
      rw [if_neg (by omega)]) (fun k i hi => by
      simp only [slices_IndexFunc_int64_int64_by_impl_ValidRule_1.l0]
      rw [if_pos (by omega), if_pos (by omega), if_pos (by omega), rd_get hi, w64 (by omega) (by omega)]
      push_cast
      rfl) (fun x hx => ⟨0, fun k _ => by
      unfold impl_ValidRule_1.f impl_isGlyphNumber.f
      by_cases h : x ≥ 0
      · rw [if_pos h]
        simp only [Option.bind_some, Option.some.injEq]
        rw [show decide (x < 40) = decide (0 ≤ x ∧ x ≤ 39) from decide_eq_decide.2 (by omega)]
      · rw [if_neg h]
        simp only [Option.bind_some, Option.some.injEq]
        rw [decide_eq_false (fun h2 : 0 ≤ x ∧ x ≤ 39 => h h2.1)]⟩)
  have e : (!glyphs d) = decide (r ≥ 0) := by rw [hr2, glyphs, List.not_all_eq_any_not]
  rw [e]
  exact Ev.bind hr (Ev.now _)
theorem implRule_ev (a b c : List (List Int)) (d : List Int) (ha : a.length ≤ 1048576 ∧ ∀ x ∈ a, x.length ≤ 1048576) (hb : b.length ≤ 1048576 ∧ ∀ x ∈ b, x.length ≤ 1048576) (hc : c.length ≤ 1048576 ∧ ∀ x ∈ c, x.length ≤ 1048576) (hd : d.length ≤ 1048576) :
    Ev (fun k => impl_ValidRule.f k a b c d) (ruleOk a b c d) := by
  unfold ruleOk
  refine Ev.bind (implClasses_ev a ha 0) ?_
  cases fullCs a 0 with
  | false => exact evNeg (by simp) (by simpa using Ev.now false)
  | true =>
    refine evPos rfl (Ev.bind (implClasses_ev b hb 1) ?_)
    cases fullCs b 1 with
    | false => exact evNeg (by simp) (by simpa using Ev.now false)
    | true =>
      refine evPos rfl (Ev.bind (implClasses_ev c hc 0) ?_)
      cases fullCs c 0 with
      | false => exact evNeg (by simp) (by simpa using Ev.now false)
      | true =>
        refine evPos rfl ?_
        by_cases h : d.length ≤ 4
        · rw [decide_eq_true h]
          exact evPos (by omega) (Ev.bind (implOutput_ev d hd) (by simpa using Ev.now (glyphs d)))
        · rw [decide_eq_false h]
          exact evNeg (by omega) (by simpa using Ev.now false)
-- part: specRuleAt
theorem specRule_ev (xs : List S71) (i : Int) (a b c : List (List Int)) (d : List Int) (hx : rd_T71 xs i = ⟨a, b, c, d⟩) (ha : a.length ≤ 1048576 ∧ ∀ x ∈ a, x.length ≤ 1048576) (hb : b.length ≤ 1048576 ∧ ∀ x ∈ b, x.length ≤ 1048576) (hc : c.length ≤ 1048576 ∧ ∀ x ∈ c, x.length ≤ 1048576) (hd : d.length ≤ 1048576) :
    Ev (fun k => spec_l25Rule_at.f k xs i) (ruleOk a b c d) := by
  have key : ∀ (m j : Nat), j + m = d.length → Ev (fun k => spec_l25Rule_at.l0 k (j : Int) xs i) ((d.drop j).all (fun g => decide (0 ≤ g ∧ g ≤ 39)) && (fullCs a 0 && fullCs b 1 && fullCs c 0 && decide (d.length ≤ 4))) := by
    intro m
    induction m with
    | zero =>
      intro j h
      rw [List.drop_of_length_le (by omega), List.all_nil, Bool.true_and]
      refine Ev.step (fun k => by simp only [spec_l25Rule_at.l0, hx]; rw [if_neg (by omega)]) ?_
      refine Ev.bind (specClasses_ev a ha 0) ?_
      cases fullCs a 0 with
      | false => exact evNeg (by simp) (by simpa using Ev.now false)
      | true =>
        refine evPos rfl (Ev.bind (specClasses_ev b hb 1) ?_)
        cases fullCs b 1 with
        | false => exact evNeg (by simp) (by simpa using Ev.now false)
        | true =>
          refine evPos rfl (Ev.bind (specClasses_ev c hc 0) ?_)
          cases fullCs c 0 with
          | false => exact evNeg (by simp) (by simpa using Ev.now false)
          | true =>
            refine evPos rfl ?_
            rw [show decide ((d.length : Int) ≤ 4) = decide (d.length ≤ 4) from decide_eq_decide.2 (by omega)]
            simpa using Ev.now (decide (d.length ≤ 4))
    | succ m ih =>
      intro j h
      have hj : j < d.length := by omega
      rw [List.drop_eq_getElem_cons hj, List.all_cons]
      refine Ev.step (fun k => by
        simp only [spec_l25Rule_at.l0, hx, in_f, Option.bind_some]
        rw [if_pos (by omega), if_pos (by omega), rd_get hj, w64 (by omega) (by omega)]) ?_
      by_cases hg : 0 ≤ d[j] ∧ d[j] ≤ 39
      · rw [decide_eq_true hg]
        refine evPos rfl ?_
        simpa using ih (j + 1) (by omega)
      · rw [decide_eq_false hg]
        exact evNeg (by simp) (by simpa using Ev.now false)
  have := key d.length 0 (by omega)
  have e : ruleOk a b c d = ((d.drop 0).all (fun g => decide (0 ≤ g ∧ g ≤ 39)) && (fullCs a 0 && fullCs b 1 && fullCs c 0 && decide (d.length ≤ 4))) := by
    unfold ruleOk glyphs
    rw [List.drop_zero, Bool.and_comm]
  rw [e]
  exact this
-- part: the law
theorem FnExactValidRule : Owed := by
  intro a b c d wa wb wc wd
  apply Ev.rounds
  refine Ev.bind (szRule_ev a b c d ⟨wa.1, fun x hx => (wa.2 x hx).1⟩ ⟨wb.1, fun x hx => (wb.2 x hx).1⟩ ⟨wc.1, fun x hx => (wc.2 x hx).1⟩ wd.1 1048576 (by omega) (by omega)) ?_
  by_cases h : less 1048576 (wtRule a b c d) < 0
  · exact evPos h (Ev.now true)
  refine evNeg h ?_
  have hw : wtRule a b c d ≤ 1048576 := by rw [less_neg _ _ (by omega)] at h; omega
  have hw2 := hw
  unfold wtRule at hw2
  have sa := shortL_of (xs := a) (by omega)
  have sb := shortL_of (xs := b) (by omega)
  have sc := shortL_of (xs := c) (by omega)
  have t := toRule_ev a b c d hw
  have s1 : Ev (fun k => spec_ValidRule.f k a b c d) (ruleOk a b c d) := Ev.bind (specRule_ev [⟨a, b, c, d⟩] 0 a b c d rfl sa sb sc (by omega)) (Ev.now _)
  have s2 := implRule_ev a b c d sa sb sc (by omega)
  refine Ev.bind t (Ev.bind s1 (Ev.bind t (Ev.bind s2 (evNeg (by simp) (Ev.bind t (Ev.bind (eqRule_ev a b c d hw) (evPos rfl (Ev.now true))))))))
end Go.Proofs.Ytkjnlnkleplfhaa.Pure
