/- The plain statement of FnExactRuleText: the program and the reference agree on every input that the guards let in. -/
import Derived.Test.YtdahcapolipnbaaArgFnExactRuleText
namespace Go.Proofs.Ytdahcapolipnbaa.Pure
open Go.RowKit Go.Proofs.Ytdahcapolipnbaa.QFnExactRuleText Go.Proofs.Ytdahcapolipnbaa.ArgFnExactRuleText Go.Proofs.YtdahcapolipnbaaW.PrintWords Go.Proofs.YtdahcapolipnbaaW.PrintLast Go.Proofs.YtdahcapolipnbaaW.PrintMore
set_option linter.unusedVariables false
set_option linter.unusedSimpArgs false
-- part: base
theorem w64 {x : Int} (h : -9223372036854775808 ≤ x) (h' : x < 9223372036854775808) : wrap64 x = x := by
  unfold wrap64; omega
theorem evPos {α : Type} {c : Prop} [Decidable c] {g f : Nat → Option α} {r : α} (h : c) (k : Ev g r) : Ev (fun n => if c then g n else f n) r := by
  simpa only [if_pos h] using k
theorem evNeg {α : Type} {c : Prop} [Decidable c] {g f : Nat → Option α} {r : α} (h : ¬ c) (k : Ev f r) : Ev (fun n => if c then g n else f n) r := by
  simpa only [if_neg h] using k
theorem rd_get {xs : List Int} {i : Nat} (h : i < xs.length) : rd xs (i : Int) = xs[i] := by
  simp [rd, h]
/-- The numbers from s on, n of them. -/
def marks (s : Int) : Nat → List Int
  | 0 => []
  | n + 1 => s :: marks (s + 1) n
theorem marks_length (s : Int) (n : Nat) : (marks s n).length = n := by
  induction n generalizing s with
  | zero => rfl
  | succ n ih => simp [marks, ih]
theorem marks_get (s : Int) (n : Nat) : ∀ (i : Nat) (h : i < (marks s n).length), (marks s n)[i] = s + i := by
  induction n generalizing s with
  | zero => intro i h; simp [marks] at h
  | succ n ih =>
    intro i h
    cases i with
    | zero => simp [marks]
    | succ i => simp only [marks, List.getElem_cons_succ]; rw [ih]; push_cast; omega
theorem marks_snoc (s : Int) (n : Nat) : marks s (n + 1) = marks s n ++ [s + n] := by
  induction n generalizing s with
  | zero => simp [marks]
  | succ n ih => rw [marks, ih, marks]; simp; omega
-- part: eqInts
theorem eqInt64S_l0 (xs : List Int) (hn : xs.length ≤ 1099511627776) : ∀ (d i : Nat), i + d = xs.length → Ev (fun k => laws_eqInt64S.l0 k xs xs (i : Int)) true := by
  intro d
  induction d with
  | zero =>
    intro i h
    refine Ev.step (f := fun _ => some true) (fun k => ?_) (Ev.now _)
    simp only [laws_eqInt64S.l0]
    rw [if_neg (by omega)]
  | succ d ih =>
    intro i h
    refine Ev.step (fun k => ?_) (ih (i + 1) (by omega))
    simp only [laws_eqInt64S.l0]
    rw [if_pos (by omega), if_pos (by omega), if_pos (by omega), if_pos trivial, w64 (by omega) (by omega)]
    push_cast
    rfl
theorem eqInt64S_ev (xs : List Int) (hn : xs.length ≤ 1099511627776) : Ev (fun k => laws_eqInt64S.f k xs xs) true := by
  refine Ev.congr (fun k => ?_) (eqInt64S_l0 xs hn xs.length 0 (by omega))
  unfold laws_eqInt64S.f
  rw [if_pos rfl]; rfl
-- part: copyInts
theorem toInt64S_l0 (xs : List Int) (hn : xs.length ≤ 1099511627776) : ∀ (d i : Nat), i + d = xs.length → Ev (fun k => laws_toInt64S.l0 k xs (xs.take i ++ List.replicate d 0) (i : Int)) xs := by
  intro d
  induction d with
  | zero =>
    intro i h
    refine Ev.step (f := fun _ => some xs) (fun k => ?_) (Ev.now _)
    simp only [laws_toInt64S.l0]
    rw [if_neg (by omega)]
    simp [List.take_of_length_le (by omega : xs.length ≤ i)]
  | succ d ih =>
    intro i h
    refine Ev.step (fun k => ?_) (ih (i + 1) (by omega))
    simp only [laws_toInt64S.l0]
    rw [if_pos (by omega), if_pos (by omega), if_pos (by simp; omega), w64 (by omega) (by omega)]
    have e : (xs.take i ++ List.replicate (d + 1) 0).set ((i : Int)).toNat (rd xs i) = xs.take (i + 1) ++ List.replicate d 0 := by
      rw [rd_get (by omega)]
      apply List.ext_getElem
      · simp; omega
      · intro j h1 h2
        simp only [List.getElem_set, List.getElem_append, List.getElem_take, List.getElem_replicate, List.length_take, Int.toNat_natCast]
        by_cases hj : i = j
        · subst hj; simp; omega
        · rw [if_neg hj]
          by_cases hj2 : j < i
          · rw [dif_pos (by omega), dif_pos (by omega)]
          · rw [dif_neg (by omega), dif_neg (by omega)]
    rw [e]
    push_cast
    rfl
theorem toInt64S_ev (xs : List Int) (hn : xs.length ≤ 1099511627776) : Ev (fun k => laws_toInt64S.f k xs) xs := by
  refine Ev.congr (fun k => ?_) (toInt64S_l0 xs hn xs.length 0 (by omega))
  unfold laws_toInt64S.f
  rw [if_pos (by omega), if_pos (by omega)]
  simp
-- part: loops
theorem getD_nat {α : Type} {xs : List α} {i : Nat} {d : α} (h : i < xs.length) : xs.getD (i : Int).toNat d = xs[i] := by
  simp [List.getD_eq_getElem?_getD, h]
/-- A loop that fills a row with what a function makes of each element. -/
theorem ev_copy {α β : Type} (L : Nat → List β → Int → Option (List β)) (xs : List α) (F : Nat → α → Option β) (f : α → β)
    (stop : ∀ k out, out.length = xs.length → L (k + 1) out (xs.length : Int) = some out)
    (step : ∀ k out (i : Nat) (h : i < xs.length), out.length = xs.length → L (k + 1) out (i : Int) = (F k xs[i]).bind fun y => L k (out.set i y) ((i + 1 : Nat) : Int))
    (hF : ∀ x ∈ xs, Ev (fun k => F k x) (f x)) (out : List β) (ho : out.length = xs.length) : Ev (fun k => L k out 0) (xs.map f) := by
  have key : ∀ (d i : Nat) (out : List β), i + d = xs.length → out.length = xs.length → out.take i = (xs.take i).map f → Ev (fun k => L k out (i : Int)) (xs.map f) := by
    intro d
    induction d with
    | zero =>
      intro i out h ho ht
      obtain rfl : i = xs.length := by omega
      refine Ev.step (f := fun _ => some _) (fun k => ?_) (Ev.now _)
      rw [stop k out ho]
      rw [List.take_of_length_le (by omega), List.take_of_length_le (by omega)] at ht
      rw [ht]
    | succ d ih =>
      intro i out h ho ht
      have hi : i < xs.length := by omega
      refine Ev.step (fun k => step k out i hi ho) (Ev.bind (hF _ (List.getElem_mem hi)) ?_)
      refine ih (i + 1) (out.set i (f xs[i])) (by omega) (by simpa using ho) ?_
      apply List.ext_getElem
      · simp; omega
      · intro j h1 h2
        simp at h1 h2
        simp only [List.getElem_take, List.getElem_set, List.getElem_map]
        by_cases hj : i = j
        · subst hj; rw [if_pos rfl]
        · rw [if_neg hj]
          have hj2 : j < i := by omega
          have e1 : (out.take i)[j]'(by simp; omega) = out[j] := by simp
          have e2 : ((xs.take i).map f)[j]'(by simp; omega) = f xs[j] := by simp
          rw [← e1, ← e2]
          simp only [ht]
  exact key xs.length 0 out (by omega) ho (by simp)
/-- A loop that stops with 'false' at the first element that fails. -/
theorem ev_all {α : Type} (L : Nat → Int → Option Bool) (xs : List α) (F : Nat → α → Option Bool) (P : α → Bool) (e : Bool)
    (stop : ∀ k, L (k + 1) (xs.length : Int) = some e)
    (step : ∀ k (i : Nat) (h : i < xs.length), L (k + 1) (i : Int) = (F k xs[i]).bind fun b => if b = true then L k ((i + 1 : Nat) : Int) else some false)
    (hF : ∀ x ∈ xs, Ev (fun k => F k x) (P x)) : Ev (fun k => L k 0) (xs.all P && e) := by
  have key : ∀ (d i : Nat), i + d = xs.length → Ev (fun k => L k (i : Int)) ((xs.drop i).all P && e) := by
    intro d
    induction d with
    | zero =>
      intro i h
      obtain rfl : i = xs.length := by omega
      refine Ev.step (f := fun _ => some _) (fun k => ?_) (Ev.now _)
      rw [stop k]
      simp
    | succ d ih =>
      intro i h
      have hi : i < xs.length := by omega
      refine Ev.step (fun k => step k i hi) (Ev.bind (hF _ (List.getElem_mem hi)) ?_)
      rw [List.drop_eq_getElem_cons hi, List.all_cons]
      cases hp : P xs[i] with
      | false => exact evNeg (by simp) (by simpa using Ev.now false)
      | true => exact evPos rfl (by simpa using ih (i + 1) (by omega))
  simpa using key xs.length 0 (by omega)
/-- A loop that tells the first place at which a test answers 'true'. -/
theorem ev_first {α : Type} (L : Nat → Int → Option Int) (xs : List α) (F : Nat → α → Option Bool) (P : α → Bool)
    (stop : ∀ k, L (k + 1) (xs.length : Int) = some (-1))
    (step : ∀ k (i : Nat) (h : i < xs.length), L (k + 1) (i : Int) = (F k xs[i]).bind fun b => if b = true then some (i : Int) else L k ((i + 1 : Nat) : Int))
    (hF : ∀ x ∈ xs, Ev (fun k => F k x) (P x)) : ∃ r, Ev (fun k => L k 0) r ∧ decide (r ≥ 0) = xs.any P := by
  have key : ∀ (d i : Nat), i + d = xs.length → ∃ r, Ev (fun k => L k (i : Int)) r ∧ decide (r ≥ 0) = (xs.drop i).any P := by
    intro d
    induction d with
    | zero =>
      intro i h
      obtain rfl : i = xs.length := by omega
      refine ⟨-1, Ev.step (f := fun _ => some _) (fun k => stop k) (Ev.now _), by simp⟩
    | succ d ih =>
      intro i h
      have hi : i < xs.length := by omega
      rw [List.drop_eq_getElem_cons hi, List.any_cons]
      cases hp : P xs[i] with
      | true =>
        refine ⟨(i : Int), Ev.step (fun k => step k i hi) (Ev.bind (hF _ (List.getElem_mem hi)) ?_), by simp⟩
        rw [hp]
        exact evPos rfl (Ev.now _)
      | false =>
        obtain ⟨r, hr, hr2⟩ := ih (i + 1) (by omega)
        refine ⟨r, Ev.step (fun k => step k i hi) (Ev.bind (hF _ (List.getElem_mem hi)) ?_), by simpa using hr2⟩
        rw [hp]
        exact evNeg (by simp) hr
  simpa using key xs.length 0 (by omega)
/-- What is left of a number of which each element takes its share; -1 if it doesn't suffice. -/
def less (s : Int) (w : Nat) : Int := if s < w then -1 else s - w
theorem less_neg (s : Int) (w : Nat) (h : 0 ≤ s) : less s w < 0 ↔ s < w := by unfold less; split <;> omega
theorem ev_sz {α : Type} (L : Nat → Int → Int → Option Int) (xs : List α) (F : Nat → α → Int → Option Int) (w : α → Nat)
    (stop : ∀ k s, L (k + 1) s (xs.length : Int) = some s)
    (step : ∀ k s (i : Nat) (h : i < xs.length), 0 ≤ s → s ≤ 1048576 → L (k + 1) s (i : Int) = (F k xs[i] s).bind fun t => if t < 0 then some (-1) else L k t ((i + 1 : Nat) : Int))
    (hF : ∀ x ∈ xs, ∀ s, 0 ≤ s → s ≤ 1048576 → Ev (fun k => F k x s) (less s (w x))) (s : Int) (h0 : 0 ≤ s) (h1 : s ≤ 1048576) : Ev (fun k => L k s 0) (less s (xs.map w).sum) := by
  have key : ∀ (d i : Nat) (s : Int), i + d = xs.length → 0 ≤ s → s ≤ 1048576 → Ev (fun k => L k s (i : Int)) (less s ((xs.drop i).map w).sum) := by
    intro d
    induction d with
    | zero =>
      intro i s h h0 h1
      obtain rfl : i = xs.length := by omega
      refine Ev.step (f := fun _ => some _) (fun k => ?_) (Ev.now _)
      rw [stop k s]
      simp [less]; omega
    | succ d ih =>
      intro i s h h0 h1
      have hi : i < xs.length := by omega
      refine Ev.step (fun k => step k s i hi h0 h1) (Ev.bind (hF _ (List.getElem_mem hi) s h0 h1) ?_)
      rw [List.drop_eq_getElem_cons hi, List.map_cons, List.sum_cons]
      by_cases hs : s < w xs[i]
      · have e1 : less s (w xs[i]) = -1 := by unfold less; rw [if_pos hs]
        have e2 : less s (w xs[i] + ((xs.drop (i + 1)).map w).sum) = -1 := by unfold less; rw [if_pos (by push_cast; omega)]
        rw [e1, e2]
        exact evPos (by omega) (Ev.now _)
      · have e1 : less s (w xs[i]) = s - w xs[i] := by unfold less; rw [if_neg hs]
        rw [e1]
        refine evNeg (by omega) ?_
        have := ih (i + 1) (s - w xs[i]) (by omega) (by omega) (by omega)
        have e2 : less (s - w xs[i]) ((xs.drop (i + 1)).map w).sum = less s (w xs[i] + ((xs.drop (i + 1)).map w).sum) := by
          unfold less
          push_cast
          by_cases h3 : s - w xs[i] < (((xs.drop (i + 1)).map w).sum : Nat)
          · rw [if_pos h3, if_pos (by omega)]
          · rw [if_neg h3, if_neg (by omega)]; omega
        rw [← e2]
        exact this
  simpa using key xs.length 0 s (by omega) h0 h1
theorem less_then {s : Int} {a b : Nat} (h0 : 0 ≤ s) (h : ¬ less s a < 0) : less s a = s - a ∧ 0 ≤ s - a ∧ less (s - a) b = less s (a + b) := by
  rw [less_neg s a h0] at h
  have e : less s a = s - a := by unfold less; rw [if_neg h]
  refine ⟨e, by omega, ?_⟩
  unfold less
  push_cast
  by_cases h3 : s - a < b
  · rw [if_pos h3, if_pos (by omega)]
  · rw [if_neg h3, if_neg (by omega)]; omega
theorem less_more {s : Int} {a b : Nat} (h0 : 0 ≤ s) (h : less s a < 0) : less s (a + b) = -1 := by
  rw [less_neg s a h0] at h
  unfold less
  rw [if_pos (by push_cast; omega)]
theorem less_none {s : Int} {a : Nat} (h0 : 0 ≤ s) (h : less s a < 0) : less s a = -1 := by
  rw [less_neg s a h0] at h
  unfold less
  rw [if_pos h]
-- part: intss
theorem szInt64S_ev (xs : List Int) (hl : xs.length ≤ 9223372036854775807) (s : Int) (h0 : 0 ≤ s) (h1 : s ≤ 1048576) : laws_szInt64S.f xs s = some (less s xs.length) := by
  unfold laws_szInt64S.f less
  rw [w64 (by omega) (by omega)]
  by_cases h : s < xs.length
  · rw [if_pos (by omega), if_pos h]
  · rw [if_neg (by omega), if_neg h]
/-- How much a list of lists weighs. -/
def wtL (xs : List (List Int)) : Nat := xs.length + (xs.map List.length).sum
theorem szInt64SS_ev (xs : List (List Int)) (hl : xs.length ≤ 9223372036854775807) (hx : ∀ x ∈ xs, x.length ≤ 9223372036854775807) (s : Int) (h0 : 0 ≤ s) (h1 : s ≤ 1048576) : Ev (fun k => laws_szInt64SS.f k xs s) (less s (wtL xs)) := by
  unfold laws_szInt64SS.f
  rw [w64 (by omega) (by omega)]
  by_cases h : s < xs.length
  · have e : less s (wtL xs) = -1 := by unfold less wtL; rw [if_pos (by push_cast; omega)]
    rw [e]
    exact evPos (by omega) (Ev.now _)
  · refine evNeg (by omega) ?_
    have e : less s (wtL xs) = less (s - xs.length) (xs.map List.length).sum := by
      have := (less_then (s := s) (a := xs.length) (b := (xs.map List.length).sum) h0 (by rw [less_neg _ _ h0]; exact h)).2.2
      exact this.symm
    rw [e]
    refine ev_sz (fun k s i => laws_szInt64SS.l0 k xs s i) xs (fun _ x s => laws_szInt64S.f x s) List.length ?_ ?_ ?_ _ (by omega) (by omega)
    · intro k s
      simp only [laws_szInt64SS.l0]
      rw [if_neg (by omega)]
    · intro k s i hi _ _
      simp only [laws_szInt64SS.l0, rd_L1]
      rw [if_pos (by omega), if_pos (by omega), getD_nat hi, w64 (by omega) (by omega)]
      push_cast
      rfl
    · intro x hx2 s h2 h3
      exact ⟨0, fun k _ => szInt64S_ev x (hx x hx2) s h2 h3⟩
/-- All lists are short. -/
def shortL (xs : List (List Int)) : Prop := xs.length ≤ 1048576 ∧ ∀ x ∈ xs, x.length ≤ 1048576
theorem sum_ge {α : Type} (w : α → Nat) {xs : List α} {x : α} (h : x ∈ xs) : w x ≤ (xs.map w).sum := by
  induction xs with
  | nil => simp at h
  | cons y ys ih =>
    rcases List.mem_cons.1 h with rfl | h
    · simp
    · have := ih h
      simp only [List.map_cons, List.sum_cons]; omega
theorem shortL_of {xs : List (List Int)} (h : wtL xs ≤ 1048576) : shortL xs := by
  unfold wtL at h
  refine ⟨by omega, fun x hx => ?_⟩
  have := sum_ge List.length hx
  omega
theorem toInt64SS_ev (xs : List (List Int)) (h : shortL xs) : Ev (fun k => laws_toInt64SS.f k xs) xs := by
  have := ev_copy (fun k out i => laws_toInt64SS.l0 k xs out i) xs (fun k x => laws_toInt64S.f k x) id (fun k out ho => by
      simp only [laws_toInt64SS.l0]
      rw [if_neg (by omega)]) (fun k out i hi ho => by
      simp only [laws_toInt64SS.l0, rd_L1]
      have := h.1
      rw [if_pos (by omega), if_pos (by omega), getD_nat hi, w64 (by omega) (by omega)]
      simp only [show ((i : Int) < (out.length : Int)) from by omega, if_true, Int.toNat_natCast]
      push_cast
      rfl) (fun x hx => toInt64S_ev x (by have := h.2 x hx; omega)) (List.replicate xs.length []) (by simp)
  rw [List.map_id] at this
  refine Ev.congr (fun k => ?_) this
  have := h.1
  unfold laws_toInt64SS.f
  rw [if_pos (by omega), if_pos (by omega)]
  simp
theorem eqInt64SS_ev (xs : List (List Int)) (h : shortL xs) : Ev (fun k => laws_eqInt64SS.f k xs xs) true := by
  have := ev_all (fun k i => laws_eqInt64SS.l0 k xs xs i) xs (fun k x => laws_eqInt64S.f k x x) (fun _ => true) true (fun k => by
      simp only [laws_eqInt64SS.l0]
      rw [if_neg (by omega)]) (fun k i hi => by
      simp only [laws_eqInt64SS.l0, rd_L1]
      have := h.1
      rw [if_pos (by omega), if_pos (by omega), if_pos (by omega), getD_nat hi, w64 (by omega) (by omega)]
      push_cast
      rfl) (fun x hx => eqInt64S_ev x (by have := h.2 x hx; omega))
  rw [Bool.and_true, show (xs.all fun _ => true) = true by simp] at this
  refine Ev.congr (fun k => ?_) this
  unfold laws_eqInt64SS.f
  rw [if_pos rfl]
-- part: rule
/-- How much a rule weighs. -/
def wtRule (a b c : List (List Int)) (d : List Int) : Nat := wtL a + wtL b + wtL c + d.length
theorem szRule_ev (a b c : List (List Int)) (d : List Int) (ha : a.length ≤ 9223372036854775807 ∧ ∀ x ∈ a, x.length ≤ 9223372036854775807) (hb : b.length ≤ 9223372036854775807 ∧ ∀ x ∈ b, x.length ≤ 9223372036854775807)
    (hc : c.length ≤ 9223372036854775807 ∧ ∀ x ∈ c, x.length ≤ 9223372036854775807) (hd : d.length ≤ 9223372036854775807) (s : Int) (h0 : 0 ≤ s) (h1 : s ≤ 1048576) : Ev (fun k => laws_szRule.f k a b c d s) (less s (wtRule a b c d)) := by
  unfold laws_szRule.f wtRule
  refine Ev.bind (szInt64SS_ev a ha.1 ha.2 s h0 h1) ?_
  by_cases n1 : less s (wtL a) < 0
  · rw [Nat.add_assoc, Nat.add_assoc, less_more h0 n1]
    exact evPos n1 (Ev.now _)
  refine evNeg n1 ?_
  obtain ⟨e1, p1, _⟩ := less_then (b := 0) h0 n1
  rw [e1]
  refine Ev.bind (szInt64SS_ev b hb.1 hb.2 _ p1 (by omega)) ?_
  have q1 := (less_then (b := wtL b) h0 n1).2.2
  rw [q1]
  by_cases n2 : less s (wtL a + wtL b) < 0
  · rw [Nat.add_assoc, less_more h0 n2]
    exact evPos n2 (Ev.now _)
  refine evNeg n2 ?_
  obtain ⟨e2, p2, _⟩ := less_then (b := 0) h0 n2
  rw [e2]
  refine Ev.bind (szInt64SS_ev c hc.1 hc.2 _ p2 (by omega)) ?_
  have q2 := (less_then (b := wtL c) h0 n2).2.2
  rw [q2]
  by_cases n3 : less s (wtL a + wtL b + wtL c) < 0
  · rw [less_more h0 n3]
    exact evPos n3 (Ev.now _)
  refine evNeg n3 ?_
  obtain ⟨e3, p3, _⟩ := less_then (b := 0) h0 n3
  rw [e3, szInt64S_ev d hd _ p3 (by omega)]
  have q3 := (less_then (b := d.length) h0 n3).2.2
  rw [q3]
  simp only [Option.bind_some]
  by_cases n4 : less s (wtL a + wtL b + wtL c + d.length) < 0
  · rw [less_none h0 n4]
    exact evPos (by omega) (Ev.now _)
  · exact evNeg n4 (Ev.now _)
theorem toRule_ev (a b c : List (List Int)) (d : List Int) (h : wtRule a b c d ≤ 1048576) : Ev (fun k => laws_toRule.f k a b c d) (a, b, c, d) := by
  unfold wtRule at h
  exact Ev.bind (toInt64SS_ev a (shortL_of (by omega))) (Ev.bind (toInt64SS_ev b (shortL_of (by omega))) (Ev.bind (toInt64SS_ev c (shortL_of (by omega))) (Ev.bind (toInt64S_ev d (by omega)) (Ev.now _))))
theorem eqRule_ev (a b c : List (List Int)) (d : List Int) (h : wtRule a b c d ≤ 1048576) : Ev (fun k => laws_eqRule.f k a b c d a b c d) true := by
  unfold wtRule at h
  exact Ev.bind (eqInt64SS_ev a (shortL_of (by omega))) (evPos rfl (Ev.bind (eqInt64SS_ev b (shortL_of (by omega))) (evPos rfl (Ev.bind (eqInt64SS_ev c (shortL_of (by omega))) (evPos rfl (Ev.bind (eqInt64S_ev d (by omega)) (evPos rfl (Ev.now _))))))))
-- part: vcSpec
/-- What one place of a class obeys. -/
def okAt (xs : List Int) (j : Nat) : Prop := 0 ≤ rd xs j ∧ rd xs j ≤ 39 ∧ (0 < j → rd xs ((j : Int) - 1) < rd xs j)
def VC (xs : List Int) : Prop := ∀ j : Nat, j < xs.length → okAt xs j
theorem l23Ok_l0 (xs : List Int) (hn : xs.length ≤ 1048576) : ∀ (d i : Nat), i + d = xs.length → ∃ b, Ev (fun k => spec_l23Ok.l0 k xs (i : Int)) b ∧ (b = true ↔ ∀ j : Nat, i ≤ j → j < xs.length → okAt xs j) := by
  intro d
  induction d with
  | zero =>
    intro i h
    refine ⟨true, Ev.step (f := fun _ => some true) (fun k => ?_) (Ev.now _), by simp; omega⟩
    simp only [spec_l23Ok.l0]
    rw [if_neg (by omega)]
  | succ d ih =>
    intro i h
    by_cases hok : okAt xs i
    · obtain ⟨b, hb, hbi⟩ := ih (i + 1) (by omega)
      refine ⟨b, Ev.step (fun k => ?_) hb, ?_⟩
      · obtain ⟨o1, o2, o3⟩ := hok
        simp only [spec_l23Ok.l0, spec_l00In.f]
        rw [if_pos (by omega), if_pos (by omega), if_pos o1, decide_eq_true o2]
        simp only [Option.bind_some, if_true]
        rw [w64 (x := (i : Int) + 1) (by omega) (by omega), w64 (x := (i : Int) - 1) (by omega) (by omega)]
        push_cast
        by_cases hi : (i : Int) > 0
        · have := o3 (by omega)
          rw [if_pos hi, if_pos (by omega), if_pos (by omega), if_neg (by omega)]
        · rw [if_neg hi]
      · rw [hbi]
        constructor
        · intro H j h1 h2
          by_cases hj : j = i
          · subst hj; exact hok
          · exact H j (by omega) h2
        · intro H j h1 h2
          exact H j (by omega) h2
    · refine ⟨false, Ev.step (f := fun _ => some false) (fun k => ?_) (Ev.now _), ?_⟩
      · simp only [spec_l23Ok.l0, spec_l00In.f]
        rw [if_pos (by omega), if_pos (by omega)]
        by_cases o1 : rd xs i ≥ 0
        · rw [if_pos o1]
          by_cases o2 : rd xs i ≤ 39
          · rw [decide_eq_true o2]
            simp only [Option.bind_some, if_true]
            rw [w64 (x := (i : Int) - 1) (by omega) (by omega)]
            by_cases hi : (i : Int) > 0
            · rw [if_pos hi, if_pos (by omega), if_pos (by omega), if_pos]
              refine Int.not_lt.1 fun h3 => hok ⟨o1, o2, fun _ => h3⟩
            · exact absurd ⟨o1, o2, fun h => by omega⟩ hok
          · rw [decide_eq_false o2]; simp
        · rw [if_neg o1]; simp
      · simp only [Bool.false_eq_true, false_iff]
        exact fun H => hok (H i (by omega) (by omega))
theorem l23Ok_ev (xs : List Int) (hn : xs.length ≤ 1048576) : ∃ b, Ev (fun k => spec_l23Ok.f k xs) b ∧ (b = true ↔ VC xs) := by
  obtain ⟨b, hb, h⟩ := l23Ok_l0 xs hn xs.length 0 (by omega)
  refine ⟨b, hb, ?_⟩
  rw [h]
  unfold VC
  simp
-- part: validClass
theorem validClass_l0 (xs : List Int) (hn : xs.length ≤ 1048576) : ∀ (d i : Nat), i + d = xs.length → ∃ b, Ev (fun k => impl_ValidClass.l0 k xs xs (xs.length : Int) (i : Int)) b ∧ (b = true ↔ ∀ j : Nat, i ≤ j → j < xs.length → okAt xs j) := by
  intro d
  induction d with
  | zero =>
    intro i h
    refine ⟨true, Ev.step (f := fun _ => some true) (fun k => ?_) (Ev.now _), by simp; omega⟩
    simp only [impl_ValidClass.l0]
    rw [if_neg (by omega)]
  | succ d ih =>
    intro i h
    by_cases hok : okAt xs i
    · obtain ⟨b, hb, hbi⟩ := ih (i + 1) (by omega)
      refine ⟨b, Ev.step (fun k => ?_) hb, ?_⟩
      · obtain ⟨o1, o2, o3⟩ := hok
        simp only [impl_ValidClass.l0, impl_isGlyphNumber.f]
        rw [if_pos (by omega), if_pos (by omega), if_pos (by omega), if_pos o1, decide_eq_true (by omega)]
        simp only [Option.bind_some, if_true]
        rw [w64 (x := (i : Int) + 1) (by omega) (by omega), w64 (x := (i : Int) - 1) (by omega) (by omega)]
        push_cast
        by_cases hi : (i : Int) > 0
        · have := o3 (by omega)
          rw [if_pos hi, if_pos (by omega), if_pos (by omega), if_neg (by omega)]
        · rw [if_neg hi]
      · rw [hbi]
        constructor
        · intro H j h1 h2
          by_cases hj : j = i
          · subst hj; exact hok
          · exact H j (by omega) h2
        · intro H j h1 h2
          exact H j (by omega) h2
    · refine ⟨false, Ev.step (f := fun _ => some false) (fun k => ?_) (Ev.now _), ?_⟩
      · simp only [impl_ValidClass.l0, impl_isGlyphNumber.f]
        rw [if_pos (by omega), if_pos (by omega), if_pos (by omega)]
        by_cases o1 : rd xs i ≥ 0
        · rw [if_pos o1]
          by_cases o2 : rd xs i ≤ 39
          · rw [decide_eq_true (by omega)]
            simp only [Option.bind_some, if_true]
            rw [w64 (x := (i : Int) - 1) (by omega) (by omega)]
            by_cases hi : (i : Int) > 0
            · rw [if_pos hi, if_pos (by omega), if_pos (by omega), if_pos]
              refine Int.not_lt.1 fun h3 => hok ⟨o1, o2, fun _ => h3⟩
            · exact absurd ⟨o1, o2, fun h => by omega⟩ hok
          · rw [decide_eq_false (by omega)]; simp
        · rw [if_neg o1]; simp
      · simp only [Bool.false_eq_true, false_iff]
        exact fun H => hok (H i (by omega) (by omega))
theorem validClass_ev (xs : List Int) (hn : xs.length ≤ 1048576) : ∃ b, Ev (fun k => impl_ValidClass.f k xs) b ∧ (b = true ↔ VC xs) := by
  obtain ⟨b, hb, h⟩ := validClass_l0 xs hn xs.length 0 (by omega)
  refine ⟨b, hb, ?_⟩
  rw [h]
  unfold VC
  simp
theorem valid_both (xs : List Int) (hn : xs.length ≤ 1048576) : ∃ b, Ev (fun k => spec_l23Ok.f k xs) b ∧ Ev (fun k => impl_ValidClass.f k xs) b ∧ (b = true ↔ VC xs) := by
  obtain ⟨b, h1, h2⟩ := l23Ok_ev xs hn
  obtain ⟨c, h3, h4⟩ := validClass_ev xs hn
  obtain rfl : b = c := by rw [Bool.eq_iff_iff, h2, h4]
  exact ⟨b, h1, h3, h2⟩
-- part: inF
theorem in_f (a b c : Int) : spec_l00In.f a b c = some (decide (b ≤ a ∧ a ≤ c)) := by
  unfold spec_l00In.f
  by_cases h : a ≥ b <;> simp [h]
-- part: validRule
instance (xs : List Int) (j : Nat) : Decidable (okAt xs j) := by unfold okAt; infer_instance
instance (xs : List Int) : Decidable (VC xs) := by unfold VC; infer_instance
theorem l23Ok_dec (xs : List Int) (hn : xs.length ≤ 1048576) : Ev (fun k => spec_l23Ok.f k xs) (decide (VC xs)) := by
  obtain ⟨b, h, hb⟩ := l23Ok_ev xs hn
  have e : b = decide (VC xs) := by rw [Bool.eq_iff_iff, hb, decide_eq_true_iff]
  rwa [← e]
theorem validClass_dec (xs : List Int) (hn : xs.length ≤ 1048576) : Ev (fun k => impl_ValidClass.f k xs) (decide (VC xs)) := by
  obtain ⟨b, h, hb⟩ := validClass_ev xs hn
  have e : b = decide (VC xs) := by rw [Bool.eq_iff_iff, hb, decide_eq_true_iff]
  rwa [← e]
/-- A class that is not empty. -/
def fullC (xs : List Int) : Bool := decide (0 < xs.length) && decide (VC xs)
theorem specClass_ev (xs : List Int) (hn : xs.length ≤ 1048576) : Ev (fun k => spec_l25Class.f k xs) (fullC xs) := by
  unfold spec_l25Class.f fullC
  by_cases h : 0 < xs.length
  · rw [decide_eq_true h]
    exact evPos (by omega) (Ev.bind (l23Ok_dec xs hn) (Ev.now _))
  · rw [decide_eq_false h]
    exact evNeg (by omega) (Ev.now _)
theorem implFull_ev (xs : List Int) (hn : xs.length ≤ 1048576) : Ev (fun k => impl_fullClass.f k xs) (fullC xs) := by
  unfold impl_fullClass.f fullC
  by_cases h : 0 < xs.length
  · rw [decide_eq_true h]
    exact evPos (by omega) (Ev.bind (validClass_dec xs hn) (Ev.now _))
  · rw [decide_eq_false h]
    exact evNeg (by omega) (Ev.now _)
/-- Some numbers of classes that are not empty. -/
def fullCs (xs : List (List Int)) (least : Int) : Bool := xs.all fullC && decide (least ≤ (xs.length : Int) ∧ (xs.length : Int) ≤ 4)
theorem specClasses_ev (xs : List (List Int)) (h : xs.length ≤ 1048576 ∧ ∀ x ∈ xs, x.length ≤ 1048576) (least : Int) : Ev (fun k => spec_l25Classes.f k xs least) (fullCs xs least) := by
  refine ev_all (fun k i => spec_l25Classes.l0 k xs least i) xs (fun k x => spec_l25Class.f k x) fullC _ (fun k => ?_) (fun k i hi => ?_) (fun x hx => specClass_ev x (h.2 x hx))
  · simp only [spec_l25Classes.l0]
    rw [if_neg (by omega), in_f]
    rfl
  · simp only [spec_l25Classes.l0, rd_L1]
    have := h.1
    rw [if_pos (by omega), if_pos (by omega), getD_nat hi, w64 (by omega) (by omega)]
    push_cast
    rfl
theorem implClasses_ev (xs : List (List Int)) (h : xs.length ≤ 1048576 ∧ ∀ x ∈ xs, x.length ≤ 1048576) (least : Int) : Ev (fun k => impl_fullClasses.f k xs least 4) (fullCs xs least) := by
  unfold impl_fullClasses.f fullCs
  by_cases h1 : (xs.length : Int) ≥ least
  · refine evPos h1 ?_
    by_cases h2 : (xs.length : Int) ≤ 4
    · refine evPos h2 ?_
      obtain ⟨r, hr, hr2⟩ := ev_first (fun k i => slices_IndexFunc_int64_int64_by_impl_fullClasses_1.l0 k xs (xs.length : Int) i) xs (fun k x => impl_fullClasses_1.f k x) (fun x => !fullC x) (fun k => by
          simp only [slices_IndexFunc_int64_int64_by_impl_fullClasses_1.l0]
          rw [if_neg (by omega)]) (fun k i hi => by
          simp only [slices_IndexFunc_int64_int64_by_impl_fullClasses_1.l0, rd_L1]
          have := h.1
          rw [if_pos (by omega), if_pos (by omega), if_pos (by omega), getD_nat hi, w64 (by omega) (by omega)]
          push_cast
          rfl) (fun x hx => Ev.bind (implFull_ev x (h.2 x hx)) (Ev.now _))
      have e : (xs.all fullC && decide (least ≤ (xs.length : Int) ∧ (xs.length : Int) ≤ 4)) = !(decide (r ≥ 0)) := by
        rw [hr2, decide_eq_true ⟨h1, h2⟩, Bool.and_true, List.not_any_eq_all_not]
        simp
      rw [e]
      exact Ev.bind (Ev.bind hr (Ev.now _)) (Ev.now _)
    · rw [decide_eq_false (fun h => h2 h.2), Bool.and_false]
      exact evNeg h2 (Ev.now _)
  · rw [decide_eq_false (fun h => h1 h.1), Bool.and_false]
    exact evNeg h1 (Ev.now _)
/-- Glyph numbers. -/
def glyphs (d : List Int) : Bool := d.all fun g => decide (0 ≤ g ∧ g ≤ 39)
def ruleOk (a b c : List (List Int)) (d : List Int) : Bool := fullCs a 0 && fullCs b 1 && fullCs c 0 && decide (d.length ≤ 4) && glyphs d
theorem implOutput_ev (d : List Int) (hd : d.length ≤ 1048576) : Ev (fun k => slices_ContainsFunc_int64_int64_by_impl_ValidRule_1.f k d) (!glyphs d) := by
  obtain ⟨r, hr, hr2⟩ := ev_first (fun k i => slices_IndexFunc_int64_int64_by_impl_ValidRule_1.l0 k d (d.length : Int) i) d (fun _ x => impl_ValidRule_1.f x) (fun g => !decide (0 ≤ g ∧ g ≤ 39)) (fun k => by
      simp only [slices_IndexFunc_int64_int64_by_impl_ValidRule_1.l0]
      rw [if_neg (by omega)]) (fun k i hi => by
      simp only [slices_IndexFunc_int64_int64_by_impl_ValidRule_1.l0]
      rw [if_pos (by omega), if_pos (by omega), if_pos (by omega), rd_get hi, w64 (by omega) (by omega)]
      push_cast
      rfl) (fun x hx => ⟨0, fun k _ => by
      unfold impl_ValidRule_1.f impl_isGlyphNumber.f
      by_cases h : x ≥ 0
      · rw [if_pos h]
        simp only [Option.bind_some, Option.some.injEq]
        rw [show decide (x < 40) = decide (0 ≤ x ∧ x ≤ 39) from decide_eq_decide.2 (by omega)]
      · rw [if_neg h]
        simp only [Option.bind_some, Option.some.injEq]
        rw [decide_eq_false (fun h2 : 0 ≤ x ∧ x ≤ 39 => h h2.1)]⟩)
  have e : (!glyphs d) = decide (r ≥ 0) := by rw [hr2, glyphs, List.not_all_eq_any_not]
  rw [e]
  exact Ev.bind hr (Ev.now _)
theorem implRule_ev (a b c : List (List Int)) (d : List Int) (ha : a.length ≤ 1048576 ∧ ∀ x ∈ a, x.length ≤ 1048576) (hb : b.length ≤ 1048576 ∧ ∀ x ∈ b, x.length ≤ 1048576) (hc : c.length ≤ 1048576 ∧ ∀ x ∈ c, x.length ≤ 1048576) (hd : d.length ≤ 1048576) :
    Ev (fun k => impl_ValidRule.f k a b c d) (ruleOk a b c d) := by
  unfold ruleOk
  refine Ev.bind (implClasses_ev a ha 0) ?_
  cases fullCs a 0 with
  | false => exact evNeg (by simp) (by simpa using Ev.now false)
  | true =>
    refine evPos rfl (Ev.bind (implClasses_ev b hb 1) ?_)
    cases fullCs b 1 with
    | false => exact evNeg (by simp) (by simpa using Ev.now false)
    | true =>
      refine evPos rfl (Ev.bind (implClasses_ev c hc 0) ?_)
      cases fullCs c 0 with
      | false => exact evNeg (by simp) (by simpa using Ev.now false)
      | true =>
        refine evPos rfl ?_
        by_cases h : d.length ≤ 4
        · rw [decide_eq_true h]
          exact evPos (by omega) (Ev.bind (implOutput_ev d hd) (by simpa using Ev.now (glyphs d)))
        · rw [decide_eq_false h]
          exact evNeg (by omega) (by simpa using Ev.now false)
-- part: specRuleAt
theorem specRule_ev (xs : List S38) (i : Int) (a b c : List (List Int)) (d : List Int) (hx : rd_T38 xs i = ⟨a, b, c, d⟩) (ha : a.length ≤ 1048576 ∧ ∀ x ∈ a, x.length ≤ 1048576) (hb : b.length ≤ 1048576 ∧ ∀ x ∈ b, x.length ≤ 1048576) (hc : c.length ≤ 1048576 ∧ ∀ x ∈ c, x.length ≤ 1048576) (hd : d.length ≤ 1048576) :
    Ev (fun k => spec_l25Rule_at.f k xs i) (ruleOk a b c d) := by
  have key : ∀ (m j : Nat), j + m = d.length → Ev (fun k => spec_l25Rule_at.l0 k (j : Int) xs i) ((d.drop j).all (fun g => decide (0 ≤ g ∧ g ≤ 39)) && (fullCs a 0 && fullCs b 1 && fullCs c 0 && decide (d.length ≤ 4))) := by
    intro m
    induction m with
    | zero =>
      intro j h
      rw [List.drop_of_length_le (by omega), List.all_nil, Bool.true_and]
      refine Ev.step (fun k => by simp only [spec_l25Rule_at.l0, hx]; rw [if_neg (by omega)]) ?_
      refine Ev.bind (specClasses_ev a ha 0) ?_
      cases fullCs a 0 with
      | false => exact evNeg (by simp) (by simpa using Ev.now false)
      | true =>
        refine evPos rfl (Ev.bind (specClasses_ev b hb 1) ?_)
        cases fullCs b 1 with
        | false => exact evNeg (by simp) (by simpa using Ev.now false)
        | true =>
          refine evPos rfl (Ev.bind (specClasses_ev c hc 0) ?_)
          cases fullCs c 0 with
          | false => exact evNeg (by simp) (by simpa using Ev.now false)
          | true =>
            refine evPos rfl ?_
            rw [show decide ((d.length : Int) ≤ 4) = decide (d.length ≤ 4) from decide_eq_decide.2 (by omega)]
            simpa using Ev.now (decide (d.length ≤ 4))
    | succ m ih =>
      intro j h
      have hj : j < d.length := by omega
      rw [List.drop_eq_getElem_cons hj, List.all_cons]
      refine Ev.step (fun k => by
        simp only [spec_l25Rule_at.l0, hx, in_f, Option.bind_some]
        rw [if_pos (by omega), if_pos (by omega), rd_get hj, w64 (by omega) (by omega)]) ?_
      by_cases hg : 0 ≤ d[j] ∧ d[j] ≤ 39
      · rw [decide_eq_true hg]
        refine evPos rfl ?_
        simpa using ih (j + 1) (by omega)
      · rw [decide_eq_false hg]
        exact evNeg (by simp) (by simpa using Ev.now false)
  have := key d.length 0 (by omega)
  have e : ruleOk a b c d = ((d.drop 0).all (fun g => decide (0 ≤ g ∧ g ≤ 39)) && (fullCs a 0 && fullCs b 1 && fullCs c 0 && decide (d.length ≤ 4))) := by
    unfold ruleOk glyphs
    rw [List.drop_zero, Bool.and_comm]
  rw [e]
  exact this
-- part: rdLI
theorem rdLI_get {cs : List (List Int)} {j : Nat} (h : j < cs.length) : rd_L1 cs (j : Int) = cs[j] := by
  simp [rd_L1, h]
-- part: bytes
theorem bx_ext {a b : ByteArray} (h : a.data.toList = b.data.toList) : a = b := by
  cases a; cases b; simp only at h; congr 1; exact Array.toList_inj.1 h
theorem bx_app (a b : ByteArray) : (a ++ b).data.toList = a.data.toList ++ b.data.toList := by
  rw [ByteArray.data_append]; simp
theorem bx_assoc (a b c : ByteArray) : (a ++ b) ++ c = a ++ (b ++ c) := by
  apply bx_ext; simp only [bx_app, List.append_assoc]
theorem bx_size (a b : ByteArray) : (a ++ b).size = a.size + b.size := ByteArray.size_append
theorem bx_nil (a : ByteArray) : (⟨#[]⟩ : ByteArray) ++ a = a := by apply bx_ext; rw [bx_app]; rfl
theorem bx_nil' (a : ByteArray) : a ++ (⟨#[]⟩ : ByteArray) = a := by apply bx_ext; rw [bx_app]; simp
theorem son_app (xs ys : List Int) : strOfNums (xs ++ ys) = strOfNums xs ++ strOfNums ys := by
  apply bx_ext; rw [bx_app]; simp only [strOfNums_data, List.map_append]
theorem son_cons (x : Int) (xs : List Int) : strOfNums (x :: xs) = strOfNums [x] ++ strOfNums xs := son_app [x] xs
-- part: dec
open Go.Proofs.Ytdahcapolipnbaa.Gv
/-- A number's decimal form. -/
def decB (n : Int) : ByteArray := strOfNums (decL n)
theorem decL_len (n : Int) (h0 : -9223372036854775808 ≤ n) (h1 : n ≤ 9223372036854775807) : (decL n).length ≤ 20 := by
  have := digP_len 19 n.natAbs (by omega) (by omega)
  unfold decL
  split
  · rw [List.length_cons]; omega
  · omega
theorem decB_size (n : Int) (h0 : -9223372036854775808 ≤ n) (h1 : n ≤ 9223372036854775807) : (decB n).size ≤ 20 := by
  unfold decB
  rw [strOfNums_size]
  exact decL_len n h0 h1
theorem implDec (n : Int) (h0 : -9223372036854775808 ≤ n) (h1 : n ≤ 9223372036854775807) : impl_Decimal.f n = some (decB n) := by
  unfold impl_Decimal.f decF
  rw [if_pos ⟨h0, h1⟩]
  rfl
def digZ (u : Nat) : List Int := if u = 0 then [] else digP u
theorem digZ_step (u : Nat) (h : u ≠ 0) (acc : List Int) : digZ u ++ acc = digZ (u / 10) ++ ((48 + ((u % 10 : Nat) : Int)) :: acc) := by
  unfold digZ
  rw [if_neg h]
  by_cases h9 : u < 10
  · rw [digP_one h9, if_pos (by omega), show u % 10 = u by omega]; rfl
  · rw [digP_more h9, if_neg (by omega), List.append_assoc]; rfl
def finD (x0 : Int) (l : List Int) : ByteArray := if l.length = 0 then ⟨#[48]⟩ else if x0 < 0 then (⟨#[45]⟩ : ByteArray) ++ strOfNums l else strOfNums l
theorem specDec_l0 (x0 : Int) : ∀ (n u : Nat) (kk : Int) (acc : List Int), u < 10 ^ n → kk.natAbs = u → acc.length + n ≤ 20 → -9223372036854775808 ≤ kk → kk ≤ 9223372036854775807 →
    Ev (fun k => spec_l01Dec.l0 k x0 acc kk) (finD x0 (digZ u ++ acc)) := by
  intro n
  have base : ∀ (acc : List Int), acc.length ≤ 20 → Ev (fun k => spec_l01Dec.l0 k x0 acc 0) (finD x0 (digZ 0 ++ acc)) := by
    intro acc ha
    refine Ev.step (f := fun _ => some _) (fun k => ?_) (Ev.now _)
    simp only [spec_l01Dec.l0]
    rw [if_pos trivial]
    show _ = some (finD x0 acc)
    unfold finD
    by_cases h0 : acc.length = 0
    · rw [if_pos (by omega), if_pos h0]
    · rw [if_neg (by omega), if_neg h0]
      by_cases hs : x0 < 0
      · rw [if_pos hs, if_pos hs, if_pos (by rw [strOfNums_size]; omega)]
      · rw [if_neg hs, if_neg hs]
  induction n with
  | zero =>
    intro u kk acc hu hk ha _ _
    have hu0 : u = 0 := by simpa using hu
    obtain rfl : kk = 0 := by omega
    subst hu0
    exact base acc (by omega)
  | succ n ih =>
    intro u kk acc hu hk ha hb0 hb1
    by_cases h0 : u = 0
    · obtain rfl : kk = 0 := by omega
      subst h0
      exact base acc (by omega)
    · have hk0 : ¬ kk = 0 := by omega
      have hu10 : u / 10 < 10 ^ n := by rw [Nat.pow_succ] at hu; omega
      have ht : Int.tmod kk 10 = if kk < 0 then -((u % 10 : Nat) : Int) else ((u % 10 : Nat) : Int) := by
        split
        · rename_i hs
          have e : kk = -(u : Int) := by omega
          rw [e, Int.neg_tmod, Int.tmod_eq_emod_of_nonneg (by omega)]; push_cast; rfl
        · rename_i hs
          have e : kk = (u : Int) := by omega
          rw [e, Int.tmod_eq_emod_of_nonneg (by omega)]; push_cast; rfl
      have hd : Int.tdiv kk 10 = if kk < 0 then -((u / 10 : Nat) : Int) else ((u / 10 : Nat) : Int) := by
        split
        · rename_i hs
          have e : kk = -(u : Int) := by omega
          rw [e, Int.neg_tdiv, Int.tdiv_eq_ediv_of_nonneg (by omega)]; push_cast; rfl
        · rename_i hs
          have e : kk = (u : Int) := by omega
          rw [e, Int.tdiv_eq_ediv_of_nonneg (by omega)]; push_cast; rfl
      generalize hT : Int.tmod kk 10 = T at ht
      generalize hD : Int.tdiv kk 10 = D at hd
      have hD' : D.natAbs = u / 10 ∧ -9223372036854775808 ≤ D ∧ D ≤ 9223372036854775807 := by
        rw [hd]; split <;> omega
      rw [digZ_step u h0]
      refine Ev.step (fun k => ?_) (ih (u / 10) D ((48 + ((u % 10 : Nat) : Int)) :: acc) hu10 hD'.1 (by simp only [List.length_cons]; omega) hD'.2.1 hD'.2.2)
      simp only [spec_l01Dec.l0]
      rw [if_neg hk0, hT, hD, w64 (x := D) (by omega) (by omega)]
      by_cases hm : T < 0
      · have hTu : -T = ((u % 10 : Nat) : Int) := by
          by_cases hq : kk < 0
          · rw [if_pos hq] at ht; omega
          · rw [if_neg hq] at ht; omega
        rw [if_pos hm]
        simp only [Option.bind_some]
        rw [if_pos (by simp only [List.length_singleton]; omega), hTu, w64 (x := ((u % 10 : Nat) : Int)) (by omega) (by omega), w64 (by omega) (by omega), show (48 + ((u % 10 : Nat) : Int)) % 256 = 48 + ((u % 10 : Nat) : Int) by omega]
        rfl
      · have hTu : T = ((u % 10 : Nat) : Int) := by
          by_cases hq : kk < 0
          · rw [if_pos hq] at ht; omega
          · rw [if_neg hq] at ht; omega
        rw [if_neg hm]
        simp only [Option.bind_some]
        rw [if_pos (by simp only [List.length_singleton]; omega), hTu, w64 (by omega) (by omega), show (48 + ((u % 10 : Nat) : Int)) % 256 = 48 + ((u % 10 : Nat) : Int) by omega]
        rfl
theorem specDec_ev (n : Int) (h0 : -9223372036854775808 ≤ n) (h1 : n ≤ 9223372036854775807) : Ev (fun k => spec_l01Dec.f k n) (decB n) := by
  have e : decB n = finD n (digZ n.natAbs ++ []) := by
    rw [List.append_nil]
    unfold decB decL finD digZ
    by_cases hz : n.natAbs = 0
    · obtain rfl : n = 0 := by omega
      rw [if_pos hz, if_neg (show ¬ (0 : Int) < 0 by omega), hz, digP_one (by omega)]
      rfl
    · have hp := digP_pos n.natAbs
      rw [if_neg hz, if_neg (show ¬ (digP n.natAbs).length = 0 by omega)]
      by_cases hs : n < 0
      · rw [if_pos hs, if_pos hs, son_cons]; rfl
      · rw [if_neg hs, if_neg hs]
  rw [e]
  exact specDec_l0 n 20 n.natAbs n [] (by omega) rfl (by simp) h0 h1
-- part: rangeRd
theorem rdR_get {xs : List S92} {i : Nat} (h : i < xs.length) : rd_T92 xs (i : Int) = xs[i] := by
  simp [rd_T92, h]
-- part: ranges
/-- One glyph more. -/
def joinR (out : List S92) (g : Int) : List S92 :=
  if 0 < out.length ∧ (rd_T92 out ((out.length : Int) - 1)).f1 = g - 1 then out.set (out.length - 1) ⟨(rd_T92 out ((out.length : Int) - 1)).f0, g⟩ else out ++ [⟨g, g⟩]
def rangesM (xs : List Int) : List S92 := xs.foldl joinR []
theorem joinR_length (out : List S92) (g : Int) : 0 < (joinR out g).length ∧ (joinR out g).length ≤ out.length + 1 := by
  unfold joinR
  split
  · rename_i h; simp; omega
  · simp
theorem joinR_last (out : List S92) (g : Int) : (rd_T92 (joinR out g) (((joinR out g).length : Int) - 1)).f1 = g := by
  obtain ⟨n, hn⟩ : ∃ n, (joinR out g).length = n + 1 := ⟨(joinR out g).length - 1, by have := joinR_length out g; omega⟩
  rw [hn, show (((n + 1 : Nat) : Int) - 1) = (n : Int) by omega, rdR_get (by omega)]
  unfold joinR at hn ⊢
  by_cases h : 0 < out.length ∧ (rd_T92 out ((out.length : Int) - 1)).f1 = g - 1
  · simp only [if_pos h, List.length_set] at hn ⊢
    simp [List.getElem_set, show out.length - 1 = n by omega]
  · simp only [if_neg h, List.length_append, List.length_singleton] at hn ⊢
    simp [List.getElem_append, show n = out.length by omega]
theorem implRanges_l0 (xs : List Int) (hn : xs.length ≤ 1048576) (hx : ∀ x ∈ xs, 0 ≤ x ∧ x ≤ 65535) : ∀ (d i : Nat) (out : List S92), i + d = xs.length → out.length ≤ i →
    Ev (fun k => impl_rangesOf.l0 k out xs (xs.length : Int) (i : Int)) ((xs.drop i).foldl joinR out) := by
  intro d
  induction d with
  | zero =>
    intro i out h ho
    refine Ev.step (f := fun _ => some _) (fun k => ?_) (Ev.now _)
    simp only [impl_rangesOf.l0]
    rw [if_neg (by omega), List.drop_of_length_le (by omega)]
    rfl
  | succ d ih =>
    intro i out h ho
    have hi : i < xs.length := by omega
    have hb := hx xs[i] (List.getElem_mem hi)
    rw [List.drop_eq_getElem_cons hi, List.foldl_cons]
    have hl := joinR_length out xs[i]
    refine Ev.step (fun k => ?_) (ih (i + 1) (joinR out xs[i]) (by omega) (by omega))
    simp only [impl_rangesOf.l0]
    rw [if_pos (by omega), if_pos (by omega), if_pos (by omega), rd_get hi, w64 (x := (i : Int) + 1) (by omega) (by omega), if_pos (by omega : out.length < 8796093022208), w64 (x := xs[i] - 1) (by omega) (by omega), w64 (x := (out.length : Int) - 1) (by omega) (by omega)]
    unfold joinR
    by_cases h1 : 0 < out.length
    · rw [if_pos (by omega), if_pos (by omega), if_pos (by omega)]
      by_cases h2 : (rd_T92 out ((out.length : Int) - 1)).f1 = xs[i] - 1
      · rw [if_pos h2, if_pos ⟨h1, h2⟩, show ((out.length : Int) - 1).toNat = out.length - 1 by omega]
        push_cast; rfl
      · rw [if_neg h2, if_neg (fun h => h2 h.2)]
        push_cast; rfl
    · rw [if_neg (by omega), if_neg (fun h => h1 h.1)]
      push_cast; rfl
theorem implRanges_ev (xs : List Int) (hn : xs.length ≤ 1048576) (hx : ∀ x ∈ xs, 0 ≤ x ∧ x ≤ 65535) : Ev (fun k => impl_rangesOf.f k xs) (rangesM xs) :=
  implRanges_l0 xs hn hx xs.length 0 [] (by omega) (by simp)
theorem specRanges_l0 (xs : List Int) (hn : xs.length ≤ 1048576) (hx : ∀ x ∈ xs, 0 ≤ x ∧ x ≤ 65535) : ∀ (d i : Nat) (out : List S92), i + d = xs.length → out.length ≤ i → (i = 0 → out = []) → (∀ j : Nat, i = j + 1 → 0 < out.length ∧ (rd_T92 out ((out.length : Int) - 1)).f1 = rd xs j) →
    Ev (fun k => spec_l23Ranges.l0 k xs out (i : Int)) ((xs.drop i).foldl joinR out) := by
  intro d
  induction d with
  | zero =>
    intro i out h ho h0 hj
    refine Ev.step (f := fun _ => some _) (fun k => ?_) (Ev.now _)
    simp only [spec_l23Ranges.l0]
    rw [if_neg (by omega), List.drop_of_length_le (by omega)]
    rfl
  | succ d ih =>
    intro i out h ho h0 hj
    have hi : i < xs.length := by omega
    have hb := hx xs[i] (List.getElem_mem hi)
    rw [List.drop_eq_getElem_cons hi, List.foldl_cons]
    have hl := joinR_length out xs[i]
    refine Ev.step (fun k => ?_) (ih (i + 1) (joinR out xs[i]) (by omega) (by omega) (by omega) (fun j e => ⟨hl.1, by rw [joinR_last, show j = i by omega, rd_get hi]⟩))
    simp only [spec_l23Ranges.l0]
    rw [if_pos (show (i : Int) < (xs.length : Int) by omega), rd_get hi, w64 (x := (i : Int) + 1) (by omega) (by omega), if_pos (by omega : out.length < 8796093022208)]
    unfold joinR
    cases i with
    | zero =>
      have e := h0 rfl
      subst e
      rw [if_neg (show ¬ (((0 : Nat) : Int) > 0) by omega), if_pos (show (0 : Int) ≤ ((0 : Nat) : Int) by omega), if_neg (by simp)]
      rfl
    | succ j =>
      obtain ⟨h1, h2⟩ := hj j rfl
      have hb' := hx xs[j] (List.getElem_mem (by omega))
      rw [if_pos (show ((j + 1 : Nat) : Int) > 0 by omega), if_pos (show (0 : Int) ≤ ((j + 1 : Nat) : Int) by omega), w64 (x := ((j + 1 : Nat) : Int) - 1) (by omega) (by omega), w64 (x := (out.length : Int) - 1) (by omega) (by omega), if_pos (by omega), if_pos (by omega), show (((j + 1 : Nat) : Int) - 1) = (j : Int) by omega, h2, rd_get (by omega), w64 (x := xs[j] + 1) (by omega) (by omega)]
      by_cases h3 : xs[j + 1] = xs[j] + 1
      · rw [if_pos h3, if_pos (show (0 : Int) ≤ (out.length : Int) - 1 by omega), if_pos (show (out.length : Int) - 1 < (out.length : Int) by omega), if_pos ⟨h1, by omega⟩, show ((out.length : Int) - 1).toNat = out.length - 1 by omega]
        push_cast; rfl
      · rw [if_neg h3, if_neg (fun h => h3 (by omega))]
        push_cast; rfl
theorem specRanges_ev (xs : List Int) (hn : xs.length ≤ 1048576) (hx : ∀ x ∈ xs, 0 ≤ x ∧ x ≤ 65535) : Ev (fun k => spec_l23Ranges.f k xs) (rangesM xs) :=
  specRanges_l0 xs hn hx xs.length 0 [] (by omega) (by simp) (by simp) (by simp)
theorem rangesM_length (xs : List Int) : (rangesM xs).length ≤ xs.length := by
  have key : ∀ (xs : List Int) (out : List S92), (xs.foldl joinR out).length ≤ out.length + xs.length := by
    intro xs
    induction xs with
    | nil => intro out; simp
    | cons x xs ih =>
      intro out
      have := ih (joinR out x)
      have := joinR_length out x
      simp only [List.foldl_cons, List.length_cons]
      omega
  simpa [rangesM] using key xs []
-- part: rangesOk
def okR (r : S92) : Prop := (0 ≤ r.f0 ∧ r.f0 ≤ 65535) ∧ 0 ≤ r.f1 ∧ r.f1 ≤ 65535
theorem joinR_ok (out : List S92) (g : Int) (ho : ∀ r ∈ out, okR r) (hg : 0 ≤ g ∧ g ≤ 65535) : ∀ r ∈ joinR out g, okR r := by
  intro r hr
  unfold joinR at hr
  split at hr
  · rename_i h
    rcases List.mem_or_eq_of_mem_set hr with h1 | h1
    · exact ho r h1
    · subst h1
      refine ⟨?_, hg⟩
      have hi : out.length - 1 < out.length := by omega
      have : rd_T92 out ((out.length : Int) - 1) = out[out.length - 1] := by
        rw [show ((out.length : Int) - 1) = ((out.length - 1 : Nat) : Int) by omega, rdR_get hi]
      simp only [this]
      exact (ho _ (List.getElem_mem hi)).1
  · rcases List.mem_append.1 hr with h1 | h1
    · exact ho r h1
    · rw [List.mem_singleton.1 h1]
      exact ⟨hg, hg⟩
theorem rangesM_ok (xs : List Int) (hx : ∀ x ∈ xs, 0 ≤ x ∧ x ≤ 65535) : ∀ r ∈ rangesM xs, okR r := by
  have key : ∀ (xs : List Int) (out : List S92), (∀ x ∈ xs, 0 ≤ x ∧ x ≤ 65535) → (∀ r ∈ out, okR r) → ∀ r ∈ xs.foldl joinR out, okR r := by
    intro xs
    induction xs with
    | nil => intro out _ ho; exact ho
    | cons x xs ih =>
      intro out hx ho
      rw [List.foldl_cons]
      exact ih _ (fun y hy => hx y (List.mem_cons_of_mem _ hy)) (joinR_ok out x ho (hx x List.mem_cons_self))
  exact key xs [] hx (by simp)
-- part: classText
/-- A range's text. -/
def wordT (r : S92) : ByteArray := if r.f1 > r.f0 then decB r.f0 ++ ((⟨#[45]⟩ : ByteArray) ++ decB r.f1) else decB r.f0
theorem wordT_size (r : S92) (h : okR r) : (wordT r).size ≤ 41 := by
  have h0 := decB_size r.f0 (by have := h.1.1; omega) (by have := h.1.2; omega)
  have h1 := decB_size r.f1 (by have := h.2.1; omega) (by have := h.2.2; omega)
  unfold wordT
  split
  · rw [bx_size, bx_size]
    have : (⟨#[45]⟩ : ByteArray).size = 1 := rfl
    omega
  · omega
theorem joinB_size (sep : ByteArray) (xs : List ByteArray) (b : Nat) (hs : sep.size ≤ 1) (hx : ∀ x ∈ xs, x.size ≤ b) : (joinB sep xs).size ≤ xs.length * (b + 1) := by
  cases xs with
  | nil => exact Nat.zero_le _
  | cons x r =>
    have key : ∀ (r : List ByteArray) (a : ByteArray), (∀ x ∈ r, x.size ≤ b) → (r.foldl (fun a y => (a ++ sep) ++ y) a).size ≤ a.size + r.length * (b + 1) := by
      intro r
      induction r with
      | nil => intro a _; simp
      | cons y r ih =>
        intro a hr
        rw [List.foldl_cons]
        have := ih ((a ++ sep) ++ y) (fun z hz => hr z (List.mem_cons_of_mem _ hz))
        have hy := hr y List.mem_cons_self
        rw [bx_size, bx_size] at this
        rw [List.length_cons, Nat.succ_mul]
        omega
    have h1 := key r x (fun z hz => hx z (List.mem_cons_of_mem _ hz))
    have h2 := hx x List.mem_cons_self
    show (r.foldl (fun a y => (a ++ sep) ++ y) x).size ≤ _
    rw [List.length_cons, Nat.succ_mul]
    omega
theorem implText_l0 (sep : ByteArray) (hs : sep.size ≤ 1) (rs : List S92) (hn : rs.length ≤ 1048576) (hr : ∀ r ∈ rs, okR r) : ∀ (d i : Nat) (acc : List ByteArray), i + d = rs.length → acc = (rs.take i).map wordT →
    Ev (fun k => impl_classText.l0 k sep acc rs (rs.length : Int) (i : Int)) (joinB sep (rs.map wordT)) := by
  intro d
  induction d with
  | zero =>
    intro i acc h ha
    obtain rfl : i = rs.length := by omega
    rw [List.take_length] at ha
    have hb := joinB_size sep acc 41 hs (by rw [ha]; intro x hx; obtain ⟨r, h1, rfl⟩ := List.mem_map.1 hx; exact wordT_size r (hr r h1))
    have hl : acc.length = rs.length := by rw [ha, List.length_map]
    refine Ev.step (f := fun _ => some _) (fun k => ?_) (Ev.now _)
    simp only [impl_classText.l0]
    rw [if_neg (by omega)]
    unfold strings_Join.f joinF
    rw [if_pos ⟨by omega, by omega⟩, ha]
    rfl
  | succ d ih =>
    intro i acc h ha
    have hi : i < rs.length := by omega
    have ho := hr rs[i] (List.getElem_mem hi)
    have hl : acc.length = i := by rw [ha, List.length_map, List.length_take]; omega
    have h0 := decB_size rs[i].f0 (by have := ho.1.1; omega) (by have := ho.1.2; omega)
    have h1 := decB_size rs[i].f1 (by have := ho.2.1; omega) (by have := ho.2.2; omega)
    have e45 : (⟨#[45]⟩ : ByteArray).size = 1 := rfl
    refine Ev.step (fun k => ?_) (ih (i + 1) (acc ++ [wordT rs[i]]) (by omega) (by rw [ha, List.take_succ_eq_append_getElem hi, List.map_append]; rfl))
    simp only [impl_classText.l0]
    rw [if_pos (by omega), if_pos (by omega), if_pos (by omega), rdR_get hi, implDec _ (by have := ho.1.1; omega) (by have := ho.1.2; omega), w64 (x := (i : Int) + 1) (by omega) (by omega)]
    simp only [Option.bind_some]
    unfold wordT
    by_cases hc : rs[i].f1 > rs[i].f0
    · rw [if_pos hc, if_pos hc, implDec _ (by have := ho.2.1; omega) (by have := ho.2.2; omega)]
      simp only [Option.bind_some]
      rw [if_pos (by omega), if_pos (by rw [bx_size]; omega), if_pos (by omega)]
      push_cast; rfl
    · rw [if_neg hc, if_neg hc, if_pos (by omega)]
      push_cast; rfl
theorem implText_ev (sep : ByteArray) (hs : sep.size ≤ 1) (xs : List Int) (hn : xs.length ≤ 1048576) (hx : ∀ x ∈ xs, 0 ≤ x ∧ x ≤ 65535) : Ev (fun k => impl_classText.f k xs sep) (joinB sep ((rangesM xs).map wordT)) := by
  have := rangesM_length xs
  refine Ev.bind (implRanges_ev xs hn hx) ?_
  exact implText_l0 sep hs _ (by omega) (rangesM_ok xs hx) (rangesM xs).length 0 [] (by omega) (by simp)
theorem specText_l0 (rs : List S92) (hn : rs.length ≤ 1048576) (hr : ∀ r ∈ rs, okR r) : ∀ (d i : Nat) (out : ByteArray), i + d = rs.length → out.size ≤ i * 42 → out = joinB (⟨#[32]⟩ : ByteArray) ((rs.take i).map wordT) →
    Ev (fun k => spec_l23Text.l0 k rs out (i : Int)) (joinB (⟨#[32]⟩ : ByteArray) (rs.map wordT)) := by
  intro d
  induction d with
  | zero =>
    intro i out h hs ho
    obtain rfl : i = rs.length := by omega
    rw [List.take_length] at ho
    refine Ev.step (f := fun _ => some _) (fun k => ?_) (Ev.now _)
    simp only [spec_l23Text.l0]
    rw [if_neg (by omega), ho]
  | succ d ih =>
    intro i out h hs ho
    have hi : i < rs.length := by omega
    have hok := hr rs[i] (List.getElem_mem hi)
    have h0 := decB_size rs[i].f0 (by have := hok.1.1; omega) (by have := hok.1.2; omega)
    have h1 := decB_size rs[i].f1 (by have := hok.2.1; omega) (by have := hok.2.2; omega)
    have hw := wordT_size rs[i] hok
    have e45 : (⟨#[45]⟩ : ByteArray).size = 1 := rfl
    have e32 : (⟨#[32]⟩ : ByteArray).size = 1 := rfl
    -- from the separator's end on
    have tail : ∀ (o : ByteArray), o.size ≤ i * 42 + 1 → o ++ wordT rs[i] = joinB (⟨#[32]⟩ : ByteArray) ((rs.take (i + 1)).map wordT) → Ev (fun k => spec_l23Text.j1 k rs o (i : Int)) (joinB (⟨#[32]⟩ : ByteArray) (rs.map wordT)) := by
      intro o hos hoe
      have hnext := ih (i + 1) (o ++ wordT rs[i]) (by omega) (by rw [bx_size]; omega) hoe
      refine Ev.step (fun k => by rw [spec_l23Text.j1]) ?_
      refine evPos (by omega) (evPos (by omega) ?_)
      rw [rdR_get hi]
      refine Ev.bind (specDec_ev _ (by have := hok.1.1; omega) (by have := hok.1.2; omega)) ?_
      refine evPos (by omega) ?_
      rw [w64 (x := (i : Int) + 1) (by omega) (by omega)]
      unfold wordT at hnext
      by_cases hc : rs[i].f1 > rs[i].f0
      · rw [if_pos hc, ← bx_assoc] at hnext
        refine evPos hc (Ev.bind (specDec_ev _ (by have := hok.2.1; omega) (by have := hok.2.2; omega)) ?_)
        refine evPos (by omega) (evPos (by rw [bx_size, bx_size]; omega) ?_)
        exact hnext
      · rw [if_neg hc] at hnext
        exact evNeg hc hnext
    refine Ev.step (fun k => by rw [spec_l23Text.l0]) (evPos (by omega) ?_)
    cases i with
    | zero =>
      refine evNeg (by omega) (tail out (by omega) ?_)
      have : out = ⟨#[]⟩ := by rw [ho]; rfl
      rw [this, bx_nil, List.take_succ_eq_append_getElem hi]
      rfl
    | succ j =>
      refine evPos (by omega) (evPos (by omega) (tail _ (by rw [bx_size]; omega) ?_))
      rw [ho, List.take_succ_eq_append_getElem hi, List.map_append]
      have hne : (rs.take (j + 1)).map wordT ≠ [] := by
        intro e
        have := congrArg List.length e
        simp only [List.length_map, List.length_take, List.length_nil] at this
        omega
      obtain ⟨x, r, hxr⟩ := List.exists_cons_of_ne_nil hne
      rw [hxr]
      show _ = (r ++ [wordT rs[j + 1]]).foldl (fun a y => (a ++ (⟨#[32]⟩ : ByteArray)) ++ y) x
      rw [List.foldl_append]
      rfl
theorem specText_ev (xs : List Int) (hn : xs.length ≤ 1048576) (hx : ∀ x ∈ xs, 0 ≤ x ∧ x ≤ 65535) : Ev (fun k => spec_l23Text.f k xs) (joinB (⟨#[32]⟩ : ByteArray) ((rangesM xs).map wordT)) := by
  have := rangesM_length xs
  refine Ev.bind (specRanges_ev xs hn hx) ?_
  exact specText_l0 _ (by omega) (rangesM_ok xs hx) (rangesM xs).length 0 (⟨#[]⟩ : ByteArray) (by omega) (Nat.le_of_eq rfl) rfl
-- part: sorted
theorem eq_of_strict : ∀ {xs ys : List Int}, xs.Pairwise (· < ·) → ys.Pairwise (· < ·) → (∀ x, x ∈ xs ↔ x ∈ ys) → xs = ys
  | [], [], _, _, _ => rfl
  | [], y :: ys, _, _, h => absurd ((h y).2 (List.mem_cons_self ..)) (by simp)
  | x :: xs, [], _, _, h => absurd ((h x).1 (List.mem_cons_self ..)) (by simp)
  | x :: xs, y :: ys, hx, hy, h => by
    have hx' := List.pairwise_cons.1 hx
    have hy' := List.pairwise_cons.1 hy
    have e : x = y := by
      rcases List.mem_cons.1 ((h x).1 (List.mem_cons_self ..)) with e | e
      · exact e
      · rcases List.mem_cons.1 ((h y).2 (List.mem_cons_self ..)) with e' | e'
        · exact e'.symm
        · have h1 := hx'.1 y e'
          have h2 := hy'.1 x e
          omega
    subst e
    refine congrArg (x :: ·) (eq_of_strict hx'.2 hy'.2 fun z => ⟨fun hz => ?_, fun hz => ?_⟩)
    · rcases List.mem_cons.1 ((h z).1 (List.mem_cons_of_mem _ hz)) with e | e
      · have := hx'.1 z hz; omega
      · exact e
    · rcases List.mem_cons.1 ((h z).2 (List.mem_cons_of_mem _ hz)) with e | e
      · have := hy'.1 z hz; omega
      · exact e
theorem VC.strict {xs : List Int} (h : VC xs) : xs.Pairwise (· < ·) := by
  rw [List.pairwise_iff_getElem]
  have key : ∀ (d i : Nat) (hi : i + d + 1 < xs.length), xs[i] < xs[i + d + 1] := by
    intro d
    induction d with
    | zero =>
      intro i hi
      have := (h (i + 1) hi).2.2 (by omega)
      rw [rd_get hi, show (((i + 1 : Nat) : Int) - 1) = (i : Int) by omega, rd_get (by omega)] at this
      exact this
    | succ d ih =>
      intro i hi
      have h1 := ih i (by omega)
      have := (h (i + (d + 1) + 1) hi).2.2 (by omega)
      rw [rd_get hi, show (((i + (d + 1) + 1 : Nat) : Int) - 1) = ((i + d + 1 : Nat) : Int) by omega, rd_get (by omega)] at this
      exact Int.lt_trans h1 this
  intro i j hi hj hij
  obtain ⟨d, rfl⟩ : ∃ d, j = i + d + 1 := ⟨j - i - 1, by omega⟩
  exact key d i hj
theorem VC.range {xs : List Int} (h : VC xs) {x : Int} (hx : x ∈ xs) : 0 ≤ x ∧ x ≤ 39 := by
  obtain ⟨i, hi, rfl⟩ := List.getElem_of_mem hx
  have := h i hi
  rw [okAt, rd_get hi] at this
  exact ⟨this.1, this.2.1⟩
theorem marks_mem (s : Int) (n : Nat) (x : Int) : x ∈ marks s n ↔ s ≤ x ∧ x < s + n := by
  induction n generalizing s with
  | zero => simp [marks]
  | succ n ih => simp only [marks, List.mem_cons, ih]; push_cast; omega
theorem marks_strict (s : Int) (n : Nat) : (marks s n).Pairwise (· < ·) := by
  induction n generalizing s with
  | zero => simp [marks]
  | succ n ih =>
    rw [marks, List.pairwise_cons]
    exact ⟨fun x hx => by have := (marks_mem _ _ _).1 hx; omega, ih _⟩
-- part: vcLen
theorem VC.len {xs : List Int} (h : VC xs) : xs.length ≤ 40 := by
  have key : ∀ j : Nat, j < xs.length → (j : Int) ≤ rd xs j := by
    intro j
    induction j with
    | zero => intro hj; exact (h 0 hj).1
    | succ j ih =>
      intro hj
      have h1 := ih (by omega)
      have h2 := (h (j + 1) hj).2.2 (by omega)
      rw [show (((j + 1 : Nat) : Int) - 1) = (j : Int) by omega] at h2
      omega
  by_cases h0 : xs.length ≤ 40
  · exact h0
  · have h1 := key (xs.length - 1) (by omega)
    have h2 := (h (xs.length - 1) (by omega)).2.1
    omega
-- part: ruleText
theorem joinB_snoc (sep : ByteArray) (ws : List ByteArray) (w : ByteArray) (h : ws ≠ []) : joinB sep (ws ++ [w]) = (joinB sep ws ++ sep) ++ w := by
  cases ws with
  | nil => exact absurd rfl h
  | cons x r =>
    show (r ++ [w]).foldl (fun a y => (a ++ sep) ++ y) x = _
    rw [List.foldl_append]
    rfl
theorem joinB_one (sep : ByteArray) (w : ByteArray) : joinB sep [w] = w := rfl
/-- A loop that joins what a function makes of each element, by a sign between. -/
theorem ev_sep {α : Type} (L : Nat → ByteArray → Int → Option ByteArray) (xs : List α) (F : Nat → α → Option ByteArray) (f : α → ByteArray) (sep : ByteArray) (hs : sep.size = 1) (b : Nat) (hb : b ≤ 16777216) (hn : xs.length ≤ 1048576)
    (hF : ∀ x ∈ xs, Ev (fun k => F k x) (f x)) (hz : ∀ x ∈ xs, (f x).size ≤ b) (r : ByteArray)
    (stop : ∀ k, L (k + 1) (joinB sep (xs.map f)) (xs.length : Int) = some r)
    (step0 : ∀ k (h : 0 < xs.length), L (k + 1) ⟨#[]⟩ 0 = (F k xs[0]).bind fun t => if (⟨#[]⟩ : ByteArray).size + t.size ≤ 9223372036854775807 then L k ((⟨#[]⟩ : ByteArray) ++ t) 1 else none)
    (step : ∀ k out (i : Nat) (h : i < xs.length), 0 < i → out.size + 1 ≤ 9223372036854775807 → L (k + 1) out (i : Int) = (F k xs[i]).bind fun t => if (out ++ sep).size + t.size ≤ 9223372036854775807 then L k ((out ++ sep) ++ t) ((i + 1 : Nat) : Int) else none) :
    Ev (fun k => L k ⟨#[]⟩ 0) r := by
  have key : ∀ (d i : Nat), i + d = xs.length → Ev (fun k => L k (joinB sep ((xs.take i).map f)) (i : Int)) r := by
    intro d
    induction d with
    | zero =>
      intro i h
      obtain rfl : i = xs.length := by omega
      rw [List.take_length]
      exact Ev.step (f := fun _ => some r) (fun k => stop k) (Ev.now _)
    | succ d ih =>
      intro i h
      have hi : i < xs.length := by omega
      have hx := List.getElem_mem hi
      have hzx := hz _ hx
      have hj := joinB_size sep ((xs.take i).map f) b (by omega) (fun y hy => by
        obtain ⟨x, hx, rfl⟩ := List.mem_map.1 hy
        exact hz x (List.mem_of_mem_take hx))
      rw [List.length_map, List.length_take, Nat.min_eq_left (by omega)] at hj
      have hj2 : i * (b + 1) ≤ 1048576 * 16777217 := Nat.mul_le_mul (by omega) (by omega)
      have hnext := ih (i + 1) (by omega)
      rw [List.take_succ_eq_append_getElem hi, List.map_append, List.map_singleton] at hnext
      have e0 : (⟨#[]⟩ : ByteArray).size = 0 := rfl
      cases i with
      | zero =>
        rw [List.take_zero, List.map_nil, List.nil_append, joinB_one] at hnext
        refine Ev.step (fun k => step0 k hi) (Ev.bind (hF _ hx) (evPos (by omega) ?_))
        rw [bx_nil]
        exact hnext
      | succ i =>
        have hlen : ((xs.take (i + 1)).map f).length = i + 1 := by rw [List.length_map, List.length_take]; omega
        rw [joinB_snoc sep _ _ (by
          intro e
          rw [e] at hlen
          simp at hlen)] at hnext
        exact Ev.step (fun k => step k _ (i + 1) hi (by omega) (by omega)) (Ev.bind (hF _ hx) (evPos (by rw [bx_size]; omega) hnext))
  have := key xs.length 0 (by omega)
  exact this
/-- A loop that gathers what a function makes of each element, and joins it at the end. -/
theorem ev_coll {α : Type} (L : Nat → List ByteArray → Int → Option ByteArray) (xs : List α) (F : Nat → α → Option ByteArray) (f : α → ByteArray) (r : ByteArray) (hn : xs.length ≤ 1048576) (hF : ∀ x ∈ xs, Ev (fun k => F k x) (f x))
    (stop : ∀ k, L (k + 1) (xs.map f) (xs.length : Int) = some r)
    (step : ∀ k acc (i : Nat) (h : i < xs.length), acc.length = i → L (k + 1) acc (i : Int) = (F k xs[i]).bind fun t => if acc.length < 8796093022208 then L k (acc ++ [t]) ((i + 1 : Nat) : Int) else none) :
    Ev (fun k => L k [] 0) r := by
  have key : ∀ (d i : Nat), i + d = xs.length → Ev (fun k => L k ((xs.take i).map f) (i : Int)) r := by
    intro d
    induction d with
    | zero =>
      intro i h
      obtain rfl : i = xs.length := by omega
      rw [List.take_length]
      exact Ev.step (f := fun _ => some r) (fun k => stop k) (Ev.now _)
    | succ d ih =>
      intro i h
      have hi : i < xs.length := by omega
      have hlen : ((xs.take i).map f).length = i := by rw [List.length_map, List.length_take]; omega
      have hnext := ih (i + 1) (by omega)
      rw [List.take_succ_eq_append_getElem hi, List.map_append, List.map_singleton] at hnext
      exact Ev.step (fun k => step k _ i hi hlen) (Ev.bind (hF _ (List.getElem_mem hi)) (evPos (by omega) hnext))
  exact key xs.length 0 (by omega)
/-- Blanks as commas, in bytes. -/
def comB (s : ByteArray) : ByteArray := strOfNums (comL (bytesI s))
theorem comB_app (a b : ByteArray) : comB (a ++ b) = comB a ++ comB b := by
  unfold comB comL bytesI
  rw [bx_app, List.map_append, List.map_append, son_app]
theorem comB_son (l : List Int) (h : ∀ x ∈ l, 0 ≤ x ∧ x < 256 ∧ x ≠ 32) : comB (strOfNums l) = strOfNums l := by
  unfold comB comL bytesI
  rw [strOfNums_data, List.map_map, List.map_map]
  congr 1
  have : ∀ x ∈ l, ((fun x => if x = 32 then 44 else x) ∘ ((fun b : UInt8 => (b.toNat : Int)) ∘ fun n : Int => UInt8.ofNat n.toNat)) x = x := by
    intro x hx
    have hx := h x hx
    simp only [Function.comp]
    have e : ((UInt8.ofNat x.toNat).toNat : Int) = x := by
      rw [UInt8.toNat_ofNat']
      omega
    rw [e, if_neg hx.2.2]
  exact (List.map_congr_left this).trans (List.map_id l)
theorem digP_sign : ∀ (n u : Nat), u < 10 ^ n → ∀ x ∈ digP u, 48 ≤ x ∧ x ≤ 57 := by
  intro n
  induction n with
  | zero => intro u h x hx; rw [digP_one (by simp at h; omega)] at hx; simp at hx h; omega
  | succ n ih =>
    intro u h x hx
    by_cases h9 : u < 10
    · rw [digP_one h9] at hx; simp at hx; omega
    · rw [digP_more h9] at hx
      rcases List.mem_append.1 hx with h1 | h1
      · exact ih (u / 10) (by rw [Nat.pow_succ] at h; omega) x h1
      · simp at h1; omega
theorem comB_dec (n : Int) (h0 : -9223372036854775808 ≤ n) (h1 : n ≤ 9223372036854775807) : comB (decB n) = decB n := by
  unfold decB
  refine comB_son _ fun x hx => ?_
  have hd := digP_sign 19 n.natAbs (by omega)
  unfold decL at hx
  split at hx
  · rcases List.mem_cons.1 hx with rfl | hx
    · omega
    · have := hd x hx; omega
  · have := hd x hx; omega
theorem comB_word (r : S92) (h : okR r) : comB (wordT r) = wordT r := by
  have d0 := comB_dec r.f0 (by have := h.1.1; omega) (by have := h.1.2; omega)
  have d1 := comB_dec r.f1 (by have := h.2.1; omega) (by have := h.2.2; omega)
  have e : comB (⟨#[45]⟩ : ByteArray) = ⟨#[45]⟩ := by decide
  unfold wordT
  split
  · rw [comB_app, comB_app, d0, d1, e]
  · exact d0
theorem comB_join (ws : List ByteArray) (h : ∀ w ∈ ws, comB w = w) : comB (joinB (⟨#[32]⟩ : ByteArray) ws) = joinB (⟨#[44]⟩ : ByteArray) ws := by
  have e : comB (⟨#[32]⟩ : ByteArray) = ⟨#[44]⟩ := by decide
  cases ws with
  | nil => rfl
  | cons x r =>
    have key : ∀ (r : List ByteArray) (a a' : ByteArray), comB a = a' → (∀ w ∈ r, comB w = w) → comB (r.foldl (fun a y => (a ++ (⟨#[32]⟩ : ByteArray)) ++ y) a) = r.foldl (fun a y => (a ++ (⟨#[44]⟩ : ByteArray)) ++ y) a' := by
      intro r
      induction r with
      | nil => intro a a' ha _; exact ha
      | cons y r ih =>
        intro a a' ha hr
        rw [List.foldl_cons, List.foldl_cons]
        exact ih _ _ (by rw [comB_app, comB_app, ha, e, hr y List.mem_cons_self]) fun w hw => hr w (List.mem_cons_of_mem _ hw)
    exact key r x x (h x List.mem_cons_self) fun w hw => h w (List.mem_cons_of_mem _ hw)
theorem specCom_l0 : ∀ (d i : Nat) (ys : List Int), ys.length ≤ 1099511627776 → i + d = ys.length → Ev (fun k => spec_l25Commas.l0 k ys (i : Int)) (strOfNums (ys.take i ++ comL (ys.drop i))) := by
  intro d
  induction d with
  | zero =>
    intro i ys hn h
    rw [List.drop_of_length_le (by omega), List.take_of_length_le (by omega)]
    refine Ev.step (fun k => by rw [spec_l25Commas.l0]) (evNeg (by omega) ?_)
    show Ev (fun _ => some (strOfNums ys)) (strOfNums (ys ++ []))
    rw [List.append_nil]
    exact Ev.now _
  | succ d ih =>
    intro i ys hn h
    have hi : i < ys.length := by omega
    refine Ev.step (fun k => by rw [spec_l25Commas.l0]) (evPos (by omega) (evPos (by omega) ?_))
    rw [rd_get hi, w64 (by omega) (by omega)]
    have ed : comL (ys.drop i) = (if ys[i] = 32 then 44 else ys[i]) :: comL (ys.drop (i + 1)) := by
      rw [List.drop_eq_getElem_cons hi]
      rfl
    rw [ed]
    by_cases h32 : ys[i] = 32
    · refine evPos h32 ?_
      have := ih (i + 1) (ys.set i 44) (by rw [List.length_set]; exact hn) (by rw [List.length_set]; omega)
      rw [List.drop_set_of_lt (by omega), List.take_succ_eq_append_getElem (by rw [List.length_set]; exact hi), List.getElem_set_self, List.take_set_of_le (Nat.le_refl i), List.append_assoc] at this
      rw [if_pos h32, show ((i : Int)).toNat = i by omega]
      push_cast at this
      exact this
    · refine evNeg h32 ?_
      have := ih (i + 1) ys hn (by omega)
      rw [List.take_succ_eq_append_getElem hi, List.append_assoc] at this
      rw [if_neg h32]
      push_cast at this
      exact this
/-- A class with commas. -/
def txC (xs : List Int) : ByteArray := joinB (⟨#[44]⟩ : ByteArray) ((rangesM xs).map wordT)
theorem fullC_facts {xs : List Int} (h : fullC xs = true) : 0 < xs.length ∧ xs.length ≤ 40 ∧ ∀ x ∈ xs, 0 ≤ x ∧ x ≤ 65535 := by
  unfold fullC at h
  rw [Bool.and_eq_true, decide_eq_true_iff, decide_eq_true_iff] at h
  exact ⟨h.1, h.2.len, fun x hx => by have := h.2.range hx; omega⟩
theorem txC_size (xs : List Int) (h : fullC xs = true) : (txC xs).size ≤ 1680 := by
  obtain ⟨h0, h1, h2⟩ := fullC_facts h
  have hl := rangesM_length xs
  have := joinB_size (⟨#[44]⟩ : ByteArray) ((rangesM xs).map wordT) 41 (by decide) (fun w hw => by
    obtain ⟨r, hr, rfl⟩ := List.mem_map.1 hw
    exact wordT_size r (rangesM_ok xs h2 r hr))
  rw [List.length_map] at this
  unfold txC
  omega
theorem implClass_ev (xs : List Int) (h : fullC xs = true) : Ev (fun k => impl_classText.f k xs (⟨#[44]⟩ : ByteArray)) (txC xs) := by
  obtain ⟨h0, h1, h2⟩ := fullC_facts h
  exact implText_ev _ (by decide) xs (by omega) h2
theorem specComma_ev (xs : List Int) (h : fullC xs = true) : Ev (fun k => spec_l25Commas.f k xs) (txC xs) := by
  obtain ⟨h0, h1, h2⟩ := fullC_facts h
  refine Ev.bind (specText_ev xs (by omega) h2) ?_
  have hl := rangesM_length xs
  have hz := joinB_size (⟨#[32]⟩ : ByteArray) ((rangesM xs).map wordT) 41 (by decide) (fun w hw => by
    obtain ⟨r, hr, rfl⟩ := List.mem_map.1 hw
    exact wordT_size r (rangesM_ok xs h2 r hr))
  rw [List.length_map] at hz
  have := specCom_l0 (bytesI (joinB (⟨#[32]⟩ : ByteArray) ((rangesM xs).map wordT))).length 0 (bytesI (joinB (⟨#[32]⟩ : ByteArray) ((rangesM xs).map wordT))) (by rw [bytesI_length]; omega) (by omega)
  rw [List.take_zero, List.nil_append, List.drop_zero] at this
  have e : strOfNums (comL (bytesI (joinB (⟨#[32]⟩ : ByteArray) ((rangesM xs).map wordT)))) = txC xs := comB_join _ (fun w hw => by
    obtain ⟨r, hr, rfl⟩ := List.mem_map.1 hw
    exact comB_word r (rangesM_ok xs h2 r hr))
  rw [e] at this
  exact this
theorem joinB_pos (sep : ByteArray) (ws : List ByteArray) (h0 : ws ≠ []) (h : ∀ w ∈ ws, 0 < w.size) : 0 < (joinB sep ws).size := by
  cases ws with
  | nil => exact absurd rfl h0
  | cons x r =>
    have key : ∀ (r : List ByteArray) (a : ByteArray), a.size ≤ (r.foldl (fun a y => (a ++ sep) ++ y) a).size := by
      intro r
      induction r with
      | nil => intro a; exact Nat.le_refl _
      | cons y r ih =>
        intro a
        rw [List.foldl_cons]
        have := ih ((a ++ sep) ++ y)
        rw [bx_size, bx_size] at this
        omega
    have h1 := key r x
    have h2 := h x List.mem_cons_self
    show 0 < (r.foldl (fun a y => (a ++ sep) ++ y) x).size
    omega
theorem decB_pos (n : Int) : 0 < (decB n).size := by
  unfold decB
  rw [strOfNums_size]
  have := digP_pos n.natAbs
  unfold decL
  split
  · rw [List.length_cons]; omega
  · exact this
theorem wordT_pos (r : S92) : 0 < (wordT r).size := by
  have := decB_pos r.f0
  unfold wordT
  split
  · rw [bx_size]; omega
  · exact this
theorem txC_pos (xs : List Int) (h : fullC xs = true) : 0 < (txC xs).size := by
  obtain ⟨h0, h1, h2⟩ := fullC_facts h
  refine joinB_pos _ _ ?_ (fun w hw => by
    obtain ⟨r, hr, rfl⟩ := List.mem_map.1 hw
    exact wordT_pos r)
  intro e
  have e2 := congrArg List.length e
  rw [List.length_map, List.length_nil] at e2
  cases xs with
  | nil => simp at h0
  | cons x xs =>
    have key : ∀ (ys : List Int) (out : List S92), 0 < out.length → 0 < (ys.foldl joinR out).length := by
      intro ys
      induction ys with
      | nil => intro out ho; exact ho
      | cons y ys ih => intro out ho; rw [List.foldl_cons]; exact ih _ (joinR_length out y).1
    have := key xs (joinR [] x) (joinR_length [] x).1
    unfold rangesM at e2
    rw [List.foldl_cons] at e2
    omega
theorem nil_list (s : ByteArray) : s.toList = ([] : List UInt8) ↔ s.size = 0 := by
  rw [ByteArray.toList_eq, ← List.length_eq_zero_iff, data_length]
/-- Texts with a sign between, or a point. -/
def txJ (sep : ByteArray) (ws : List ByteArray) : ByteArray := if ws = [] then ⟨#[46]⟩ else joinB sep ws
theorem joinB_nil (sep : ByteArray) (ws : List ByteArray) (h : ∀ w ∈ ws, 0 < w.size) : (if (joinB sep ws).toList = ([] : List UInt8) then some (⟨#[46]⟩ : ByteArray) else some (joinB sep ws)) = some (txJ sep ws) := by
  unfold txJ
  by_cases h0 : ws = []
  · rw [if_pos h0, h0]
    exact if_pos ((nil_list _).2 rfl)
  · rw [if_neg h0]
    exact if_neg (by rw [nil_list]; have := joinB_pos sep ws h0 h; omega)
theorem txJ_size (sep : ByteArray) (hs : sep.size ≤ 1) (ws : List ByteArray) (b : Nat) (h : ∀ w ∈ ws, w.size ≤ b) (hl : ws.length ≤ 4) : (txJ sep ws).size ≤ 4 * (b + 1) + 1 := by
  unfold txJ
  split
  · have : (⟨#[46]⟩ : ByteArray).size = 1 := rfl
    omega
  · have := joinB_size sep ws b hs h
    have h4 : ws.length * (b + 1) ≤ 4 * (b + 1) := Nat.mul_le_mul_right _ hl
    omega
theorem fullCs_facts {xs : List (List Int)} {least : Int} (h : fullCs xs least = true) : xs.length ≤ 4 ∧ ∀ x ∈ xs, fullC x = true := by
  unfold fullCs at h
  rw [Bool.and_eq_true, decide_eq_true_iff, List.all_eq_true] at h
  exact ⟨by omega, h.1⟩
def txLs (xs : List (List Int)) : ByteArray := txJ (⟨#[59]⟩ : ByteArray) (xs.map txC)
def txNs (xs : List Int) : ByteArray := txJ (⟨#[44]⟩ : ByteArray) (xs.map decB)
theorem txLs_size (xs : List (List Int)) (hl : xs.length ≤ 4) (h : ∀ x ∈ xs, fullC x = true) : (txLs xs).size ≤ 6800 := by
  have := txJ_size (⟨#[59]⟩ : ByteArray) (by decide) (xs.map txC) 1680 (fun w hw => by
    obtain ⟨x, hx, rfl⟩ := List.mem_map.1 hw
    exact txC_size x (h x hx)) (by rw [List.length_map]; exact hl)
  unfold txLs
  omega
theorem specLists_ev (xs : List (List Int)) (hl : xs.length ≤ 4) (h : ∀ x ∈ xs, fullC x = true) : Ev (fun k => spec_l25Lists.f k xs) (txLs xs) := by
  refine ev_sep (fun k out i => spec_l25Lists.l0 k xs out i) xs (fun k x => spec_l25Commas.f k x) txC (⟨#[59]⟩ : ByteArray) rfl 1680 (by omega) (by omega) (fun x hx => specComma_ev x (h x hx)) (fun x hx => txC_size x (h x hx)) _ (fun k => ?_) (fun k h0 => ?_) (fun k out i hi h0 hz => ?_)
  · simp only [spec_l25Lists.l0]
    rw [if_neg (by omega)]
    exact joinB_nil _ _ (fun w hw => by
      obtain ⟨x, hx, rfl⟩ := List.mem_map.1 hw
      exact txC_pos x (h x hx))
  · have e := rdLI_get (cs := xs) (j := 0) h0
    simp only [Int.natCast_zero] at e
    simp only [spec_l25Lists.l0]
    rw [if_pos (by omega), if_neg (by omega), if_pos (by omega), e, w64 (by omega) (by omega)]
    rfl
  · simp only [spec_l25Lists.l0]
    rw [if_pos (by omega), if_pos (by omega), if_pos hz, if_pos (by omega), rdLI_get hi, w64 (by omega) (by omega)]
    push_cast
    rfl
theorem implLists_ev (xs : List (List Int)) (hl : xs.length ≤ 4) (h : ∀ x ∈ xs, fullC x = true) : Ev (fun k => impl_classesText.f k xs) (txLs xs) := by
  unfold txLs txJ
  by_cases h0 : xs = []
  · rw [if_pos (by rw [h0]; rfl)]
    exact evPos (by rw [h0]; rfl) (Ev.now _)
  · have hpos : 0 < xs.length := List.length_pos_iff.2 h0
    rw [if_neg (by intro e; exact h0 (List.map_eq_nil_iff.1 e))]
    refine evNeg (by omega) ?_
    refine ev_coll (fun k acc i => impl_classesText.l0 k acc xs (xs.length : Int) i) xs (fun k x => impl_classText.f k x (⟨#[44]⟩ : ByteArray)) txC _ (by omega) (fun x hx => implClass_ev x (h x hx)) (fun k => ?_) (fun k acc i hi ha => ?_)
    · have hz := joinB_size (⟨#[59]⟩ : ByteArray) (xs.map txC) 1680 (by decide) (fun w hw => by
        obtain ⟨x, hx, rfl⟩ := List.mem_map.1 hw
        exact txC_size x (h x hx))
      rw [List.length_map] at hz
      simp only [impl_classesText.l0]
      rw [if_neg (by omega)]
      unfold strings_Join.f joinF
      rw [if_pos ⟨by rw [List.length_map]; omega, by omega⟩]
      rfl
    · simp only [impl_classesText.l0]
      rw [if_pos (by omega), if_pos (by omega), if_pos (by omega), rdLI_get hi, w64 (by omega) (by omega)]
      push_cast
      rfl
theorem txNs_size (xs : List Int) (hl : xs.length ≤ 4) (h : ∀ x ∈ xs, 0 ≤ x ∧ x ≤ 39) : (txNs xs).size ≤ 85 := by
  have := txJ_size (⟨#[44]⟩ : ByteArray) (by decide) (xs.map decB) 20 (fun w hw => by
    obtain ⟨x, hx, rfl⟩ := List.mem_map.1 hw
    have := h x hx
    exact decB_size x (by omega) (by omega)) (by rw [List.length_map]; exact hl)
  unfold txNs
  omega
theorem specNums_ev (xs : List Int) (hl : xs.length ≤ 4) (h : ∀ x ∈ xs, 0 ≤ x ∧ x ≤ 39) : Ev (fun k => spec_l25Numbers.f k xs) (txNs xs) := by
  refine ev_sep (fun k out i => spec_l25Numbers.l0 k xs out i) xs (fun k x => spec_l01Dec.f k x) decB (⟨#[44]⟩ : ByteArray) rfl 20 (by omega) (by omega) (fun x hx => by have := h x hx; exact specDec_ev x (by omega) (by omega)) (fun x hx => by have := h x hx; exact decB_size x (by omega) (by omega)) _ (fun k => ?_) (fun k h0 => ?_) (fun k out i hi h0 hz => ?_)
  · simp only [spec_l25Numbers.l0]
    rw [if_neg (by omega)]
    exact joinB_nil _ _ (fun w hw => by
      obtain ⟨x, hx, rfl⟩ := List.mem_map.1 hw
      exact decB_pos x)
  · have e := rd_get (xs := xs) (i := 0) h0
    simp only [Int.natCast_zero] at e
    simp only [spec_l25Numbers.l0]
    rw [if_pos (by omega), if_neg (by omega), if_pos (by omega), e, w64 (by omega) (by omega)]
    rfl
  · simp only [spec_l25Numbers.l0]
    rw [if_pos (by omega), if_pos (by omega), if_pos hz, if_pos (by omega), rd_get hi, w64 (by omega) (by omega)]
    push_cast
    rfl
theorem implNums_ev (xs : List Int) (hl : xs.length ≤ 4) (h : ∀ x ∈ xs, 0 ≤ x ∧ x ≤ 39) : Ev (fun k => impl_numbersText.f k xs) (txNs xs) := by
  unfold txNs txJ
  by_cases h0 : xs = []
  · rw [if_pos (by rw [h0]; rfl)]
    exact evPos (by rw [h0]; rfl) (Ev.now _)
  · have hpos : 0 < xs.length := List.length_pos_iff.2 h0
    rw [if_neg (by intro e; exact h0 (List.map_eq_nil_iff.1 e))]
    refine evNeg (by omega) ?_
    refine ev_coll (fun k acc i => impl_numbersText.l0 k acc xs (xs.length : Int) i) xs (fun _ x => impl_Decimal.f x) decB _ (by omega) (fun x hx => by have := h x hx; rw [implDec x (by omega) (by omega)]; exact Ev.now _) (fun k => ?_) (fun k acc i hi ha => ?_)
    · have hz := joinB_size (⟨#[44]⟩ : ByteArray) (xs.map decB) 20 (by decide) (fun w hw => by
        obtain ⟨x, hx, rfl⟩ := List.mem_map.1 hw
        have := h x hx
        exact decB_size x (by omega) (by omega))
      rw [List.length_map] at hz
      simp only [impl_numbersText.l0]
      rw [if_neg (by omega)]
      unfold strings_Join.f joinF
      rw [if_pos ⟨by rw [List.length_map]; omega, by omega⟩]
      rfl
    · simp only [impl_numbersText.l0]
      rw [if_pos (by omega), if_pos (by omega), if_pos (by omega), rd_get hi, w64 (by omega) (by omega)]
      push_cast
      rfl
theorem szl (l : List UInt8) : (⟨l.toArray⟩ : ByteArray).size = l.length := by simp [ByteArray.size]
def textR (a b c : List (List Int)) (d : List Int) : ByteArray :=
  (((((((⟨#[114, 117, 108, 101, 32]⟩ : ByteArray) ++ txLs a) ++ (⟨#[32]⟩ : ByteArray)) ++ txLs b) ++ (⟨#[32]⟩ : ByteArray)) ++ txLs c) ++ (⟨#[32]⟩ : ByteArray)) ++ txNs d
theorem rule_facts {a b c : List (List Int)} {d : List Int} (h : ruleOk a b c d = true) : (a.length ≤ 4 ∧ ∀ x ∈ a, fullC x = true) ∧ (b.length ≤ 4 ∧ ∀ x ∈ b, fullC x = true) ∧ (c.length ≤ 4 ∧ ∀ x ∈ c, fullC x = true) ∧ d.length ≤ 4 ∧ ∀ x ∈ d, 0 ≤ x ∧ x ≤ 39 := by
  unfold ruleOk at h
  simp only [Bool.and_eq_true, decide_eq_true_eq] at h
  obtain ⟨⟨⟨⟨h1, h2⟩, h3⟩, h4⟩, h5⟩ := h
  refine ⟨fullCs_facts h1, fullCs_facts h2, fullCs_facts h3, h4, fun x hx => ?_⟩
  unfold glyphs at h5
  rw [List.all_eq_true] at h5
  exact of_decide_eq_true (h5 x hx)
theorem Rule_both (a b c : List (List Int)) (d : List Int) (sa : shortL a) (sb : shortL b) (sc : shortL c) (sd : d.length ≤ 1048576) :
    Ev (fun k => spec_RuleText.f k a b c d) (if ruleOk a b c d = true then textR a b c d else ⟨#[]⟩) ∧ Ev (fun k => impl_RuleText.f k a b c d) (if ruleOk a b c d = true then textR a b c d else ⟨#[]⟩) := by
  have s1 := specRule_ev [⟨a, b, c, d⟩] 0 a b c d rfl sa sb sc sd
  have s2 := implRule_ev a b c d sa sb sc sd
  by_cases h : ruleOk a b c d = true
  · rw [if_pos h]
    obtain ⟨⟨a1, a2⟩, ⟨b1, b2⟩, ⟨c1, c2⟩, d1, d2⟩ := rule_facts h
    have za := txLs_size a a1 a2
    have zb := txLs_size b b1 b2
    have zc := txLs_size c c1 c2
    have zd := txNs_size d d1 d2
    refine ⟨Ev.bind s1 (evPos h (Ev.bind ?_ (Ev.now _))), Ev.bind s2 (evPos h ?_)⟩
    · refine Ev.bind (specLists_ev a a1 a2) (evPos (by omega) (evPos (by simp only [bx_size, szl, List.length_cons, List.length_nil]; omega) (Ev.bind (specLists_ev b b1 b2) (evPos (by simp only [bx_size, szl, List.length_cons, List.length_nil]; omega) (evPos (by simp only [bx_size, szl, List.length_cons, List.length_nil]; omega) (Ev.bind (specLists_ev c c1 c2) (evPos (by simp only [bx_size, szl, List.length_cons, List.length_nil]; omega) (evPos (by simp only [bx_size, szl, List.length_cons, List.length_nil]; omega) (Ev.bind (specNums_ev d d1 d2) (evPos (by simp only [bx_size, szl, List.length_cons, List.length_nil]; omega) (Ev.now _)))))))))))
    · refine Ev.bind (implLists_ev a a1 a2) (evPos (by omega) (evPos (by simp only [bx_size, szl, List.length_cons, List.length_nil]; omega) (Ev.bind (implLists_ev b b1 b2) (evPos (by simp only [bx_size, szl, List.length_cons, List.length_nil]; omega) (evPos (by simp only [bx_size, szl, List.length_cons, List.length_nil]; omega) (Ev.bind (implLists_ev c c1 c2) (evPos (by simp only [bx_size, szl, List.length_cons, List.length_nil]; omega) (evPos (by simp only [bx_size, szl, List.length_cons, List.length_nil]; omega) (Ev.bind (implNums_ev d d1 d2) (evPos (by simp only [bx_size, szl, List.length_cons, List.length_nil]; omega) (Ev.now _)))))))))))
  · rw [if_neg h]
    exact ⟨Ev.bind s1 (evNeg h (Ev.now _)), Ev.bind s2 (evNeg h (Ev.now _))⟩
-- part: the law
theorem FnExactRuleText : Owed := by
  intro a b c d wa wb wc wd
  apply Ev.rounds
  refine Ev.bind (szRule_ev a b c d ⟨wa.1, fun x hx => (wa.2 x hx).1⟩ ⟨wb.1, fun x hx => (wb.2 x hx).1⟩ ⟨wc.1, fun x hx => (wc.2 x hx).1⟩ wd.1 1048576 (by omega) (by omega)) ?_
  by_cases h : less 1048576 (wtRule a b c d) < 0
  · exact evPos h (Ev.now true)
  refine evNeg h ?_
  have hw : wtRule a b c d ≤ 1048576 := by rw [less_neg _ _ (by omega)] at h; omega
  have hw2 := hw
  unfold wtRule at hw2
  have sa := shortL_of (xs := a) (by omega)
  have sb := shortL_of (xs := b) (by omega)
  have sc := shortL_of (xs := c) (by omega)
  have t := toRule_ev a b c d hw
  obtain ⟨s1, s2⟩ := Rule_both a b c d sa sb sc (by omega)
  refine Ev.step (fun k => by rw [laws_FnExactRuleText.j0]) ?_
  refine Ev.bind t (Ev.bind s1 (Ev.bind t (Ev.bind s2 (evPos rfl ?_))))
  refine Ev.step (fun k => by rw [laws_FnExactRuleText.j1]) ?_
  exact Ev.bind t (Ev.bind (eqRule_ev a b c d hw) (evPos rfl (Ev.now true)))
end Go.Proofs.Ytdahcapolipnbaa.Pure
