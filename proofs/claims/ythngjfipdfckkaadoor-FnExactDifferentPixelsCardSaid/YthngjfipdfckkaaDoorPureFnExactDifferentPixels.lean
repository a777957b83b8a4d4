/- The plain statement of FnExactDifferentPixels: the program and the reference agree on every input that the guards let in. -/
import Derived.Test.YthngjfipdfckkaaDoorArgFnExactDifferentPixels
namespace Go.Proofs.YthngjfipdfckkaaDoor.Pure
open Go.RowKit Go.Proofs.YthngjfipdfckkaaDoor.QFnExactDifferentPixels Go.Proofs.YthngjfipdfckkaaDoor.ArgFnExactDifferentPixels Go.Proofs.YthngjfipdfckkaaDoorW.PrintWords Go.Proofs.YthngjfipdfckkaaDoorW.PrintLast Go.Proofs.YthngjfipdfckkaaDoorW.PrintMore
set_option linter.unusedVariables false
set_option linter.unusedSimpArgs false
-- part: base
theorem w64 {x : Int} (h : -9223372036854775808 ≤ x) (h' : x < 9223372036854775808) : wrap64 x = x := by
  unfold wrap64; omega
theorem evPos {α : Type} {c : Prop} [Decidable c] {g f : Nat → Option α} {r : α} (h : c) (k : Ev g r) : Ev (fun n => if c then g n else f n) r := by
  simpa only [if_pos h] using k
theorem evNeg {α : Type} {c : Prop} [Decidable c] {g f : Nat → Option α} {r : α} (h : ¬ c) (k : Ev f r) : Ev (fun n => if c then g n else f n) r := by
  simpa only [if_neg h] using k
theorem rd_get {xs : List Int} {i : Nat} (h : i < xs.length) : rd xs (i : Int) = xs[i] := by
  simp [rd, h]
/-- The numbers from s on, n of them. -/
def marks (s : Int) : Nat → List Int
  | 0 => []
  | n + 1 => s :: marks (s + 1) n
theorem marks_length (s : Int) (n : Nat) : (marks s n).length = n := by
  induction n generalizing s with
  | zero => rfl
  | succ n ih => simp [marks, ih]
theorem marks_get (s : Int) (n : Nat) : ∀ (i : Nat) (h : i < (marks s n).length), (marks s n)[i] = s + i := by
  induction n generalizing s with
  | zero => intro i h; simp [marks] at h
  | succ n ih =>
    intro i h
    cases i with
    | zero => simp [marks]
    | succ i => simp only [marks, List.getElem_cons_succ]; rw [ih]; push_cast; omega
theorem marks_snoc (s : Int) (n : Nat) : marks s (n + 1) = marks s n ++ [s + n] := by
  induction n generalizing s with
  | zero => simp [marks]
  | succ n ih => rw [marks, ih, marks]; simp; omega
-- part: inF
theorem in_f (a b c : Int) : spec_l00In.f a b c = some (decide (b ≤ a ∧ a ≤ c)) := by
  unfold spec_l00In.f
  by_cases h : a ≥ b <;> simp [h]
-- part: loops
theorem getD_nat {α : Type} {xs : List α} {i : Nat} {d : α} (h : i < xs.length) : xs.getD (i : Int).toNat d = xs[i] := by
  simp [List.getD_eq_getElem?_getD, h]
/-- A loop that fills a row with what a function makes of each element. -/
theorem ev_copy {α β : Type} (L : Nat → List β → Int → Option (List β)) (xs : List α) (F : Nat → α → Option β) (f : α → β)
    (stop : ∀ k out, out.length = xs.length → L (k + 1) out (xs.length : Int) = some out)
    (step : ∀ k out (i : Nat) (h : i < xs.length), out.length = xs.length → L (k + 1) out (i : Int) = (F k xs[i]).bind fun y => L k (out.set i y) ((i + 1 : Nat) : Int))
    (hF : ∀ x ∈ xs, Ev (fun k => F k x) (f x)) (out : List β) (ho : out.length = xs.length) : Ev (fun k => L k out 0) (xs.map f) := by
  have key : ∀ (d i : Nat) (out : List β), i + d = xs.length → out.length = xs.length → out.take i = (xs.take i).map f → Ev (fun k => L k out (i : Int)) (xs.map f) := by
    intro d
    induction d with
    | zero =>
      intro i out h ho ht
      obtain rfl : i = xs.length := by omega
      refine Ev.step (f := fun _ => some _) (fun k => ?_) (Ev.now _)
      rw [stop k out ho]
      rw [List.take_of_length_le (by omega), List.take_of_length_le (by omega)] at ht
      rw [ht]
    | succ d ih =>
      intro i out h ho ht
      have hi : i < xs.length := by omega
      refine Ev.step (fun k => step k out i hi ho) (Ev.bind (hF _ (List.getElem_mem hi)) ?_)
      refine ih (i + 1) (out.set i (f xs[i])) (by omega) (by simpa using ho) ?_
      apply List.ext_getElem
      · simp; omega
      · intro j h1 h2
        simp at h1 h2
        simp only [List.getElem_take, List.getElem_set, List.getElem_map]
        by_cases hj : i = j
        · subst hj; rw [if_pos rfl]
        · rw [if_neg hj]
          have hj2 : j < i := by omega
          have e1 : (out.take i)[j]'(by simp; omega) = out[j] := by simp
          have e2 : ((xs.take i).map f)[j]'(by simp; omega) = f xs[j] := by simp
          rw [← e1, ← e2]
          simp only [ht]
  exact key xs.length 0 out (by omega) ho (by simp)
/-- A loop that stops with 'false' at the first element that fails. -/
theorem ev_all {α : Type} (L : Nat → Int → Option Bool) (xs : List α) (F : Nat → α → Option Bool) (P : α → Bool) (e : Bool)
    (stop : ∀ k, L (k + 1) (xs.length : Int) = some e)
    (step : ∀ k (i : Nat) (h : i < xs.length), L (k + 1) (i : Int) = (F k xs[i]).bind fun b => if b = true then L k ((i + 1 : Nat) : Int) else some false)
    (hF : ∀ x ∈ xs, Ev (fun k => F k x) (P x)) : Ev (fun k => L k 0) (xs.all P && e) := by
  have key : ∀ (d i : Nat), i + d = xs.length → Ev (fun k => L k (i : Int)) ((xs.drop i).all P && e) := by
    intro d
    induction d with
    | zero =>
      intro i h
      obtain rfl : i = xs.length := by omega
      refine Ev.step (f := fun _ => some _) (fun k => ?_) (Ev.now _)
      rw [stop k]
      simp
    | succ d ih =>
      intro i h
      have hi : i < xs.length := by omega
      refine Ev.step (fun k => step k i hi) (Ev.bind (hF _ (List.getElem_mem hi)) ?_)
      rw [List.drop_eq_getElem_cons hi, List.all_cons]
      cases hp : P xs[i] with
      | false => exact evNeg (by simp) (by simpa using Ev.now false)
      | true => exact evPos rfl (by simpa using ih (i + 1) (by omega))
  simpa using key xs.length 0 (by omega)
/-- A loop that tells the first place at which a test answers 'true'. -/
theorem ev_first {α : Type} (L : Nat → Int → Option Int) (xs : List α) (F : Nat → α → Option Bool) (P : α → Bool)
    (stop : ∀ k, L (k + 1) (xs.length : Int) = some (-1))
    (step : ∀ k (i : Nat) (h : i < xs.length), L (k + 1) (i : Int) = (F k xs[i]).bind fun b => if b = true then some (i : Int) else L k ((i + 1 : Nat) : Int))
    (hF : ∀ x ∈ xs, Ev (fun k => F k x) (P x)) : ∃ r, Ev (fun k => L k 0) r ∧ decide (r ≥ 0) = xs.any P := by
  have key : ∀ (d i : Nat), i + d = xs.length → ∃ r, Ev (fun k => L k (i : Int)) r ∧ decide (r ≥ 0) = (xs.drop i).any P := by
    intro d
    induction d with
    | zero =>
      intro i h
      obtain rfl : i = xs.length := by omega
      refine ⟨-1, Ev.step (f := fun _ => some _) (fun k => stop k) (Ev.now _), by simp⟩
    | succ d ih =>
      intro i h
      have hi : i < xs.length := by omega
      rw [List.drop_eq_getElem_cons hi, List.any_cons]
      cases hp : P xs[i] with
      | true =>
        refine ⟨(i : Int), Ev.step (fun k => step k i hi) (Ev.bind (hF _ (List.getElem_mem hi)) ?_), by simp⟩
        rw [hp]
        exact evPos rfl (Ev.now _)
      | false =>
        obtain ⟨r, hr, hr2⟩ := ih (i + 1) (by omega)
        refine ⟨r, Ev.step (fun k => step k i hi) (Ev.bind (hF _ (List.getElem_mem hi)) ?_), by simpa using hr2⟩
        rw [hp]
        exact evNeg (by simp) hr
  simpa using key xs.length 0 (by omega)
/-- What is left of a number of which each element takes its share; -1 if it doesn't suffice. -/
def less (s : Int) (w : Nat) : Int := if s < w then -1 else s - w
theorem less_neg (s : Int) (w : Nat) (h : 0 ≤ s) : less s w < 0 ↔ s < w := by unfold less; split <;> omega
theorem ev_sz {α : Type} (L : Nat → Int → Int → Option Int) (xs : List α) (F : Nat → α → Int → Option Int) (w : α → Nat)
    (stop : ∀ k s, L (k + 1) s (xs.length : Int) = some s)
    (step : ∀ k s (i : Nat) (h : i < xs.length), 0 ≤ s → s ≤ 1048576 → L (k + 1) s (i : Int) = (F k xs[i] s).bind fun t => if t < 0 then some (-1) else L k t ((i + 1 : Nat) : Int))
    (hF : ∀ x ∈ xs, ∀ s, 0 ≤ s → s ≤ 1048576 → Ev (fun k => F k x s) (less s (w x))) (s : Int) (h0 : 0 ≤ s) (h1 : s ≤ 1048576) : Ev (fun k => L k s 0) (less s (xs.map w).sum) := by
  have key : ∀ (d i : Nat) (s : Int), i + d = xs.length → 0 ≤ s → s ≤ 1048576 → Ev (fun k => L k s (i : Int)) (less s ((xs.drop i).map w).sum) := by
    intro d
    induction d with
    | zero =>
      intro i s h h0 h1
      obtain rfl : i = xs.length := by omega
      refine Ev.step (f := fun _ => some _) (fun k => ?_) (Ev.now _)
      rw [stop k s]
      simp [less]; omega
    | succ d ih =>
      intro i s h h0 h1
      have hi : i < xs.length := by omega
      refine Ev.step (fun k => step k s i hi h0 h1) (Ev.bind (hF _ (List.getElem_mem hi) s h0 h1) ?_)
      rw [List.drop_eq_getElem_cons hi, List.map_cons, List.sum_cons]
      by_cases hs : s < w xs[i]
      · have e1 : less s (w xs[i]) = -1 := by unfold less; rw [if_pos hs]
        have e2 : less s (w xs[i] + ((xs.drop (i + 1)).map w).sum) = -1 := by unfold less; rw [if_pos (by push_cast; omega)]
        rw [e1, e2]
        exact evPos (by omega) (Ev.now _)
      · have e1 : less s (w xs[i]) = s - w xs[i] := by unfold less; rw [if_neg hs]
        rw [e1]
        refine evNeg (by omega) ?_
        have := ih (i + 1) (s - w xs[i]) (by omega) (by omega) (by omega)
        have e2 : less (s - w xs[i]) ((xs.drop (i + 1)).map w).sum = less s (w xs[i] + ((xs.drop (i + 1)).map w).sum) := by
          unfold less
          push_cast
          by_cases h3 : s - w xs[i] < (((xs.drop (i + 1)).map w).sum : Nat)
          · rw [if_pos h3, if_pos (by omega)]
          · rw [if_neg h3, if_neg (by omega)]; omega
        rw [← e2]
        exact this
  simpa using key xs.length 0 s (by omega) h0 h1
theorem less_then {s : Int} {a b : Nat} (h0 : 0 ≤ s) (h : ¬ less s a < 0) : less s a = s - a ∧ 0 ≤ s - a ∧ less (s - a) b = less s (a + b) := by
  rw [less_neg s a h0] at h
  have e : less s a = s - a := by unfold less; rw [if_neg h]
  refine ⟨e, by omega, ?_⟩
  unfold less
  push_cast
  by_cases h3 : s - a < b
  · rw [if_pos h3, if_pos (by omega)]
  · rw [if_neg h3, if_neg (by omega)]; omega
theorem less_more {s : Int} {a b : Nat} (h0 : 0 ≤ s) (h : less s a < 0) : less s (a + b) = -1 := by
  rw [less_neg s a h0] at h
  unfold less
  rw [if_pos (by push_cast; omega)]
theorem less_none {s : Int} {a : Nat} (h0 : 0 ≤ s) (h : less s a < 0) : less s a = -1 := by
  rw [less_neg s a h0] at h
  unfold less
  rw [if_pos h]
-- part: strs
theorem rdS_get {xs : List ByteArray} {i : Nat} (h : i < xs.length) : rdOf ByteArray.empty xs (i : Int) = xs[i] := by
  simp [rdOf, List.getD_eq_getElem?_getD, h]
def wtS (xs : List ByteArray) : Nat := xs.length + (xs.map ByteArray.size).sum
theorem szStringS_ev (xs : List ByteArray) (hl : xs.length ≤ 9223372036854775807) (hx : ∀ x ∈ xs, x.size ≤ 9223372036854775807) (s : Int) (h0 : 0 ≤ s) (h1 : s ≤ 1048576) : Ev (fun k => laws_szStringS.f k xs s) (less s (wtS xs)) := by
  unfold laws_szStringS.f
  rw [w64 (by omega) (by omega)]
  by_cases h : s < xs.length
  · have e : less s (wtS xs) = -1 := by unfold less wtS; rw [if_pos (by push_cast; omega)]
    rw [e]
    exact evPos (by omega) (Ev.now _)
  · refine evNeg (by omega) ?_
    have e : less s (wtS xs) = less (s - xs.length) (xs.map ByteArray.size).sum :=
      ((less_then (s := s) (a := xs.length) (b := (xs.map ByteArray.size).sum) h0 (by rw [less_neg _ _ h0]; exact h)).2.2).symm
    rw [e]
    refine ev_sz (fun k s i => laws_szStringS.l0 k xs s i) xs (fun _ x s => some (less s x.size)) ByteArray.size ?_ ?_ ?_ _ (by omega) (by omega)
    · intro k s
      simp only [laws_szStringS.l0]
      rw [if_neg (by omega)]
    · intro k s i hi h2 h3
      have hb := hx _ (List.getElem_mem hi)
      simp only [laws_szStringS.l0, Option.bind_some]
      rw [if_pos (by omega), if_pos (by omega), rdS_get hi, w64 (x := s - (xs[i].size : Int)) (by omega) (by omega), w64 (x := (i : Int) + 1) (by omega) (by omega)]
      push_cast
      unfold less
      by_cases h4 : s < (xs[i].size : Int)
      · rw [if_pos (by omega), if_pos h4, if_pos (by omega)]
      · rw [if_neg (by omega), if_neg h4, if_neg (by omega)]
    · intro x _ s _ _
      exact Ev.now _
theorem toStringS_ev (xs : List ByteArray) (h : xs.length ≤ 1048576) : Ev (fun k => laws_toStringS.f k xs) xs := by
  have := ev_copy (fun k out i => laws_toStringS.l0 k xs out i) xs (fun _ x => some x) id (fun k out ho => by
      simp only [laws_toStringS.l0]
      rw [if_neg (by omega)]) (fun k out i hi ho => by
      simp only [laws_toStringS.l0, Option.bind_some]
      rw [if_pos (by omega), if_pos (by omega), if_pos (by omega), rdS_get hi, w64 (by omega) (by omega)]
      simp only [Int.toNat_natCast]
      push_cast
      rfl) (fun x hx => Ev.now _) (List.replicate xs.length (⟨#[]⟩ : ByteArray)) (by simp)
  rw [List.map_id] at this
  refine Ev.congr (fun k => ?_) this
  unfold laws_toStringS.f
  rw [if_pos (by omega), if_pos (by omega)]
  simp
theorem eqStringS_ev (xs : List ByteArray) (h : xs.length ≤ 1099511627776) : Ev (fun k => laws_eqStringS.f k xs xs) true := by
  have := ev_all (fun k i => laws_eqStringS.l0 k xs xs i) xs (fun _ _ => some true) (fun _ => true) true (fun k => by
      simp only [laws_eqStringS.l0]
      rw [if_neg (by omega)]) (fun k i hi => by
      simp only [laws_eqStringS.l0, Option.bind_some]
      rw [if_pos (by omega), if_pos (by omega), if_pos (by omega), if_pos trivial, w64 (by omega) (by omega)]
      push_cast
      rfl) (fun x hx => Ev.now _)
  rw [Bool.and_true, show (xs.all fun _ => true) = true by simp] at this
  refine Ev.congr (fun k => ?_) this
  unfold laws_eqStringS.f
  rw [if_pos rfl]
-- part: bitmaps
theorem szBitmap_ev (a b c : Int) (r : List ByteArray) (hl : r.length ≤ 9223372036854775807) (hx : ∀ x ∈ r, x.size ≤ 9223372036854775807) (s : Int) (h0 : 0 ≤ s) (h1 : s ≤ 1048576) : Ev (fun k => laws_szBitmap.f k a b c r s) (less s (wtS r)) := by
  refine Ev.bind (szStringS_ev r hl hx s h0 h1) ?_
  by_cases h : less s (wtS r) < 0
  · rw [less_none h0 h]
    exact evPos (by omega) (Ev.now _)
  · exact evNeg h (Ev.now _)
theorem toBitmap_ev (a b c : Int) (r : List ByteArray) (h : r.length ≤ 1048576) : Ev (fun k => laws_toBitmap.f k a b c r) (a, b, c, r) := Ev.bind (toStringS_ev r h) (Ev.now _)
theorem eqBitmap_ev (a b c : Int) (r : List ByteArray) (h : r.length ≤ 1048576) : Ev (fun k => laws_eqBitmap.f k a b c r a b c r) true :=
  evPos rfl (evPos rfl (evPos rfl (Ev.bind (eqStringS_ev r (by omega)) (evPos rfl (Ev.now _)))))
theorem mem_le_sum : ∀ (l : List Nat) (x : Nat), x ∈ l → x ≤ l.sum
  | [], _, h => by simp at h
  | y :: l, x, h => by
    rw [List.sum_cons]
    rcases List.mem_cons.1 h with rfl | h
    · omega
    · have := mem_le_sum l x h; omega
theorem wt_sizes (r : List ByteArray) (n : Nat) (h : wtS r ≤ n) : r.length ≤ n ∧ ∀ x ∈ r, x.size ≤ n := by
  unfold wtS at h
  refine ⟨by omega, fun x hx => ?_⟩
  have : x.size ≤ (r.map ByteArray.size).sum := mem_le_sum _ _ (List.mem_map_of_mem hx)
  omega
-- part: validBitmap
open Go.Proofs.YthngjfipdfckkaaDoor.Gv
theorem size_list (s : ByteArray) : s.size = s.data.toList.length := Array.length_toList.symm
theorem bt_get (s : ByteArray) (i : Nat) (h : i < s.data.toList.length) : bt s (i : Int) = (s.data.toList[i].toNat : Int) := by
  unfold bt
  have h2 : i < s.size := by rw [size_list]; exact h
  rw [dif_pos (by simpa using h2)]
  simp [ByteArray.getElem_eq_getElem_data]
/-- A row's signs are of two kinds, and there are as many as told. -/
def inkOk (x : UInt8) : Bool := x == 35 || x == 46
def rowB (c : Int) (row : ByteArray) : Bool := row.data.toList.all inkOk && ((row.size : Int) == c)
abbrev headB (a b c : Int) (r : List ByteArray) : Prop := (-1048576 ≤ a ∧ a ≤ 1048576) ∧ (-1048576 ≤ b ∧ b ≤ 1048576) ∧ (0 ≤ c ∧ c ≤ 128) ∧ (r.length : Int) ≤ 128 ∧ (c = 0 ↔ (r.length : Int) = 0)
def validBM (a b c : Int) (r : List ByteArray) : Bool := decide (headB a b c r) && r.all (rowB c)
theorem u8_eq (x c : UInt8) : ((x.toNat : Int) = (c.toNat : Int)) ↔ x = c := by
  constructor
  · intro e; exact UInt8.toNat_inj.1 (by omega)
  · rintro rfl; rfl
theorem u35 (x : UInt8) : (x.toNat : Int) = 35 ↔ x = 35 := u8_eq x 35
theorem u46 (x : UInt8) : (x.toNat : Int) = 46 ↔ x = 46 := u8_eq x 46
theorem specRow_l0 (row : ByteArray) (c : Int) (hs : row.size ≤ 1048576) : ∀ (d i : Nat), i + d = row.data.toList.length → Ev (fun k => spec_l22Row.l0 k row c (i : Int)) ((row.data.toList.drop i).all inkOk && ((row.size : Int) == c)) := by
  have hsz := size_list row
  intro d
  induction d with
  | zero =>
    intro i h
    refine Ev.step (f := fun _ => some _) (fun k => ?_) (Ev.now _)
    simp only [spec_l22Row.l0]
    rw [if_neg (by omega), List.drop_of_length_le (by omega)]
    simp
  | succ d ih =>
    intro i h
    have hi : i < row.data.toList.length := by omega
    have hnext := ih (i + 1) (by omega)
    rw [List.drop_eq_getElem_cons hi, List.all_cons]
    refine Ev.step (fun k => by rw [spec_l22Row.l0]) ?_
    refine evPos (by omega) (evPos (by omega) ?_)
    rw [bt_get row i hi, w64 (x := (i : Int) + 1) (by omega) (by omega)]
    push_cast at hnext
    by_cases h35 : row.data.toList[i] = 35
    · have e : inkOk row.data.toList[i] = true := by unfold inkOk; rw [h35]; rfl
      rw [e, Bool.true_and]
      exact evPos ((u35 _).2 h35) hnext
    · refine evNeg (fun e => h35 ((u35 _).1 e)) ?_
      by_cases h46 : row.data.toList[i] = 46
      · have e : inkOk row.data.toList[i] = true := by unfold inkOk; rw [h46]; rfl
        rw [e, Bool.true_and]
        exact evPos ((u46 _).2 h46) hnext
      · have e : inkOk row.data.toList[i] = false := by unfold inkOk; rw [beq_eq_false_iff_ne.2 h35, beq_eq_false_iff_ne.2 h46]; rfl
        rw [e]
        simp only [Bool.false_and]
        exact evNeg (fun e => h46 ((u46 _).1 e)) (Ev.now _)
theorem specRow_ev (row : ByteArray) (c : Int) (hs : row.size ≤ 1048576) : Ev (fun k => spec_l22Row.f k row c) (rowB c row) :=
  specRow_l0 row c hs row.data.toList.length 0 (by omega)
theorem rdB_one (x : S27) : rd_T27 [x] 0 = x := rfl
theorem beqs (c : Int) (n : Nat) : ((c == 0) != ((n : Int) == 0)) = !decide (c = 0 ↔ (n : Int) = 0) := by
  by_cases h1 : c = 0
  · by_cases h2 : (n : Int) = 0
    · rw [beq_iff_eq.2 h1, beq_iff_eq.2 h2, decide_eq_true ⟨fun _ => h2, fun _ => h1⟩]; rfl
    · rw [beq_iff_eq.2 h1, beq_eq_false_iff_ne.2 h2, decide_eq_false (fun e => h2 (e.1 h1))]; rfl
  · by_cases h2 : (n : Int) = 0
    · rw [beq_eq_false_iff_ne.2 h1, beq_iff_eq.2 h2, decide_eq_false (fun e => h1 (e.2 h2))]; rfl
    · rw [beq_eq_false_iff_ne.2 h1, beq_eq_false_iff_ne.2 h2, decide_eq_true ⟨fun e => absurd e h1, fun e => absurd e h2⟩]; rfl
theorem specOk_l0 (a b c : Int) (r : List ByteArray) (hr : r.length ≤ 1048576) (hx : ∀ x ∈ r, x.size ≤ 1048576) : Ev (fun k => spec_l22Ok_at.l0 k 0 [(⟨a, b, c, r⟩ : S27)] 0) (r.all (rowB c)) := by
  have := ev_all (fun k i => spec_l22Ok_at.l0 k i [(⟨a, b, c, r⟩ : S27)] 0) r (fun k x => spec_l22Row.f k x c) (rowB c) true (fun k => by
      simp only [spec_l22Ok_at.l0]
      exact if_neg (show ¬ (r.length : Int) < (r.length : Int) by omega)) (fun k i hi => by
      simp only [spec_l22Ok_at.l0]
      refine (if_pos (show (i : Int) < (r.length : Int) by omega)).trans ?_
      refine (if_pos (show (0 : Int) ≤ (i : Int) by omega)).trans ?_
      show (spec_l22Row.f k (rdOf ByteArray.empty r (i : Int)) c).bind _ = _
      rw [rdS_get hi, w64 (by omega) (by omega)]
      push_cast
      rfl) (fun x hx' => specRow_ev x c (hx x hx'))
  rwa [Bool.and_true] at this
theorem specOk_ev (a b c : Int) (r : List ByteArray) (hr : r.length ≤ 1048576) (hx : ∀ x ∈ r, x.size ≤ 1048576) : Ev (fun k => spec_l22Ok_at.f k [(⟨a, b, c, r⟩ : S27)] 0) (validBM a b c r) := by
  have bad : ∀ (h : ¬ headB a b c r), Ev (fun k => spec_l22Ok_at.j0 k true [(⟨a, b, c, r⟩ : S27)] 0) (validBM a b c r) := by
    intro h
    unfold validBM
    rw [decide_eq_false h, Bool.false_and]
    exact Ev.step (f := fun _ => some false) (fun k => by simp [spec_l22Ok_at.j0]) (Ev.now _)
  unfold spec_l22Ok_at.f
  simp only [in_f, rdB_one, Option.bind_some, decide_eq_true_eq]
  by_cases h1 : -1048576 ≤ a ∧ a ≤ 1048576
  · refine evPos h1 ?_
    by_cases h2 : -1048576 ≤ b ∧ b ≤ 1048576
    · refine evPos h2 ?_
      by_cases h3 : 0 ≤ c ∧ c ≤ 128
      · refine evPos h3 ?_
        by_cases h4 : (r.length : Int) > 128
        · exact evPos h4 (bad (fun h => by have := h.2.2.2.1; omega))
        · refine evNeg h4 ?_
          rw [beqs]
          by_cases h5 : (c = 0 ↔ (r.length : Int) = 0)
          · rw [decide_eq_true h5]
            unfold validBM
            rw [decide_eq_true (show headB a b c r from ⟨h1, h2, h3, by omega, h5⟩), Bool.true_and]
            exact Ev.step (f := fun k => spec_l22Ok_at.l0 k 0 [(⟨a, b, c, r⟩ : S27)] 0) (fun k => by simp [spec_l22Ok_at.j0]) (specOk_l0 a b c r hr hx)
          · rw [decide_eq_false h5]
            exact bad (fun h => h5 h.2.2.2.2)
      · exact evNeg h3 (bad (fun h => h3 h.2.2.1))
    · exact evNeg h2 (bad (fun h => h2 h.2.1))
  · exact evNeg h1 (bad (fun h => h1 h.1))
theorem dropW_nil {p : UInt8 → Bool} : ∀ (l : List UInt8), l.dropWhile p = [] ↔ ∀ x ∈ l, p x = true
  | [] => by simp
  | x :: l => by
    by_cases h : p x = true
    · rw [List.dropWhile_cons_of_pos h, dropW_nil l]; simp [h]
    · rw [List.dropWhile_cons_of_neg h]; simp [h]
theorem dropW_sub {p : UInt8 → Bool} : ∀ (l : List UInt8), (∀ x ∈ l.dropWhile p, p x = true) → ∀ x ∈ l, p x = true
  | [], _ => by simp
  | x :: l, h => by
    by_cases hx : p x = true
    · rw [List.dropWhile_cons_of_pos hx] at h
      intro y hy
      rcases List.mem_cons.1 hy with rfl | hy
      · exact hx
      · exact dropW_sub l h y hy
    · rw [List.dropWhile_cons_of_neg hx] at h
      exact h
theorem trim_nil (l cs : List UInt8) : Lib.trimS l cs = [] ↔ ∀ x ∈ l, cs.contains x = true := by
  unfold Lib.trimS Lib.trimLeftS Lib.trimRightS
  rw [dropW_nil]
  constructor
  · intro h x hx
    exact dropW_sub l.reverse (fun y hy => h y (List.mem_reverse.2 hy)) x (List.mem_reverse.2 hx)
  · intro h x hx
    have h1 := List.mem_reverse.1 hx
    exact h x (List.mem_reverse.1 ((List.dropWhile_sublist _).mem h1))
theorem closure_ev (a b c : Int) (r : List ByteArray) (row : ByteArray) (hs : row.size ≤ 1048576) : impl_ValidBitmap_1_at.f row [(⟨a, b, c, r⟩ : S27)] 0 = some (!rowB c row) := by
  unfold impl_ValidBitmap_1_at.f
  by_cases h : (row.size : Int) = c
  · refine (if_pos (show (row.size : Int) = c from h)).trans ?_
    unfold strings_Trim.f trimF
    rw [if_pos ⟨by omega, by decide, by decide⟩]
    simp only [Option.bind_some]
    congr 1
    unfold rowB
    rw [show ((row.size : Int) == c) = true by simpa using h, Bool.and_true]
    rw [ByteArray.toList_eq]
    have hc : ∀ x : UInt8, ([35, 46] : List UInt8).contains x = inkOk x := by
      intro x; unfold inkOk; simp only [List.contains_cons, List.contains_nil, Bool.or_false]
    cases hall : row.data.toList.all inkOk with
    | true =>
      have : Lib.trimS row.data.toList [35, 46] = [] := (trim_nil _ _).2 (fun x hx => by rw [hc]; exact List.all_eq_true.1 hall x hx)
      rw [this]; rfl
    | false =>
      have : Lib.trimS row.data.toList [35, 46] ≠ [] := fun e => by
        have h1 := (trim_nil _ _).1 e
        have : row.data.toList.all inkOk = true := List.all_eq_true.2 (fun x hx => by rw [← hc]; exact h1 x hx)
        rw [this] at hall
        cases hall
      simp only [Bool.not_false]
      simpa using this
  · refine (if_neg (show ¬ (row.size : Int) = c from h)).trans ?_
    unfold rowB
    rw [show ((row.size : Int) == c) = false by simpa using h, Bool.and_false]
    rfl
theorem implValid_ev (a b c : Int) (r : List ByteArray) (hr : r.length ≤ 1048576) (hx : ∀ x ∈ r, x.size ≤ 1048576) : Ev (fun k => impl_ValidBitmap.f k a b c r) (validBM a b c r) := by
  have bad : ∀ (h : ¬ headB a b c r), validBM a b c r = false := by
    intro h
    unfold validBM
    rw [decide_eq_false h, Bool.false_and]
  unfold impl_ValidBitmap.f
  by_cases h1 : mx a b > 1048576
  · rw [bad (fun h => by unfold mx at h1; have := h.1; have := h.2.1; split at h1 <;> omega)]; exact evPos h1 (Ev.now _)
  refine evNeg h1 ?_
  by_cases h2 : mn a b < (-1048576)
  · rw [bad (fun h => by unfold mn at h2; have := h.1; have := h.2.1; split at h2 <;> omega)]; exact evPos h2 (Ev.now _)
  refine evNeg h2 ?_
  by_cases h3 : (r.length : Int) > 128
  · rw [bad (fun h => by have := h.2.2.2.1; omega)]; exact evPos h3 (Ev.now _)
  refine evNeg h3 ?_
  by_cases h4 : c < 0
  · rw [bad (fun h => by have := h.2.2.1; omega)]; exact evPos h4 (Ev.now _)
  refine evNeg h4 ?_
  by_cases h5 : c > 128
  · rw [bad (fun h => by have := h.2.2.1; omega)]; exact evPos h5 (Ev.now _)
  refine evNeg h5 ?_
  rw [beqs]
  by_cases h6 : (c = 0 ↔ (r.length : Int) = 0)
  · rw [decide_eq_true h6]
    refine evNeg (by simp) ?_
    have hh : headB a b c r := by
      unfold mx at h1; unfold mn at h2
      split at h1 <;> split at h2 <;> exact ⟨by omega, by omega, by omega, by omega, h6⟩
    obtain ⟨q, hq, hq2⟩ := ev_first (fun k i => slices_IndexFunc_string_string_by_impl_ValidBitmap_1.l0 k r (r.length : Int) i [(⟨a, b, c, r⟩ : S27)] 0) r (fun _ x => impl_ValidBitmap_1_at.f x [(⟨a, b, c, r⟩ : S27)] 0) (fun x => !rowB c x) (fun k => by
        simp only [slices_IndexFunc_string_string_by_impl_ValidBitmap_1.l0]
        rw [if_neg (by omega)]) (fun k i hi => by
        simp only [slices_IndexFunc_string_string_by_impl_ValidBitmap_1.l0]
        rw [if_pos (by omega), if_pos (by omega), if_pos (by omega), rdS_get hi, w64 (by omega) (by omega)]
        push_cast
        rfl) (fun x hx' => by simp only [closure_ev a b c r x (hx x hx')]; exact Ev.now _)
    have hv : validBM a b c r = !(r.any (fun x => !rowB c x)) := by
      unfold validBM
      rw [decide_eq_true hh, Bool.true_and]
      induction r with
      | nil => rfl
      | cons x xs ih => simp only [List.all_cons, List.any_cons, Bool.not_or, Bool.not_not]; rw [List.all_eq_not_any_not]
    rw [hv, ← hq2]
    exact Ev.bind (Ev.bind hq (Ev.now _)) (Ev.now _)
  · rw [decide_eq_false h6, bad (fun h => h6 h.2.2.2.2)]
    exact evPos rfl (Ev.now _)
-- part: pixels
theorem rowB_size {c : Int} {r : List ByteArray} (h : r.all (rowB c) = true) {i : Nat} (hi : i < r.length) : (r[i].size : Int) = c := by
  have h1 := List.all_eq_true.1 h r[i] (List.getElem_mem hi)
  unfold rowB at h1
  rw [Bool.and_eq_true] at h1
  exact beq_iff_eq.1 h1.2
/-- What stands at a place. -/
def pixM (a b c : Int) (r : List ByteArray) (x y : Int) : Bool :=
  if (0 ≤ x - a ∧ x - a < c) ∧ 0 ≤ y - b ∧ y - b < (r.length : Int) then bt (rdOf ByteArray.empty r ((r.length : Int) - 1 - (y - b))) (x - a) == 35 else false
theorem row_at {c : Int} {r : List ByteArray} (hv : r.all (rowB c) = true) {z : Int} (h0 : 0 ≤ z) (h1 : z < (r.length : Int)) : ((rdOf ByteArray.empty r z).size : Int) = c := by
  obtain ⟨i, rfl⟩ : ∃ i : Nat, z = i := ⟨z.toNat, by omega⟩
  have hi : i < r.length := by omega
  rw [rdS_get hi]
  exact rowB_size hv hi
theorem specAt (a b c : Int) (r : List ByteArray) (x y : Int) (hh : headB a b c r) (hv : r.all (rowB c) = true) (hx : -2097152 ≤ x ∧ x ≤ 2097152) (hy : -2097152 ≤ y ∧ y ≤ 2097152) :
    spec_l22At_at.f [(⟨a, b, c, r⟩ : S27)] 0 x y = some (pixM a b c r x y) := by
  obtain ⟨ha, hb, hc, hr, h5⟩ := hh
  have e : spec_l22At_at.f [(⟨a, b, c, r⟩ : S27)] 0 x y = (spec_l00In.f (wrap64 ((wrap64 ((r.length : Int) - 1)) - (wrap64 (y - b)))) 0 (wrap64 ((r.length : Int) - 1))).bind fun t => (if t = true then ((spec_l00In.f (wrap64 (x - a)) 0 (wrap64 (c - 1))).bind fun t2 => (if t2 = true then (if 0 ≤ (wrap64 ((wrap64 ((r.length : Int) - 1)) - (wrap64 (y - b)))) then (if (wrap64 ((wrap64 ((r.length : Int) - 1)) - (wrap64 (y - b)))) < (r.length : Int) then (if 0 ≤ (wrap64 (x - a)) then (if (wrap64 (x - a)) < ((rdOf ByteArray.empty r (wrap64 ((wrap64 ((r.length : Int) - 1)) - (wrap64 (y - b))))).size : Int) then (some ((bt (rdOf ByteArray.empty r (wrap64 ((wrap64 ((r.length : Int) - 1)) - (wrap64 (y - b))))) (wrap64 (x - a))) == 35)) else (none)) else (none)) else (none)) else (none)) else (some false))) else (some false)) := rfl
  rw [e, w64 (x := (r.length : Int) - 1) (by omega) (by omega), w64 (x := y - b) (by omega) (by omega), w64 (x := x - a) (by omega) (by omega), w64 (x := c - 1) (by omega) (by omega), w64 (x := (r.length : Int) - 1 - (y - b)) (by omega) (by omega)]
  simp only [in_f, Option.bind_some, decide_eq_true_eq]
  unfold pixM
  by_cases h1 : 0 ≤ (r.length : Int) - 1 - (y - b) ∧ (r.length : Int) - 1 - (y - b) ≤ (r.length : Int) - 1
  · rw [if_pos h1]
    by_cases h2 : 0 ≤ x - a ∧ x - a ≤ c - 1
    · have hs := row_at hv h1.1 (by omega : (r.length : Int) - 1 - (y - b) < (r.length : Int))
      rw [if_pos h2, if_pos h1.1, if_pos (by omega), if_pos h2.1, if_pos (by omega), if_pos (by omega)]
    · rw [if_neg h2, if_neg (by omega)]
  · rw [if_neg h1, if_neg (by omega)]
theorem implAt (a b c : Int) (r : List ByteArray) (x y : Int) (hh : headB a b c r) (hv : r.all (rowB c) = true) (hx : -2097152 ≤ x ∧ x ≤ 2097152) (hy : -2097152 ≤ y ∧ y ≤ 2097152) :
    impl_pixelAt.f a b c r x y = some (pixM a b c r x y) := by
  obtain ⟨ha, hb, hc, hr, h5⟩ := hh
  unfold impl_pixelAt.f
  rw [w64 (x := (r.length : Int) - 1) (by omega) (by omega), w64 (x := y - b) (by omega) (by omega), w64 (x := x - a) (by omega) (by omega), w64 (x := (r.length : Int) - 1 - (y - b)) (by omega) (by omega)]
  unfold pixM
  by_cases h1 : x - a ≥ 0
  · rw [if_pos h1]
    by_cases h2 : x - a < c
    · rw [if_pos h2]
      by_cases h3 : y - b ≥ 0
      · rw [if_pos h3]
        by_cases h4 : y - b < (r.length : Int)
        · have hs := row_at hv (by omega : 0 ≤ (r.length : Int) - 1 - (y - b)) (by omega)
          rw [if_pos h4, if_pos (by omega), if_pos (by omega), if_pos (by omega), if_pos (by omega), if_pos (by omega)]
        · rw [if_neg h4, if_neg (by omega)]
      · rw [if_neg h3, if_neg (by omega)]
    · rw [if_neg h2, if_neg (by omega)]
  · rw [if_neg h1, if_neg (by omega)]
-- part: the law
theorem Only_l0 (a b c : Int) (r : List ByteArray) (d e f : Int) (q : List ByteArray) (h1 : headB a b c r) (v1 : r.all (rowB c) = true) (h2 : headB d e f q) (v2 : q.all (rowB f) = true) : ∀ (m i : Nat) (s : Int), i + m = r.length →
    ∃ z, Ev (fun k => spec_l22Only_at.l0 k s (i : Int) [(⟨a, b, c, r⟩ : S27)] 0 [(⟨d, e, f, q⟩ : S27)] 0) z ∧ Ev (fun k => impl_DifferentPixels_1.l0 k s r (r.length : Int) (i : Int) a b c r d e f q) z := by
  obtain ⟨ha, hb, hc, hr, _⟩ := h1
  intro m
  induction m with
  | zero =>
    intro i s h
    refine ⟨s, Ev.step (f := fun _ => some _) (fun k => ?_) (Ev.now _), Ev.step (f := fun _ => some _) (fun k => ?_) (Ev.now _)⟩
    · simp only [spec_l22Only_at.l0]
      exact if_neg (show ¬ (i : Int) < (r.length : Int) by omega)
    · simp only [impl_DifferentPixels_1.l0]
      rw [if_neg (by omega)]
  | succ m ih =>
    intro i s h
    have hi : i < r.length := by omega
    have hsz : (r[i].size : Int) = c := rowB_size v1 hi
    have er : rdOf ByteArray.empty r (i : Int) = r[i] := rdS_get hi
    have ey : wrap64 (b + wrap64 (wrap64 ((r.length : Int) - 1) - (i : Int))) = b + ((r.length : Int) - 1 - i) := by
      rw [w64 (x := (r.length : Int) - 1) (by omega) (by omega), w64 (x := (r.length : Int) - 1 - i) (by omega) (by omega), w64 (by omega) (by omega)]
    replace ey := Aside0.mk ey
    have inner : ∀ (n j : Nat) (s : Int), (j : Int) + n = c → ∃ z, Ev (fun k => spec_l22Only_at.l1 k s (i : Int) (j : Int) [(⟨a, b, c, r⟩ : S27)] 0 [(⟨d, e, f, q⟩ : S27)] 0) z ∧
        Ev (fun k => impl_DifferentPixels_1.l1 k s r[i] (b + ((r.length : Int) - 1 - i)) r (r.length : Int) (i : Int) (r[i].size : Int) (j : Int) a b c r d e f q) z := by
      intro n
      induction n with
      | zero =>
        intro j s hj
        obtain ⟨z, z1, z2⟩ := ih (i + 1) s (by omega)
        refine ⟨z, Ev.step (fun k => ?_) z1, Ev.step (fun k => ?_) z2⟩
        · simp only [spec_l22Only_at.l1]
          refine (if_neg (show ¬ (j : Int) < c by omega)).trans ?_
          rw [w64 (x := (i : Int) + 1) (by omega) (by omega)]
          push_cast; rfl
        · simp only [impl_DifferentPixels_1.l1]
          rw [if_neg (by omega), w64 (x := (i : Int) + 1) (by omega) (by omega)]
          push_cast; rfl
      | succ n ihn =>
        intro j s hj
        obtain ⟨z0, p0, i0⟩ := ihn (j + 1) s (by push_cast at hj ⊢; omega)
        obtain ⟨z1, p1, i1⟩ := ihn (j + 1) (wrap64 (s + 1)) (by push_cast at hj ⊢; omega)
        have bx : (-2097152 ≤ a + (j : Int) ∧ a + (j : Int) ≤ 2097152) ∧ -2097152 ≤ b + ((r.length : Int) - 1 - i) ∧ b + ((r.length : Int) - 1 - i) ≤ 2097152 := by omega
        have ej : wrap64 ((j : Int) + 1) = ((j + 1 : Nat) : Int) := by rw [w64 (by omega) (by omega)]; push_cast; rfl
        replace ej := Aside0.mk ej
        have ex : wrap64 (a + (j : Int)) = a + j := w64 (by omega) (by omega)
        replace ex := Aside0.mk ex
        have sa := specAt d e f q (a + j) (b + ((r.length : Int) - 1 - i)) h2 v2 bx.1 bx.2
        have ia := implAt d e f q (a + j) (b + ((r.length : Int) - 1 - i)) h2 v2 bx.1 bx.2
        -- one sign of the row
        have ps : ∀ z, Ev (fun k => if bt r[i] (j : Int) = 35 then (if pixM d e f q (a + j) (b + ((r.length : Int) - 1 - i)) = true then spec_l22Only_at.l1 k s (i : Int) ((j + 1 : Nat) : Int) [(⟨a, b, c, r⟩ : S27)] 0 [(⟨d, e, f, q⟩ : S27)] 0 else spec_l22Only_at.l1 k (wrap64 (s + 1)) (i : Int) ((j + 1 : Nat) : Int) [(⟨a, b, c, r⟩ : S27)] 0 [(⟨d, e, f, q⟩ : S27)] 0) else spec_l22Only_at.l1 k s (i : Int) ((j + 1 : Nat) : Int) [(⟨a, b, c, r⟩ : S27)] 0 [(⟨d, e, f, q⟩ : S27)] 0) z →
            Ev (fun k => spec_l22Only_at.l1 k s (i : Int) (j : Int) [(⟨a, b, c, r⟩ : S27)] 0 [(⟨d, e, f, q⟩ : S27)] 0) z := by
          intro z hz
          refine Ev.step (fun k => ?_) hz
          simp only [spec_l22Only_at.l1]
          refine (if_pos (show (j : Int) < c by omega)).trans ?_
          refine (if_pos (show (0 : Int) ≤ (i : Int) by omega)).trans ?_
          refine (if_pos (show (i : Int) < (r.length : Int) by omega)).trans ?_
          refine (if_pos (show (0 : Int) ≤ (j : Int) by omega)).trans ?_
          refine (if_pos (show (j : Int) < ((rdOf ByteArray.empty r (i : Int)).size : Int) by rw [er]; omega)).trans ?_
          show (if bt (rdOf ByteArray.empty r (i : Int)) (j : Int) = 35 then ((spec_l22At_at.f [(⟨d, e, f, q⟩ : S27)] 0 (wrap64 (a + (j : Int))) (wrap64 (b + wrap64 (wrap64 ((r.length : Int) - 1) - (i : Int))))).bind fun t => (if t = true then spec_l22Only_at.l1 k s (i : Int) (wrap64 ((j : Int) + 1)) [(⟨a, b, c, r⟩ : S27)] 0 [(⟨d, e, f, q⟩ : S27)] 0 else spec_l22Only_at.l1 k (wrap64 (s + 1)) (i : Int) (wrap64 ((j : Int) + 1)) [(⟨a, b, c, r⟩ : S27)] 0 [(⟨d, e, f, q⟩ : S27)] 0)) else spec_l22Only_at.l1 k s (i : Int) (wrap64 ((j : Int) + 1)) [(⟨a, b, c, r⟩ : S27)] 0 [(⟨d, e, f, q⟩ : S27)] 0) = _
          rw [er, ex.out, ey.out, ej.out, sa]
          rfl
        have is : ∀ z, Ev (fun k => if bt r[i] (j : Int) = 35 then (if pixM d e f q (a + j) (b + ((r.length : Int) - 1 - i)) = true then impl_DifferentPixels_1.l1 k s r[i] (b + ((r.length : Int) - 1 - i)) r (r.length : Int) (i : Int) (r[i].size : Int) ((j + 1 : Nat) : Int) a b c r d e f q else impl_DifferentPixels_1.l1 k (wrap64 (s + 1)) r[i] (b + ((r.length : Int) - 1 - i)) r (r.length : Int) (i : Int) (r[i].size : Int) ((j + 1 : Nat) : Int) a b c r d e f q) else impl_DifferentPixels_1.l1 k s r[i] (b + ((r.length : Int) - 1 - i)) r (r.length : Int) (i : Int) (r[i].size : Int) ((j + 1 : Nat) : Int) a b c r d e f q) z →
            Ev (fun k => impl_DifferentPixels_1.l1 k s r[i] (b + ((r.length : Int) - 1 - i)) r (r.length : Int) (i : Int) (r[i].size : Int) (j : Int) a b c r d e f q) z := by
          intro z hz
          refine Ev.step (fun k => ?_) hz
          simp only [impl_DifferentPixels_1.l1]
          rw [if_pos (by omega), if_pos (by omega), if_pos (by omega), ex.out, ej.out, ia]
          rfl
        by_cases h35 : bt r[i] (j : Int) = 35
        · cases hp : pixM d e f q (a + j) (b + ((r.length : Int) - 1 - i)) with
          | true => exact ⟨z0, ps z0 (evPos h35 (evPos hp p0)), is z0 (evPos h35 (evPos hp i0))⟩
          | false => exact ⟨z1, ps z1 (evPos h35 (evNeg (by rw [hp]; simp) p1)), is z1 (evPos h35 (evNeg (by rw [hp]; simp) i1))⟩
        · exact ⟨z0, ps z0 (evNeg h35 p0), is z0 (evNeg h35 i0)⟩
    obtain ⟨z, z1, z2⟩ := inner c.toNat 0 s (by omega)
    refine ⟨z, Ev.step (fun k => ?_) z1, Ev.step (fun k => ?_) z2⟩
    · simp only [spec_l22Only_at.l0]
      exact if_pos (show (i : Int) < (r.length : Int) by omega)
    · simp only [impl_DifferentPixels_1.l0]
      rw [if_pos (by omega), if_pos (by omega), if_pos (by omega), er, ey.out]
      rfl
theorem Diff_both (a b c : Int) (r : List ByteArray) (d e f : Int) (q : List ByteArray) (hr : r.length ≤ 1048576) (hx : ∀ x ∈ r, x.size ≤ 1048576) (hq : q.length ≤ 1048576) (hy : ∀ x ∈ q, x.size ≤ 1048576) :
    ∃ z : Int × Int, Ev (fun k => spec_DifferentPixels.f k a b c r d e f q) z ∧ Ev (fun k => impl_DifferentPixels.f k a b c r d e f q) z := by
  have s1 := specOk_ev a b c r hr hx
  have i1 := implValid_ev a b c r hr hx
  have s2 := specOk_ev d e f q hq hy
  have i2 := implValid_ev d e f q hq hy
  have bs : Ev (fun k => spec_DifferentPixels.j0 k true a b c r d e f q) (0, 1) := Ev.step (f := fun _ => some _) (fun k => by simp [spec_DifferentPixels.j0]) (Ev.now _)
  have bi : Ev (fun k => impl_DifferentPixels.j0 k true a b c r d e f q) (0, 1) := Ev.step (f := fun _ => some _) (fun k => by simp [impl_DifferentPixels.j0]) (Ev.now _)
  cases hv : validBM a b c r with
  | false =>
    rw [hv] at s1 i1
    exact ⟨(0, 1), Ev.bind s1 (evNeg (by simp) bs), Ev.bind i1 (evNeg (by simp) bi)⟩
  | true =>
    rw [hv] at s1 i1
    cases hw : validBM d e f q with
    | false =>
      rw [hw] at s2 i2
      exact ⟨(0, 1), Ev.bind s1 (evPos rfl (Ev.bind s2 bs)), Ev.bind i1 (evPos rfl (Ev.bind i2 bi))⟩
    | true =>
      rw [hw] at s2 i2
      unfold validBM at hv hw
      rw [Bool.and_eq_true, decide_eq_true_eq] at hv hw
      obtain ⟨y, y1, y2⟩ := Only_l0 a b c r d e f q hv.1 hv.2 hw.1 hw.2 r.length 0 0 (by omega)
      obtain ⟨z, z1, z2⟩ := Only_l0 d e f q a b c r hw.1 hw.2 hv.1 hv.2 q.length 0 0 (by omega)
      refine ⟨(wrap64 (y + z), 0), Ev.bind s1 (evPos rfl (Ev.bind s2 ?_)), Ev.bind i1 (evPos rfl (Ev.bind i2 ?_))⟩
      · refine Ev.step (fun k => by rw [spec_DifferentPixels.j0]) ?_
        exact evNeg (by simp) (Ev.bind y1 (Ev.bind z1 (Ev.now _)))
      · refine Ev.step (fun k => by rw [impl_DifferentPixels.j0]) ?_
        exact evNeg (by simp) (Ev.bind y2 (Ev.bind z2 (Ev.now _)))
theorem FnExactDifferentPixels : Owed := by
  intro a b c r d e f q _ _ _ wr _ _ _ wq
  apply Ev.rounds
  refine Ev.bind (szBitmap_ev a b c r wr.1 wr.2 1048576 (by omega) (by omega)) ?_
  by_cases h : less 1048576 (wtS r) < 0
  · exact evPos h (Ev.now true)
  refine evNeg h ?_
  obtain ⟨e1, p1, _⟩ := less_then (s := 1048576) (a := wtS r) (b := 0) (by omega) h
  rw [e1]
  refine Ev.step (fun k => by rw [laws_FnExactDifferentPixels.j0]) ?_
  refine Ev.bind (szBitmap_ev d e f q wq.1 wq.2 _ p1 (by omega)) ?_
  by_cases h2 : less (1048576 - wtS r) (wtS q) < 0
  · exact evPos h2 (Ev.now true)
  refine evNeg h2 ?_
  obtain ⟨b1, bx⟩ := wt_sizes r 1048576 (by omega)
  obtain ⟨b2, by_⟩ := wt_sizes q 1048576 (by rw [less_neg _ _ p1] at h2; omega)
  have t1 := toBitmap_ev a b c r b1
  have t2 := toBitmap_ev d e f q b2
  obtain ⟨z, h3, h4⟩ := Diff_both a b c r d e f q b1 bx b2 by_
  refine Ev.step (fun k => by rw [laws_FnExactDifferentPixels.j1]) ?_
  refine Ev.bind t1 (Ev.bind t2 (Ev.bind h3 (Ev.bind t1 (Ev.bind t2 (Ev.bind h4 (evPos rfl ?_))))))
  refine Ev.step (fun k => by rw [laws_FnExactDifferentPixels.j2]) ?_
  refine evNeg (by rw [bne_self_eq_false]; simp) ?_
  refine Ev.step (fun k => by rw [laws_FnExactDifferentPixels.j3]) ?_
  refine Ev.bind t1 (Ev.bind (eqBitmap_ev a b c r b1) (evPos rfl ?_))
  refine Ev.step (fun k => by rw [laws_FnExactDifferentPixels.j4]) ?_
  exact Ev.bind t2 (Ev.bind (eqBitmap_ev d e f q b2) (evPos rfl (Ev.now true)))
end Go.Proofs.YthngjfipdfckkaaDoor.Pure
