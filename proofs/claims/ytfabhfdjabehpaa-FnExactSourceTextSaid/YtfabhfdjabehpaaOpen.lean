/- What a law's arguments hold: data of a Go type, read where the call begins, is a value of the kind that the printed functions speak of. -/
import Derived.Test.YtfabhfdjabehpaaWMore
import Derived.ChangeArms
import Derived.ChangeSlices
import Derived.DataReads
import Derived.DataElems
namespace Go.Proofs.Ytfabhfdjabehpaa.Open
open Go.RowKit Go.Proofs.YtfabhfdjabehpaaW.PrintWords Go.ChangeShapes
set_option linter.unusedVariables false
/-- Whatever reads as data of the type t is a value of the kind d. -/
def Opens {α : Type} (P : Program) (W : World) (t : TypeId) (d : Kd α) (wf : α → Prop) : Prop :=
  ∀ (H : Type) (enc : TypeId × Value → H) (base : Nat) (spare : Nat → Bool) (held : Bool) (fuel : Nat) (cs : List Value) (x : DataW H × List MemPlace),
    DataW.trod enc P W base spare held fuel t cs = some x → ∃ a, d.K W a cs ∧ wf a
variable {P : Program} {W : World} {t e : TypeId}
theorem Opens.int {k : IntKind} (ht : P.underlying t = some (.int k)) : Opens P W t (Kd.int k) (fun n => (Lit.int k n).wf = true) := by
  intro H enc base spare held fuel cs x h
  obtain ⟨m, rfl, _, hw⟩ := DataW.trod_int ht h
  exact ⟨m, rfl, hw⟩
theorem Opens.bool (ht : P.underlying t = some .bool) : Opens P W t Kd.bool (fun _ => True) := by
  intro H enc base spare held fuel cs x h
  obtain ⟨m, rfl, _⟩ := DataW.trod_bool ht h
  exact ⟨m, rfl, trivial⟩
theorem Opens.string (ht : P.underlying t = some .string) : Opens P W t Kd.string (fun s => s.size ≤ 9223372036854775807) := by
  intro H enc base spare held fuel cs x h
  obtain ⟨s, rfl, _, hs⟩ := DataW.trod_string ht h
  exact ⟨s, rfl, by simpa [maxLen] using hs⟩
theorem cells_at {base : Nat} {a : Addr} {n : Nat} {cs : List Value} (h : W.cells? base a n = some cs) : cs.length = n ∧ ∀ i u, cs[i]? = some u → W.cell? (a.add i) = some u := by
  obtain ⟨_, hl, hc⟩ := World.cells?_some h
  refine ⟨hl, fun i u hu => ?_⟩
  have hi : i < n := by
    have := (List.getElem?_eq_some_iff.1 hu).1
    omega
  rw [hc i hi, hu]
theorem Opens.slice {α : Type} {d : Kd α} {wf : α → Prop} (ht : P.underlying t = some (.slice e)) (hd : Opens P W e d wf) (hs : P.cellsOf e = d.sz) :
    Opens P W t (Kd.slice e d) (fun xs => xs.length ≤ 9223372036854775807 ∧ ∀ x ∈ xs, wf x) := by
  intro H enc base spare held fuel cs x h
  rcases DataW.trod_slice ht h with ⟨rfl, _⟩ | ⟨a, len, cap, elems, rest, n, _, rfl, _, _, hl, hm, hlen, hel, _, _⟩
  · exact ⟨[], ⟨none, 0, rfl, Nat.le_refl _, Kd.C_nil d W⟩, by simp, by simp⟩
  · have each : ∀ i : Nat, i < len → ∃ z, wf z ∧ ∃ c, c.length = d.sz ∧ d.K W z c ∧ ∀ j u, c[j]? = some u → W.cell? (a.add (i * d.sz + j)) = some u := by
      intro i hi
      have h1 := hel i hi
      rw [List.getElem?_eq_getElem (by omega)] at h1
      obtain ⟨c, hc, hy⟩ := Option.bind_eq_some_iff.1 h1
      obtain ⟨z, hz, hw⟩ := hd H enc base spare held n c _ hy
      obtain ⟨h2, h3⟩ := cells_at hc
      refine ⟨z, hw, c, by rw [h2, hs], hz, fun j u hu => ?_⟩
      have := h3 j u hu
      rw [hs] at this
      rwa [Addr.add_add] at this
    have build : ∀ m, m ≤ len → ∃ xs : List α, xs.length = m ∧ ∀ i z, xs[i]? = some z → wf z ∧ ∃ c, c.length = d.sz ∧ d.K W z c ∧ ∀ j u, c[j]? = some u → W.cell? (a.add (i * d.sz + j)) = some u := by
      intro m
      induction m with
      | zero => intro _; exact ⟨[], rfl, by simp⟩
      | succ m ih =>
        intro hm2
        obtain ⟨xs, hxl, hx⟩ := ih (by omega)
        obtain ⟨z, hz, hz2⟩ := each m (by omega)
        refine ⟨xs ++ [z], by simp [hxl], fun i y hy => ?_⟩
        by_cases hi : i < xs.length
        · rw [List.getElem?_append_left hi] at hy
          exact hx i y hy
        · rw [List.getElem?_append_right (by omega)] at hy
          have hi2 : i = m := by
            have := (List.getElem?_eq_some_iff.1 hy).1
            simp at this
            omega
          subst hi2
          simp [hxl] at hy
          subst hy
          exact ⟨hz, hz2⟩
    obtain ⟨xs, hxl, hx⟩ := build len (Nat.le_refl _)
    have hlm : len ≤ 9223372036854775807 := by simp only [maxLen] at hm; omega
    refine ⟨xs, ⟨some a, cap, by rw [hxl], by omega, rfl, by omega, fun _ => ⟨a, rfl, fun i z hz => (hx i z hz).2⟩⟩, by omega, fun z hz => ?_⟩
    obtain ⟨i, hi⟩ := List.getElem?_of_mem hz
    exact (hx i z hi).1
/-- The same of some fields in line, from an offset on. -/
def OpensF {α : Type} (P : Program) (W : World) (fs : List Field) (off : Nat) (d : Kd α) (wf : α → Prop) : Prop :=
  ∀ (H : Type) (enc : TypeId × Value → H) (base : Nat) (spare : Nat → Bool) (held : Bool) (fuel : Nat) (cs : List Value), cs.length = off + d.sz →
    (∀ f ∈ fs, ∃ y, DataW.trod enc P W base spare held fuel f.type ((cs.drop f.offset).take (P.cellsOf f.type)) = some y) → ∃ a, d.K W a (cs.drop off) ∧ wf a
theorem OpensF.one {α : Type} {d : Kd α} {wf : α → Prop} {f : Field} {off : Nat} (ho : f.offset = off) (hs : P.cellsOf f.type = d.sz) (h : Opens P W f.type d wf) : OpensF P W [f] off d wf := by
  intro H enc base spare held fuel cs hl hf
  obtain ⟨y, hy⟩ := hf f (by simp)
  rw [ho, hs, List.take_of_length_le (by simp; omega)] at hy
  exact h H enc base spare held fuel _ _ hy
theorem OpensF.more {α β : Type} {d : Kd α} {d' : Kd β} {wf : α → Prop} {wf' : β → Prop} {f : Field} {fs : List Field} {off off' : Nat} (ho : f.offset = off) (hs : P.cellsOf f.type = d.sz) (h : Opens P W f.type d wf) (hn : off' = off + d.sz) (k : OpensF P W fs off' d' wf') :
    OpensF P W (f :: fs) off (Kd.pair d d') (fun x => wf x.1 ∧ wf' x.2) := by
  subst hn
  intro H enc base spare held fuel cs hl hf
  have hl' : cs.length = off + (d.sz + d'.sz) := hl
  obtain ⟨y, hy⟩ := hf f (by simp)
  rw [ho, hs] at hy
  obtain ⟨a, ha, hw⟩ := h H enc base spare held fuel _ _ hy
  obtain ⟨b, hb, hw'⟩ := k H enc base spare held fuel cs (by omega) (fun g hg => hf g (List.mem_cons_of_mem _ hg))
  refine ⟨(a, b), ⟨(cs.drop off).take d.sz, cs.drop (off + d.sz), ?_, ha, hb⟩, hw, hw'⟩
  rw [← List.drop_drop, List.take_append_drop]
theorem Opens.struct {α : Type} {d : Kd α} {wf : α → Prop} {fs : Array Field} (ht : P.underlying t = some (.struct fs)) (hs : P.cellsOf t = d.sz) (h : OpensF P W fs.toList 0 d wf) : Opens P W t d wf := by
  intro H enc base spare held fuel cs x hx
  obtain ⟨xs, n, _, _, hl, hlen, hf⟩ := DataW.trod_struct ht hx
  have := h H enc base spare held n cs (by rw [hl, hs]; omega) (fun f hf2 => by
    obtain ⟨i, hi⟩ := List.getElem?_of_mem hf2
    have hi2 : fs[i]? = some f := by rw [← hi]; simp
    have h3 := hf i f hi2
    have h4 : i < xs.length := by
      rw [hlen]
      have := (Array.getElem?_eq_some_iff.1 hi2).1
      exact this
    rw [List.getElem?_eq_getElem h4] at h3
    exact ⟨_, h3⟩)
  simpa using this
theorem Opens.iso {α β : Type} {d : Kd α} {wf : α → Prop} {f : β → α} (g : α → β) (hfg : ∀ a, f (g a) = a) (h : Opens P W t d wf) : Opens P W t (Kd.iso d f) (fun b => wf (f b)) := by
  intro H enc base spare held fuel cs x hx
  obtain ⟨a, ha, hw⟩ := h H enc base spare held fuel cs x hx
  refine ⟨g a, ?_, ?_⟩
  · show d.K W (f (g a)) cs
    rw [hfg]; exact ha
  · show wf (f (g a))
    rw [hfg]; exact hw
theorem Opens.weaken {α : Type} {d : Kd α} {wf wf' : α → Prop} (h : Opens P W t d wf) (hw : ∀ a, wf a → wf' a) : Opens P W t d wf' := by
  intro H enc base spare held fuel cs x hx
  obtain ⟨a, ha, hw2⟩ := h H enc base spare held fuel cs x hx
  exact ⟨a, ha, hw a hw2⟩
end Go.Proofs.Ytfabhfdjabehpaa.Open
