/- What a row reads as data, as an element of a kind of the print: integers, bools, strings, slices, structs; no conditions. -/
import Derived.Test.YtihcollncjcpgaaEx0
import Derived.ProofKit
import Derived.OpenShut
namespace Go.Proofs.Ytihcollncjcpgaa.E
open Go.RowKit Go.Proofs.YtihcollncjcpgaaW.PrintWords Go.Proofs.YtihcollncjcpgaaW.PrintLast Go.Proofs.YtihcollncjcpgaaW.PrintMore
set_option linter.unusedVariables false
/-! ### What a row reads as data is an element of a kind -/
section Opens
variable {H : Type} {enc : TypeId × Value → H} {P : Program} {W : World} {base : Nat} {spare : Nat → Bool} {held : Bool}
/-- What reads as data of type t is, in memory, an element of the kind d, of which ok holds. -/
def Opn (enc : TypeId × Value → H) (P : Program) (W : World) (base : Nat) (spare : Nat → Bool) (held : Bool) (t : TypeId) {α : Type} (d : Kd α) (ok : α → Prop) : Prop :=
  ∀ (fuel : Nat) (cs : List Value) (x : DataW H × List MemPlace), DataW.trod enc P W base spare held fuel t cs = some x → ∃ a : α, d.K W a cs ∧ ok a
theorem opn_int {t : TypeId} {k : IntKind} (hu : P.underlying t = some (.int k)) : Opn enc P W base spare held t (Kd.int k) (fun n => (Lit.int k n).wf = true) := by
  intro fuel cs x h
  obtain ⟨n, rfl, _, hw⟩ := DataW.trod_int hu h
  exact ⟨n, rfl, hw⟩
theorem opn_bool {t : TypeId} (hu : P.underlying t = some .bool) : Opn enc P W base spare held t Kd.bool (fun _ => True) := by
  intro fuel cs x h
  obtain ⟨n, rfl, _⟩ := DataW.trod_bool hu h
  exact ⟨n, rfl, trivial⟩
theorem opn_string {t : TypeId} (hu : P.underlying t = some .string) : Opn enc P W base spare held t Kd.string (fun s => s.size ≤ maxLen) := by
  intro fuel cs x h
  obtain ⟨s, rfl, _, hs⟩ := DataW.trod_string hu h
  exact ⟨s, rfl, hs⟩
theorem cells_at {w : World} {b n : Nat} {a : Addr} {cs : List Value} (h : w.cells? b a n = some cs) : cs.length = n ∧ ∀ i u, cs[i]? = some u → w.cell? (a.add i) = some u := by
  obtain ⟨_, hl, hc⟩ := World.cells?_some h
  refine ⟨hl, fun i u hu => ?_⟩
  have hi : i < n := by rw [← hl]; exact (List.getElem?_eq_some_iff.1 hu).1
  rw [hc i hi]
  exact hu
theorem opn_slice {t e : TypeId} {α : Type} {d : Kd α} {ok : α → Prop} (hu : P.underlying t = some (.slice e)) (hs : d.sz = P.cellsOf e) (h : Opn enc P W base spare held e d ok) :
    Opn enc P W base spare held t (Kd.slice e d) (fun l => l.length ≤ maxLen ∧ ∀ x ∈ l, ok x) := by
  intro fuel cs x hx
  rcases DataW.trod_slice hu hx with ⟨rfl, _⟩ | ⟨a, len, cap, elems, rest, n, _, rfl, _, _, hl, hm, hlen, hel, _⟩
  · exact ⟨[], ⟨none, 0, rfl, Nat.le_refl _, rfl, by simp, fun hn => absurd hn (by simp)⟩, by simp⟩
  · have key : ∀ i : Fin len, ∃ p : α × List Value, W.cells? base (a.add (i.1 * P.cellsOf e)) (P.cellsOf e) = some p.2 ∧ d.K W p.1 p.2 ∧ ok p.1 := by
      intro i
      have h1 := hel i.1 i.2
      rw [List.getElem?_eq_getElem (by omega)] at h1
      obtain ⟨c, h2, h3⟩ := Option.bind_eq_some_iff.1 h1
      obtain ⟨y, h4, h5⟩ := h _ _ _ h3
      exact ⟨(y, c), h2, h4, h5⟩
    have ⟨f, hf⟩ : ∃ f : Fin len → α × List Value, ∀ i, W.cells? base (a.add (i.1 * P.cellsOf e)) (P.cellsOf e) = some (f i).2 ∧ d.K W (f i).1 (f i).2 ∧ ok (f i).1 :=
      ⟨fun i => Classical.choose (key i), fun i => Classical.choose_spec (key i)⟩
    have hlen' : (List.ofFn fun i => (f i).1).length = len := List.length_ofFn
    refine ⟨List.ofFn fun i => (f i).1, ⟨some a, cap, by rw [hlen'], by rw [hlen']; exact hl, rfl, by rw [hlen']; unfold maxLen at hm; omega, fun _ => ⟨a, rfl, ?_⟩⟩, by rw [hlen']; omega, ?_⟩
    · intro j p hp
      have hj : j < len := by rw [← hlen']; exact (List.getElem?_eq_some_iff.1 hp).1
      obtain ⟨g1, g2, _⟩ := hf ⟨j, hj⟩
      rw [List.getElem?_eq_getElem (by rw [hlen']; exact hj)] at hp
      simp only [List.getElem_ofFn, Option.some.injEq] at hp
      subst hp
      obtain ⟨c1, c2⟩ := cells_at g1
      refine ⟨(f ⟨j, hj⟩).2, by rw [c1, hs], g2, fun i u hu => ?_⟩
      have := c2 i u hu
      rw [hs, ← this]
      have e2 : (a.add (j * P.cellsOf e)).add i = a.add (j * P.cellsOf e + i) := by
        unfold Addr.add
        by_cases hi : j * P.cellsOf e = 0 <;> by_cases hj : i = 0 <;> simp [hi, hj, Nat.add_assoc]
      rw [← e2]
    · intro x hx
      obtain ⟨i, rfl⟩ := List.mem_ofFn.1 hx
      exact (hf i).2.2
/-- Some fields of a struct, from the one at place i on, which begins o cells into it. -/
def OpnF (enc : TypeId × Value → H) (P : Program) (W : World) (base : Nat) (spare : Nat → Bool) (held : Bool) (fs : Array Field) (i o : Nat) {α : Type} (d : Kd α) (ok : α → Prop) : Prop :=
  ∀ (n : Nat) (cs : List Value), (∀ j f, i ≤ j → fs[j]? = some f → ∃ x, DataW.trod enc P W base spare held n f.type ((cs.drop f.offset).take (P.cellsOf f.type)) = some x) → ∃ a : α, d.K W a ((cs.drop o).take d.sz) ∧ ok a
theorem opnF_one {fs : Array Field} {i o : Nat} {f : Field} {α : Type} {d : Kd α} {ok : α → Prop} (hf : fs[i]? = some f) (ho : f.offset = o) (hs : d.sz = P.cellsOf f.type) (h : Opn enc P W base spare held f.type d ok) :
    OpnF enc P W base spare held fs i o d ok := by
  intro n cs hx
  obtain ⟨x, h1⟩ := hx i f (Nat.le_refl _) hf
  rw [ho, ← hs] at h1
  exact h _ _ _ h1
theorem opnF_cons {fs : Array Field} {i o o2 : Nat} {f : Field} {α β : Type} {d : Kd α} {d2 : Kd β} {ok : α → Prop} {ok2 : β → Prop} (hf : fs[i]? = some f) (ho : f.offset = o) (hs : d.sz = P.cellsOf f.type) (ho2 : o2 = o + d.sz)
    (h : Opn enc P W base spare held f.type d ok) (h2 : OpnF enc P W base spare held fs (i + 1) o2 d2 ok2) : OpnF enc P W base spare held fs i o (Kd.pair d d2) (fun p => ok p.1 ∧ ok2 p.2) := by
  intro n cs hx
  subst ho2
  obtain ⟨x, h1⟩ := hx i f (Nat.le_refl _) hf
  rw [ho, ← hs] at h1
  obtain ⟨a, ha, oka⟩ := h _ _ _ h1
  obtain ⟨b, hb, okb⟩ := h2 n cs (fun j f hj hf => hx j f (by omega) hf)
  refine ⟨(a, b), ⟨_, _, ?_, ha, hb⟩, oka, okb⟩
  show (cs.drop o).take (d.sz + d2.sz) = _
  rw [List.take_add, List.drop_drop]
theorem opn_struct {t : TypeId} {fs : Array Field} {α : Type} {d : Kd α} {ok : α → Prop} (hu : P.underlying t = some (.struct fs)) (hs : d.sz = P.cellsOf t) (h : OpnF enc P W base spare held fs 0 0 d ok) : Opn enc P W base spare held t d ok := by
  intro fuel cs x hx
  obtain ⟨xs, n, _, _, hl, hxl, hf⟩ := DataW.trod_struct hu hx
  obtain ⟨a, ha, oka⟩ := h n cs (fun j f _ hj => by
    have h1 := hf j f hj
    have hjl : j < xs.length := by rw [hxl]; exact (Array.getElem?_eq_some_iff.1 hj).1
    rw [List.getElem?_eq_getElem hjl] at h1
    exact ⟨_, h1⟩)
  rw [List.drop_zero, hs, ← hl, List.take_length] at ha
  exact ⟨a, ha, oka⟩
theorem opn_iso {t : TypeId} {α β : Type} {d : Kd α} {f : β → α} {ok : α → Prop} (g : α → β) (hg : ∀ a, f (g a) = a) (h : Opn enc P W base spare held t d ok) : Opn enc P W base spare held t (Kd.iso d f) (fun x => ok (f x)) := by
  intro fuel cs x hx
  obtain ⟨a, ha, oka⟩ := h _ _ _ hx
  exact ⟨g a, by show d.K W (f (g a)) cs; rw [hg]; exact ha, by show ok (f (g a)); rw [hg]; exact oka⟩
theorem Opn.imp {t : TypeId} {α : Type} {d : Kd α} {ok ok' : α → Prop} (h : Opn enc P W base spare held t d ok) (hi : ∀ a, ok a → ok' a) : Opn enc P W base spare held t d ok' := by
  intro fuel cs x hx
  obtain ⟨a, ha, oka⟩ := h _ _ _ hx
  exact ⟨a, ha, hi _ oka⟩
end Opens
end Go.Proofs.Ytihcollncjcpgaa.E
