/- Valid dictionaries, in plain Lean: what the reference's and the program's tests answer. No Go and no memory in it; no conditions but those that each law names. -/
import Derived.Test.YtihcollncjcpgaaEDca
import Derived.Test.YtihcollncjcpgaaEx0
import Derived.Test.YtihcollncjcpgaaEx2
import Derived.Test.YtihcollncjcpgaaEx9
namespace Go.Proofs.Ytihcollncjcpgaa.E
open Go.RowKit Go.Proofs.YtihcollncjcpgaaW.PrintWords Go.Proofs.YtihcollncjcpgaaW.PrintLast Go.Proofs.YtihcollncjcpgaaW.PrintMore
set_option linter.unusedVariables false

/-- The function answers, with true where P holds and there alone. -/
def EvI (g : Nat → Option Bool) (P : Prop) : Prop := ∃ b : Bool, Ev g b ∧ (b = true ↔ P)
theorem EvI.no {g : Nat → Option Bool} {P : Prop} (h : Ev g false) (hp : ¬ P) : EvI g P := ⟨false, h, by simp [hp]⟩
theorem EvI.iff {g : Nat → Option Bool} {P Q : Prop} (h : EvI g P) (e : P ↔ Q) : EvI g Q := by
  obtain ⟨b, h1, h2⟩ := h
  exact ⟨b, h1, h2.trans e⟩
theorem EvI.succ {g : Nat → Option Bool} {P : Prop} (h : EvI (fun k => g (k + 1)) P) : EvI g P := by
  obtain ⟨b, h1, h2⟩ := h
  exact ⟨b, Ev.succ h1, h2⟩
theorem EvI.pos {c : Prop} [Decidable c] {g f : Nat → Option Bool} {P : Prop} (hc : c) (h : EvI g P) : EvI (fun k => if c then g k else f k) P := by
  obtain ⟨b, h1, h2⟩ := h
  exact ⟨b, Ev.pos hc h1, h2⟩
theorem EvI.neg {c : Prop} [Decidable c] {g f : Nat → Option Bool} {P : Prop} (hc : ¬ c) (h : EvI f P) : EvI (fun k => if c then g k else f k) P := by
  obtain ⟨b, h1, h2⟩ := h
  exact ⟨b, Ev.neg hc h1, h2⟩
theorem EvI.bind {α : Type} {g : Nat → Option α} {f : Nat → α → Option Bool} {a : α} {P : Prop} (h : Ev g a) (k : EvI (fun n => f n a) P) : EvI (fun n => (g n).bind (f n)) P := by
  obtain ⟨b, h1, h2⟩ := k
  exact ⟨b, Ev.bind h h1, h2⟩
theorem EvI.bindNow {α : Type} {g : Option α} {f : Nat → α → Option Bool} {a : α} {P : Prop} (h : g = some a) (k : EvI (fun n => f n a) P) : EvI (fun n => g.bind (f n)) P := by
  obtain ⟨b, h1, h2⟩ := k
  exact ⟨b, Ev.bindNow h h1, h2⟩
theorem EvI.bool {b : Bool} {P : Prop} (h : b = true ↔ P) : EvI (fun _ => some b) P := ⟨b, Ev.now _, h⟩
/-- A test whose other side answers false. -/
theorem EvI.and {c : Prop} [Decidable c] {g : Nat → Option Bool} {P : Prop} (h : c → EvI g P) (n : ¬ c → ¬ P) : EvI (fun k => if c then g k else some false) P := by
  by_cases hc : c
  · exact EvI.pos hc (h hc)
  · exact EvI.neg hc (EvI.no (Ev.now _) (n hc))
theorem EvI.nand {c : Prop} [Decidable c] {g : Nat → Option Bool} {P : Prop} (h : ¬ c → EvI g P) (n : c → ¬ P) : EvI (fun k => if c then some false else g k) P := by
  by_cases hc : c
  · exact EvI.pos hc (EvI.no (Ev.now _) (n hc))
  · exact EvI.neg hc (h hc)

/-- The number of entries that live. -/
def lv (E : List S56) : Nat := E.countP (·.f3)
theorem lv_le (E : List S56) : lv E ≤ E.length := List.countP_le_length
theorem ent_at {E : List S56} {i : Nat} (h : i < E.length) : rd_T56 E (i : Int) = E[i] := by
  unfold rd_T56
  rw [List.getD_eq_getElem?_getD, Int.toNat_natCast, List.getElem?_eq_getElem h]
  rfl
theorem rd_at {I : List Int} {i : Nat} (h : i < I.length) : rd I (i : Int) = I[i] := by
  unfold rd
  rw [List.getD_eq_getElem?_getD, Int.toNat_natCast, List.getElem?_eq_getElem h]
  rfl
theorem liveEntries_l0 {I : List Int} {E : List S56} (hE : E.length ≤ 1000000000) (d : Nat) : ∀ (i c : Nat), i + d = E.length → c ≤ i → Ev (fun k => spec_liveEntries.l0 k c i I E) ((c + (E.drop i).countP (·.f3) : Nat) : Int) := by
  induction d with
  | zero =>
    intro i c hi hc
    refine Ev.succ ?_
    simp only [spec_liveEntries.l0]
    refine Ev.neg (by omega) (Ev.ret ?_)
    rw [List.drop_of_length_le (by omega)]
    simp
  | succ d ih =>
    intro i c hi hc
    refine Ev.succ ?_
    simp only [spec_liveEntries.l0]
    have hl : i < E.length := by omega
    have e1 : wrap64 ((i : Int) + 1) = ((i + 1 : Nat) : Int) := by rw [w64 (by omega) (by omega)]; omega
    have e2 : wrap64 ((c : Int) + 1) = ((c + 1 : Nat) : Int) := by rw [w64 (by omega) (by omega)]; omega
    refine Ev.pos (by omega) (Ev.pos (by omega) ?_)
    rw [List.drop_eq_getElem_cons hl, List.countP_cons, ent_at hl, e1, e2]
    by_cases h : E[i].f3 = true
    · refine Ev.pos h ?_
      have := ih (i + 1) (c + 1) (by omega) (by omega)
      rw [if_pos h]
      rw [show c + (List.countP (fun x => x.f3) (List.drop (i + 1) E) + 1) = c + 1 + List.countP (fun x => x.f3) (List.drop (i + 1) E) by omega]
      exact this
    · refine Ev.neg h ?_
      rw [if_neg h]
      exact ih (i + 1) c (by omega) (by omega)
theorem liveEntries_ok {I : List Int} {E : List S56} (hE : E.length ≤ 1000000000) : Ev (fun k => spec_liveEntries.f k I E) (lv E : Int) := by
  have := liveEntries_l0 (I := I) hE E.length 0 0 (by omega) (by omega)
  simp only [List.drop_zero, Nat.zero_add] at this
  exact this
theorem live_l0 {E : List S56} (hE : E.length ≤ 1000000000) (d : Nat) : ∀ (i c : Nat), i + d = E.length → c ≤ i → Ev (fun k => impl_Dict_live.l0 k c E E.length i) ((c + (E.drop i).countP (·.f3) : Nat) : Int) := by
  induction d with
  | zero =>
    intro i c hi hc
    refine Ev.succ ?_
    simp only [impl_Dict_live.l0]
    refine Ev.neg (by omega) (Ev.ret ?_)
    rw [List.drop_of_length_le (by omega)]
    simp
  | succ d ih =>
    intro i c hi hc
    refine Ev.succ ?_
    simp only [impl_Dict_live.l0]
    have hl : i < E.length := by omega
    have e1 : wrap64 ((i : Int) + 1) = ((i + 1 : Nat) : Int) := by rw [w64 (by omega) (by omega)]; omega
    have e2 : wrap64 ((c : Int) + 1) = ((c + 1 : Nat) : Int) := by rw [w64 (by omega) (by omega)]; omega
    refine Ev.pos (by omega) (Ev.pos (by omega) (Ev.pos (by omega) ?_))
    rw [List.drop_eq_getElem_cons hl, List.countP_cons, ent_at hl, e1, e2]
    by_cases h : E[i].f3 = true
    · refine Ev.pos h ?_
      have := ih (i + 1) (c + 1) (by omega) (by omega)
      rw [if_pos h]
      rw [show c + (List.countP (fun x => x.f3) (List.drop (i + 1) E) + 1) = c + 1 + List.countP (fun x => x.f3) (List.drop (i + 1) E) by omega]
      exact this
    · refine Ev.neg h ?_
      rw [if_neg h]
      exact ih (i + 1) c (by omega) (by omega)
theorem live_ok {I : List Int} {E : List S56} (hE : E.length ≤ 1000000000) : Ev (fun k => impl_Dict_live.f k I E) (lv E : Int) := by
  have := live_l0 hE E.length 0 0 (by omega) (by omega)
  simp only [List.drop_zero, Nat.zero_add] at this
  exact this

/-! What a valid dictionary is. -/
def OkE (e : S56) : Prop := (e.f3 = true ∧ e.f0.size ≤ 20 ∧ e.f1 = hs e.f0 ∧ -1000000 ≤ e.f2 ∧ e.f2 ≤ 1000000) ∨ (e.f3 = false ∧ e.f0.toList = [] ∧ e.f1 = 0 ∧ e.f2 = 0)
def okslot (E : List S56) (x : Int) : Prop := x = -1 ∨ x = -2 ∨ (0 ≤ x ∧ x < E.length ∧ (rd_T56 E x).f3 = true)
structure SlotsOk (I : List Int) (E : List S56) : Prop where
  ok : ∀ x ∈ I, okslot E x
  one : ∀ x ∈ I, 0 ≤ x → I.count x = 1
  all : ∀ i : Nat, i < E.length → (rd_T56 E i).f3 = true → (i : Int) ∈ I
  drop : I.count (-2) + lv E = E.length
def FindOk (I : List Int) (E : List S56) : Prop := ∀ i : Nat, i < E.length → (rd_T56 E i).f3 = true → ∃ m, Ends I E (rd_T56 E i).f0 m ∧ rd I (wy I (rd_T56 E i).f0 m) = i
structure Valid (I : List Int) (E : List S56) : Prop where
  size : Size I.length
  few : 3 * E.length ≤ 2 * I.length
  live : lv E ≤ 40
  ent : ∀ e ∈ E, OkE e
  slots : SlotsOk I E
  find : FindOk I E
theorem SlotsOk.good {I : List Int} {E : List S56} (h : SlotsOk I E) : Good I E := by
  intro x hx
  rcases h.ok x hx with h | h | h <;> omega

/-! There is an empty slot. -/
theorem nodup_le {L M : List Int} (hn : ∀ x ∈ L, L.count x = 1) (hs : ∀ x ∈ L, x ∈ M) : L.length ≤ M.length := by
  induction L generalizing M with
  | nil => simp
  | cons a t ih =>
    have ha : a ∉ t := by
      intro h
      have h1 := hn a (List.mem_cons_self ..)
      rw [List.count_cons_self] at h1
      have := List.count_pos_iff.mpr h
      omega
    have hm : a ∈ M := hs a (List.mem_cons_self ..)
    have h2 : t.length ≤ (M.erase a).length := by
      refine ih ?_ ?_
      · intro x hx
        have h1 := hn x (List.mem_cons_of_mem _ hx)
        have hne : a ≠ x := by rintro rfl; exact ha hx
        rwa [List.count_cons_of_ne hne] at h1
      · intro x hx
        have hne : x ≠ a := by rintro rfl; exact ha hx
        exact (List.mem_erase_of_ne hne).mpr (hs x (List.mem_cons_of_mem _ hx))
    rw [List.length_erase_of_mem hm] at h2
    have := List.length_pos_of_mem hm
    simp only [List.length_cons]
    omega
theorem map_ent (E : List S56) : (List.range E.length).map (fun i : Nat => rd_T56 E i) = E := by
  refine List.ext_getElem (by simp) ?_
  intro i h1 h2
  simp only [List.getElem_map, List.getElem_range]
  exact ent_at h2
/-- The places of the entries that live. -/
def liv (E : List S56) : List Int := ((List.range E.length).filter (fun i : Nat => (rd_T56 E i).f3)).map (fun i : Nat => (i : Int))
theorem liv_len (E : List S56) : (liv E).length = lv E := by
  unfold liv lv
  rw [List.length_map, ← List.countP_eq_length_filter]
  conv => rhs; rw [← map_ent E, List.countP_map]
  rfl
theorem mem_liv {E : List S56} {x : Int} : x ∈ liv E ↔ 0 ≤ x ∧ x < E.length ∧ (rd_T56 E x).f3 = true := by
  unfold liv
  simp only [List.mem_map, List.mem_filter, List.mem_range]
  constructor
  · rintro ⟨i, ⟨h1, h2⟩, rfl⟩
    exact ⟨by omega, by omega, h2⟩
  · rintro ⟨h1, h2, h3⟩
    refine ⟨x.toNat, ⟨by omega, ?_⟩, by omega⟩
    rw [show ((x.toNat : Nat) : Int) = x by omega]
    exact h3
theorem split_len (I : List Int) (h : ∀ x ∈ I, x = -2 ∨ 0 ≤ x) : I.length = I.count (-2) + (I.filter (fun x => decide (0 ≤ x))).length := by
  induction I with
  | nil => rfl
  | cons a t ih =>
    have h1 := ih (fun x hx => h x (List.mem_cons_of_mem _ hx))
    rcases h a (List.mem_cons_self ..) with rfl | ha
    · rw [List.count_cons_self, List.filter_cons_of_neg (by decide), List.length_cons]
      omega
    · have hne : a ≠ -2 := by omega
      rw [List.count_cons_of_ne hne, List.filter_cons_of_pos (by simpa using ha), List.length_cons, List.length_cons]
      omega
theorem SlotsOk.empty {I : List Int} {E : List S56} (h : SlotsOk I E) (hI : 0 < I.length) (hf : 3 * E.length ≤ 2 * I.length) : ∃ t : Nat, t < I.length ∧ rd I t = -1 := by
  by_cases hx : (-1 : Int) ∈ I
  · obtain ⟨t, ht, e⟩ := List.getElem_of_mem hx
    exact ⟨t, ht, by rw [rd_at ht, e]⟩
  · exfalso
    have h1 := split_len I (fun x hm => by
      rcases h.ok x hm with e | e | e
      · exact absurd (e ▸ hm) hx
      · exact .inl e
      · exact .inr e.1)
    have h2 : (I.filter (fun x => decide (0 ≤ x))).length ≤ (liv E).length := by
      refine nodup_le ?_ ?_
      · intro x hm
        simp only [List.mem_filter, decide_eq_true_eq] at hm
        rw [List.count_filter (by simpa using hm.2)]
        exact h.one x hm.1 hm.2
      · intro x hm
        simp only [List.mem_filter, decide_eq_true_eq] at hm
        rcases h.ok x hm.1 with e | e | e
        · omega
        · omega
        · exact mem_liv.mpr e
    rw [liv_len] at h2
    have := h.drop
    omega
theorem SlotsOk.ends {I : List Int} {E : List S56} (h : SlotsOk I E) (hn : Size I.length) (hf : 3 * E.length ≤ 2 * I.length) (key : ByteArray) : ∃ m, Ends I E key m := by
  obtain ⟨t, ht, e⟩ := h.empty (by rcases hn with h | h | h | h | h <;> omega) hf
  exact Ends.of_empty hn t ht e
end Go.Proofs.Ytihcollncjcpgaa.E
