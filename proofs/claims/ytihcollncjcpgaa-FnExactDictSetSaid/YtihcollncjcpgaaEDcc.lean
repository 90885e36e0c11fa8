/- What the reference's test of a dictionary answers, in plain Lean. No Go and no memory in it; no conditions but those that each law names. -/
import Derived.Test.YtihcollncjcpgaaEDcb
import Derived.Test.YtihcollncjcpgaaEx0
import Derived.Test.YtihcollncjcpgaaEx2
import Derived.Test.YtihcollncjcpgaaEx3
import Derived.Test.YtihcollncjcpgaaEx4
import Derived.Test.YtihcollncjcpgaaEx9
namespace Go.Proofs.Ytihcollncjcpgaa.E
open Go.RowKit Go.Proofs.YtihcollncjcpgaaW.PrintWords Go.Proofs.YtihcollncjcpgaaW.PrintLast Go.Proofs.YtihcollncjcpgaaW.PrintMore
set_option linter.unusedVariables false

theorem take_next {α : Type} {l : List α} {i : Nat} (h : i < l.length) : l.take (i + 1) = l.take i ++ [l[i]] := by
  rw [List.take_add_one, List.getElem?_eq_getElem h]
  rfl
theorem nat_next {i : Nat} (h : i ≤ 1000000000) : wrap64 ((i : Int) + 1) = ((i + 1 : Nat) : Int) := by
  rw [w64 (by omega) (by omega)]
  omega
theorem count_take_le {I : List Int} (x : Int) (i : Nat) : (I.take i).count x ≤ I.count x := (List.take_sublist i I).count_le x

/-! ### the loop over the entries and over the live ones' ways -/
theorem inRange_ok (v : Int) : spec_inRange.f v (-1000000) 1000000 = some (decide (-1000000 ≤ v ∧ v ≤ 1000000)) := by
  unfold spec_inRange.f
  by_cases h : v ≥ -1000000
  · rw [if_pos h]
    congr 1
    exact decide_eq_decide.mpr ⟨fun h2 => ⟨h, h2⟩, fun h2 => h2.2⟩
  · rw [if_neg h]
    congr 1
    exact (decide_eq_false (fun h2 => h h2.1)).symm
theorem within_ok (v : Int) : impl_within.f v (-1000000) 1000000 = some (decide (-1000000 ≤ v ∧ v ≤ 1000000)) := by
  unfold impl_within.f
  by_cases h : v ≥ -1000000
  · rw [if_pos h]
    congr 1
    exact decide_eq_decide.mpr ⟨fun h2 => ⟨h, h2⟩, fun h2 => h2.2⟩
  · rw [if_neg h]
    congr 1
    exact (decide_eq_false (fun h2 => h h2.1)).symm
theorem OkE.small {e : S56} (h : OkE e) (hl : e.f3 = true) : e.f0.size ≤ 20 := by
  rcases h with h | h
  · exact h.2.1
  · rw [hl] at h
    exact absurd h.1 (by decide)
theorem okE_at {E : List S56} (h : ∀ e ∈ E, OkE e) {i : Nat} (hi : i < E.length) : OkE (rd_T56 E i) := by
  rw [ent_at hi]
  exact h _ (List.getElem_mem hi)
theorem Size.pos {n : Nat} (h : Size n) : 0 < n ∧ n ≤ 100000 := by
  rcases h with h | h | h | h | h <;> omega
theorem validDict_l1 {I : List Int} {E : List S56} (hn : Size I.length) (hf : 3 * E.length ≤ 2 * I.length) (he : ∀ e ∈ E, OkE e) (hs : SlotsOk I E) (d : Nat) :
    ∀ i : Nat, i + d = E.length → (∀ j : Nat, j < i → (rd_T56 E j).f3 = true → ∃ m, Ends I E (rd_T56 E j).f0 m ∧ rd I (wy I (rd_T56 E j).f0 m) = j) → EvI (fun k => spec_validDict.l1 k i I E) (FindOk I E) := by
  have hp := hn.pos
  induction d with
  | zero =>
    intro i hi hd
    refine EvI.succ ?_
    simp only [spec_validDict.l1]
    refine EvI.neg (by omega) (EvI.bool ⟨fun _ j hj => hd j (by omega), fun _ => rfl⟩)
  | succ d ih =>
    intro i hi hd
    refine EvI.succ ?_
    simp only [spec_validDict.l1]
    have hl : i < E.length := by omega
    rw [nat_next (by omega)]
    refine EvI.pos (by omega) (EvI.pos (by omega) ?_)
    by_cases h : (rd_T56 E i).f3 = true
    · refine EvI.pos h ?_
      obtain ⟨m, hm⟩ := hs.ends hn hf (rd_T56 E i).f0
      have hw := wy_range hp.1 (rd_T56 E i).f0 m
      refine EvI.bind (slotOf_ok hp (by have := (okE_at he hl).small h; omega) hs.good hm) (EvI.pos hw.1 (EvI.pos hw.2 ?_))
      refine EvI.and (fun hr => ih (i + 1) (by omega) ?_) (fun hr hF => ?_)
      · intro j hj hj3
        by_cases hji : j = i
        · subst hji
          exact ⟨m, hm, hr⟩
        · exact hd j (by omega) hj3
      · obtain ⟨m', hm', hr'⟩ := hF i hl h
        rw [hm'.uniq hm] at hr'
        exact hr hr'
    · refine EvI.neg h (ih (i + 1) (by omega) ?_)
      intro j hj hj3
      by_cases hji : j = i
      · subst hji
        exact absurd hj3 h
      · exact hd j (by omega) hj3

/-! ### the slots -/
/-- The marks behind the first i slots. -/
def sn (I : List Int) (E : List S56) (i : Nat) : List Bool := (List.range E.length).map (fun k : Nat => decide ((k : Int) ∈ I.take i))
theorem sn_len (I : List Int) (E : List S56) (i : Nat) : (sn I E i).length = E.length := by simp [sn]
theorem sn_at (I : List Int) (E : List S56) (i : Nat) {x : Int} (h0 : 0 ≤ x) (h1 : x < E.length) : rdOf false (sn I E i) x = decide (x ∈ I.take i) := by
  unfold rdOf sn
  rw [List.getD_eq_getElem?_getD, List.getElem?_map, List.getElem?_range (by omega)]
  simp only [Option.map_some, Option.getD_some]
  rw [show ((x.toNat : Nat) : Int) = x by omega]
theorem sn_next {I : List Int} {E : List S56} {i : Nat} (hi : i < I.length) (h0 : 0 ≤ I[i]) (h1 : I[i] < E.length) : (sn I E i).set (I[i]).toNat true = sn I E (i + 1) := by
  refine List.ext_getElem (by simp [sn]) ?_
  intro j hj1 hj2
  rw [List.getElem_set]
  have hj : j < E.length := by simpa [sn] using hj2
  simp only [sn, List.getElem_map, List.getElem_range, take_next hi, List.mem_append, List.mem_singleton]
  by_cases h : (I[i]).toNat = j
  · rw [if_pos h]
    have : (j : Int) = I[i] := by omega
    simp [this]
  · rw [if_neg h]
    have : ¬ (j : Int) = I[i] := by omega
    simp [this]
theorem sn_same {I : List Int} {E : List S56} {i : Nat} (hi : i < I.length) (h0 : I[i] < 0) : sn I E i = sn I E (i + 1) := by
  unfold sn
  refine List.map_congr_left ?_
  intro j _
  rw [take_next hi]
  have : ¬ (j : Int) = I[i] := by omega
  simp only [List.mem_append, List.mem_singleton, this, or_false]
theorem validSlots_l1 {I : List Int} {E : List S56} (hE : E.length ≤ 1000000) (hI : I.length ≤ 1000000) (hok : ∀ x ∈ I, okslot E x) (hone : ∀ x ∈ I, 0 ≤ x → I.count x = 1) (d : Nat) :
    ∀ i : Nat, i + d = E.length → (∀ j : Nat, j < i → ((rd_T56 E j).f3 = true ↔ (j : Int) ∈ I)) → EvI (fun k => spec_validSlots.l1 k (sn I E I.length) (I.count (-2)) i I E) (SlotsOk I E) := by
  have hc : I.count (-2) ≤ I.length := List.count_le_length
  have hv := lv_le E
  have hsn : ∀ j : Nat, j < E.length → rdOf false (sn I E I.length) j = decide ((j : Int) ∈ I) := by
    intro j hj
    rw [sn_at I E I.length (by omega) (by omega), List.take_length]
  induction d with
  | zero =>
    intro i hi hd
    refine EvI.succ ?_
    simp only [spec_validSlots.l1]
    refine EvI.neg (by rw [sn_len]; omega) (EvI.bind (liveEntries_ok (by omega)) (EvI.bool ?_))
    rw [w64 (by omega) (by omega), beq_iff_eq]
    refine ⟨fun h => ⟨hok, hone, fun j hj h3 => (hd j (by omega)).mp h3, by omega⟩, fun h => by have := h.drop; omega⟩
  | succ d ih =>
    intro i hi hd
    refine EvI.succ ?_
    simp only [spec_validSlots.l1]
    have hl : i < E.length := by omega
    rw [nat_next (by omega)]
    refine EvI.pos (by rw [sn_len]; omega) (EvI.pos (by omega) (EvI.pos (by omega) ?_))
    rw [hsn i hl]
    refine EvI.nand (fun h => ih (i + 1) (by omega) ?_) (fun h hS => ?_)
    · intro j hj
      by_cases hji : j = i
      · subst hji
        cases h3 : (rd_T56 E j).f3 <;> simp [h3] at h ⊢ <;> exact h
      · exact hd j (by omega)
    · by_cases hm : (i : Int) ∈ I
      · rcases hS.ok _ hm with e | e | e
        · omega
        · omega
        · simp [hm, e.2.2] at h
      · have h3 : ¬ (rd_T56 E i).f3 = true := fun h3 => hm (hS.all i hl h3)
        simp only [Bool.not_eq_true] at h3
        simp [hm, h3] at h
theorem validSlots_l0 {I : List Int} {E : List S56} (hE : E.length ≤ 1000000) (hI : I.length ≤ 1000000) (d : Nat) :
    ∀ i : Nat, i + d = I.length → (∀ x ∈ I.take i, okslot E x) → (∀ x ∈ I.take i, 0 ≤ x → (I.take i).count x = 1) → EvI (fun k => spec_validSlots.l0 k (sn I E i) ((I.take i).count (-2)) i I E) (SlotsOk I E) := by
  induction d with
  | zero =>
    intro i hi h1 h2
    obtain rfl : i = I.length := by omega
    rw [List.take_length] at h1 h2 ⊢
    refine EvI.succ ?_
    simp only [spec_validSlots.l0]
    refine EvI.neg (by omega) ?_
    exact validSlots_l1 hE hI h1 h2 E.length 0 (by omega) (fun j hj => by omega)
  | succ d ih =>
    intro i hi h1 h2
    have hl : i < I.length := by omega
    have hcl : (I.take i).count (-2) ≤ I.length := Nat.le_trans (count_take_le _ _) List.count_le_length
    have hmem : I[i] ∈ I := List.getElem_mem hl
    -- what the rounds behind see
    have next : okslot E I[i] → (0 ≤ I[i] → I[i] ∉ I.take i) → ∀ c : Nat, c = (I.take (i + 1)).count (-2) → EvI (fun k => spec_validSlots.j2 k (sn I E i) c i I[i] false I E) (SlotsOk I E) := by
      intro hok hnew c hc
      have ih' := ih (i + 1) (by omega) (by
        intro x hx
        rw [take_next hl, List.mem_append, List.mem_singleton] at hx
        rcases hx with hx | rfl
        · exact h1 x hx
        · exact hok) (by
        intro x hx h0
        rw [take_next hl] at hx ⊢
        rw [List.count_append]
        rcases List.mem_append.mp hx with hx | hx
        · have hne : I[i] ≠ x := by rintro rfl; exact hnew h0 hx
          rw [h2 x hx h0, List.count_cons_of_ne hne]
          rfl
        · rw [List.mem_singleton] at hx
          subst hx
          rw [List.count_eq_zero_of_not_mem (hnew h0), List.count_cons_self]
          rfl)
      rw [← hc] at ih'
      refine EvI.succ ?_
      simp only [spec_validSlots.j2]
      rw [nat_next (by omega)]
      refine EvI.neg (by decide) ?_
      by_cases h0 : I[i] ≥ 0
      · rcases hok with e | e | e
        · omega
        · omega
        refine EvI.pos h0 (EvI.pos h0 (EvI.pos (by rw [sn_len]; exact e.2.1) ?_))
        rw [sn_next hl e.1 e.2.1]
        exact ih'
      · refine EvI.neg h0 ?_
        rw [sn_same hl (by omega)]
        exact ih'
    have bad : ∀ c : Int, ¬ SlotsOk I E → EvI (fun k => spec_validSlots.j2 k (sn I E i) c i I[i] true I E) (SlotsOk I E) := by
      intro c h
      refine EvI.succ ?_
      simp only [spec_validSlots.j2]
      exact EvI.pos trivial (EvI.no (Ev.now _) h)
    have mid : ∀ c : Nat, c = (I.take (i + 1)).count (-2) → EvI (fun k => spec_validSlots.j1 k (sn I E i) c i I[i] I E) (SlotsOk I E) := by
      intro c hc
      refine EvI.succ ?_
      simp only [spec_validSlots.j1]
      by_cases ha : I[i] < -2
      · refine EvI.pos ha (bad _ (fun h => ?_))
        rcases h.ok _ hmem with e | e | e <;> omega
      refine EvI.neg ha ?_
      by_cases hb : I[i] ≥ (E.length : Int)
      · refine EvI.pos hb (bad _ (fun h => ?_))
        rcases h.ok _ hmem with e | e | e <;> omega
      refine EvI.neg hb ?_
      by_cases h0 : I[i] ≥ 0
      · refine EvI.pos h0 (EvI.pos h0 (EvI.pos (by rw [sn_len]; omega) ?_))
        rw [sn_at I E i h0 (by omega)]
        by_cases hs : I[i] ∈ I.take i
        · refine EvI.pos (decide_eq_true hs) (bad _ (fun h => ?_))
          have h3 := h.one _ hmem h0
          have h4 := count_take_le (I := I) I[i] (i + 1)
          rw [take_next hl, List.count_append, List.count_cons_self] at h4
          have := List.count_pos_iff.mpr hs
          omega
        · refine EvI.neg (by simpa using hs) (EvI.pos (by omega) ?_)
          by_cases h3 : (rd_T56 E I[i]).f3 = true
          · rw [h3]
            exact next (.inr (.inr ⟨h0, by omega, h3⟩)) (fun _ => hs) c hc
          · simp only [Bool.not_eq_true] at h3
            rw [h3]
            refine bad _ (fun h => ?_)
            rcases h.ok _ hmem with e | e | e
            · omega
            · omega
            · rw [h3] at e
              exact absurd e.2.2 (by decide)
      · refine EvI.neg h0 (next ?_ (fun h => absurd h h0) c hc)
        rcases (show I[i] = -1 ∨ I[i] = -2 by omega) with e | e
        · exact .inl e
        · exact .inr (.inl e)
    refine EvI.succ ?_
    simp only [spec_validSlots.l0]
    refine EvI.pos (by omega) (EvI.pos (by omega) ?_)
    rw [rd_at hl]
    by_cases h : I[i] = -2
    · refine EvI.pos h ?_
      rw [nat_next (by omega)]
      exact mid _ (by rw [take_next hl, List.count_append, h]; rfl)
    · refine EvI.neg h ?_
      exact mid _ (by rw [take_next hl, List.count_append, List.count_cons_of_ne h]; rfl)
theorem validSlots_ok {I : List Int} {E : List S56} (hE : E.length ≤ 1000000) (hI : I.length ≤ 1000000) : EvI (fun k => spec_validSlots.f k I E) (SlotsOk I E) := by
  have := validSlots_l0 hE hI I.length 0 (by omega) (by simp) (by simp)
  refine EvI.pos (by omega) (EvI.pos (by omega) ?_)
  have e : List.replicate ((E.length : Int)).toNat false = sn I E 0 := by
    refine List.ext_getElem (by simp [sn]) ?_
    intro j h1 h2
    simp [sn]
  rw [e]
  exact this
theorem zero_entry (e : S56) (h3 : ¬ e.f3 = true) : (!(e.f0.toList == ([] : List UInt8)) || (!(e.f1 == 0) || (!(e.f2 == 0) || e.f3))) = true ↔ ¬ OkE e := by
  simp only [Bool.not_eq_true] at h3
  simp only [OkE, h3]
  by_cases h0 : e.f0.toList = [] <;> by_cases h1 : e.f1 = 0 <;> by_cases h2 : e.f2 = 0 <;> simp [h0, h1, h2]
theorem size_nil {s : ByteArray} (h : s.toList = []) : s.size = 0 := by
  rw [ByteArray.toList_eq] at h
  show s.data.size = 0
  rw [← Array.length_toList, h]
  rfl
theorem validDict_l0 {I : List Int} {E : List S56} (hn : Size I.length) (hf : 3 * E.length ≤ 2 * I.length) (d : Nat) :
    ∀ i : Nat, i + d = E.length → (∀ e ∈ E.take i, OkE e) → EvI (fun k => spec_validDict.l0 k i I E) ((∀ e ∈ E, OkE e) ∧ SlotsOk I E ∧ FindOk I E) := by
  have hp := hn.pos
  induction d with
  | zero =>
    intro i hi hd
    obtain rfl : i = E.length := by omega
    rw [List.take_length] at hd
    refine EvI.succ ?_
    simp only [spec_validDict.l0]
    refine EvI.neg (by omega) ?_
    obtain ⟨b, h1, h2⟩ := validSlots_ok (I := I) (E := E) (by omega) (by omega)
    refine EvI.bind h1 (EvI.and (fun h => ?_) (fun h h' => h (h2.mpr h'.2.1)))
    have hS := h2.mp h
    exact (validDict_l1 hn hf hd hS E.length 0 (by omega) (fun j hj => by omega)).iff ⟨fun h => ⟨hd, hS, h⟩, fun h => h.2.2⟩
  | succ d ih =>
    intro i hi hd
    have hl : i < E.length := by omega
    have hmem : E[i] ∈ E := List.getElem_mem hl
    refine EvI.succ ?_
    simp only [spec_validDict.l0]
    rw [nat_next (by omega), ent_at hl]
    refine EvI.pos (by omega) (EvI.pos (by omega) ?_)
    have next : OkE E[i] → EvI (fun k => spec_validDict.l0 k ((i + 1 : Nat) : Int) I E) ((∀ e ∈ E, OkE e) ∧ SlotsOk I E ∧ FindOk I E) := by
      intro hok
      refine ih (i + 1) (by omega) ?_
      intro e he
      rw [take_next hl, List.mem_append, List.mem_singleton] at he
      rcases he with he | rfl
      · exact hd e he
      · exact hok
    by_cases h3 : E[i].f3 = true
    · have bad : ∀ {P : Prop}, (OkE E[i] → P) → ¬ P → ¬ ((∀ e ∈ E, OkE e) ∧ SlotsOk I E ∧ FindOk I E) := fun h hp' hx => hp' (h (hx.1 _ hmem))
      have live : OkE E[i] → E[i].f0.size ≤ 20 ∧ E[i].f1 = hs E[i].f0 ∧ -1000000 ≤ E[i].f2 ∧ E[i].f2 ≤ 1000000 := by
        rintro (h | h)
        · exact h.2
        · rw [h3] at h
          exact absurd h.1 (by decide)
      refine EvI.pos h3 (EvI.bindNow (a := decide ((E[i].f0.size : Int) ≤ 20)) rfl ?_)
      refine EvI.and (fun ha => ?_) (fun ha => bad (fun h => (live h).1) (fun hb => ha (decide_eq_true (by omega))))
      have hsz := of_decide_eq_true ha
      refine EvI.bind (hashOf_ok _ (by omega)) (EvI.and (fun hb => ?_) (fun hb => bad (fun h => (live h).2.1) hb))
      refine EvI.bindNow (inRange_ok _) (EvI.and (fun hc => ?_) (fun hc => bad (fun h => (live h).2.2) (fun h => hc (decide_eq_true h))))
      have hv := of_decide_eq_true hc
      exact next (.inl ⟨h3, by omega, hb, hv⟩)
    · refine EvI.neg h3 (EvI.nand (fun ha => ?_) (fun ha hx => (zero_entry _ h3).mp ha (hx.1 _ hmem)))
      have hok : OkE E[i] := Classical.not_not.mp (fun h => ha ((zero_entry _ h3).mpr h))
      have hz : E[i].f0.toList = [] ∧ E[i].f2 = 0 := by
        rcases hok with h | h
        · exact absurd h.1 h3
        · exact ⟨h.2.1, h.2.2.2⟩
      refine EvI.bindNow (a := decide ((E[i].f0.size : Int) ≤ 20)) rfl (EvI.pos ?_ (EvI.bindNow (inRange_ok _) (EvI.pos ?_ (next hok))))
      · have := size_nil hz.1
        exact decide_eq_true (by omega)
      · exact decide_eq_true (by omega)
theorem third (n e : Nat) (hn : n ≤ 1000000) : ((e : Int) > wrap64 (Int.tdiv (wrap64 ((n : Int) * 2)) 3)) ↔ ¬ 3 * e ≤ 2 * n := by
  have e1 : wrap64 ((n : Int) * 2) = n * 2 := w64 (by omega) (by omega)
  rw [e1, Int.tdiv_eq_ediv_of_nonneg (by omega), w64 (by omega) (by omega)]
  omega
theorem validDict_j0 {I : List Int} {E : List S56} (hE : E.length ≤ 1000000000) (hn : Size I.length) : EvI (fun k => spec_validDict.j0 k I.length false I E) (Valid I E) := by
  have hp := hn.pos
  refine EvI.succ ?_
  simp only [spec_validDict.j0]
  refine EvI.neg (by decide) ?_
  by_cases hf : 3 * E.length ≤ 2 * I.length
  · refine EvI.neg (fun h => (third _ _ (by omega)).mp h hf) (EvI.bind (liveEntries_ok hE) (EvI.succ ?_))
    simp only [spec_validDict.j1]
    refine EvI.nand (fun h => ?_) (fun h hv => by have := hv.live; have := of_decide_eq_true h; omega)
    have hlv : lv E ≤ 40 := by
      have : ¬ ((lv E : Nat) : Int) > 40 := fun h' => h (decide_eq_true h')
      omega
    exact (validDict_l0 hn hf E.length 0 (by omega) (by simp)).iff ⟨fun h => ⟨hn, hf, hlv, h.1, h.2.1, h.2.2⟩, fun h => ⟨h.ent, h.slots, h.find⟩⟩
  · refine EvI.pos ((third _ _ (by omega)).mpr hf) (EvI.succ ?_)
    simp only [spec_validDict.j1]
    exact EvI.pos trivial (EvI.no (Ev.now _) (fun h => hf h.few))
theorem validDict_ok {I : List Int} {E : List S56} (hE : E.length ≤ 1000000000) : EvI (fun k => spec_validDict.f k I E) (Valid I E) := by
  unfold spec_validDict.f
  by_cases h1 : (I.length : Int) = 8
  · exact EvI.pos h1 (validDict_j0 hE (.inl (by omega)))
  refine EvI.neg h1 ?_
  by_cases h2 : (I.length : Int) = 16
  · exact EvI.pos h2 (validDict_j0 hE (.inr (.inl (by omega))))
  refine EvI.neg h2 ?_
  by_cases h3 : (I.length : Int) = 32
  · exact EvI.pos h3 (validDict_j0 hE (.inr (.inr (.inl (by omega)))))
  refine EvI.neg h3 ?_
  by_cases h4 : (I.length : Int) = 64
  · exact EvI.pos h4 (validDict_j0 hE (.inr (.inr (.inr (.inl (by omega))))))
  refine EvI.neg h4 ?_
  by_cases h5 : (I.length : Int) = 128
  · have : ((I.length : Int) != 128) = false := by simp [h5]
    rw [this]
    exact validDict_j0 hE (.inr (.inr (.inr (.inr (by omega)))))
  · have : ((I.length : Int) != 128) = true := by simpa using h5
    rw [this]
    refine EvI.succ ?_
    simp only [spec_validDict.j0]
    refine EvI.pos trivial (EvI.no (Ev.now _) (fun h => ?_))
    rcases h.size with h | h | h | h | h <;> omega
end Go.Proofs.Ytihcollncjcpgaa.E
