/- Setting, dropping and packing as plain functions on lists: they keep a dictionary valid. No Go and no memory in it; no conditions but those that each law names. -/
import Derived.Test.YtihcollncjcpgaaEDcd
import Derived.Test.YtihcollncjcpgaaEx0
namespace Go.Proofs.Ytihcollncjcpgaa.E
open Go.RowKit Go.Proofs.YtihcollncjcpgaaW.PrintWords Go.Proofs.YtihcollncjcpgaaW.PrintLast Go.Proofs.YtihcollncjcpgaaW.PrintMore
set_option linter.unusedVariables false

theorem key_ext {s t : ByteArray} (h : s.toList = t.toList) : s = t := by
  rw [ByteArray.toList_eq, ByteArray.toList_eq] at h
  cases s
  cases t
  simpa using h
/-- The place on the way at which a key's look-up ends, and its slot. -/
def pl (I : List Int) (E : List S56) (key : ByteArray) : Nat := ((List.range (6 + 2 * I.length)).find? (fun m => decide (stp I E key (wy I key m)))).getD 0
def sl (I : List Int) (E : List S56) (key : ByteArray) : Int := wy I key (pl I E key)
theorem pl_eq {I : List Int} {E : List S56} {key : ByteArray} {m : Nat} (h : Ends I E key m) : pl I E key = m := by
  have : (List.range (6 + 2 * I.length)).find? (fun m => decide (stp I E key (wy I key m))) = some m := by
    rw [List.find?_range_eq_some]
    refine ⟨decide_eq_true h.1, by rw [List.mem_range]; exact h.2.2, fun j hj => ?_⟩
    simp [h.2.1 j hj]
  rw [pl, this]
  rfl
theorem sl_eq {I : List Int} {E : List S56} {key : ByteArray} {m : Nat} (h : Ends I E key m) : sl I E key = wy I key m := by rw [sl, pl_eq h]
theorem Valid.ends {I : List Int} {E : List S56} (h : Valid I E) (key : ByteArray) : Ends I E key (pl I E key) := by
  obtain ⟨m, hm⟩ := h.slots.ends h.size h.few key
  rw [pl_eq hm]
  exact hm
theorem Valid.sl_range {I : List Int} {E : List S56} (h : Valid I E) (key : ByteArray) : 0 ≤ sl I E key ∧ sl I E key < I.length := wy_range h.size.pos.1 key _
def Absent (E : List S56) (key : ByteArray) : Prop := ∀ i : Nat, i < E.length → (rd_T56 E i).f3 = true → (rd_T56 E i).f0 ≠ key
theorem Valid.found {I : List Int} {E : List S56} (h : Valid I E) {i : Nat} (hi : i < E.length) (h3 : (rd_T56 E i).f3 = true) : rd I (sl I E (rd_T56 E i).f0) = i := by
  obtain ⟨m, hm, hr⟩ := h.find i hi h3
  rw [sl_eq hm, hr]
theorem Valid.cases {I : List Int} {E : List S56} (h : Valid I E) (key : ByteArray) :
    (rd I (sl I E key) = -1 ∧ Absent E key) ∨ (∃ i : Nat, i < E.length ∧ (rd_T56 E i).f3 = true ∧ (rd_T56 E i).f0 = key ∧ rd I (sl I E key) = i) := by
  have hr := h.sl_range key
  rcases (h.ends key).1 with e | ⟨h0, hk⟩
  · refine .inl ⟨e, fun i hi h3 hk => ?_⟩
    have hf := h.found hi h3
    rw [hk] at hf
    have : rd I (sl I E key) = -1 := e
    omega
  · refine .inr ⟨(rd I (sl I E key)).toNat, ?_⟩
    have hx : rd I (sl I E key) ∈ I := rd_mem hr.1 hr.2
    have h0' : 0 ≤ rd I (sl I E key) := h0
    have e : (((rd I (sl I E key)).toNat : Nat) : Int) = rd I (sl I E key) := by omega
    rcases h.slots.ok _ hx with e1 | e1 | e1
    · omega
    · omega
    · rw [e]
      exact ⟨by omega, e1.2.2, key_ext hk, rfl⟩
/-- No key lives twice. -/
theorem Valid.uniq {I : List Int} {E : List S56} (h : Valid I E) {i j : Nat} (hi : i < E.length) (hj : j < E.length) (hi3 : (rd_T56 E i).f3 = true) (hj3 : (rd_T56 E j).f3 = true) (e : (rd_T56 E i).f0 = (rd_T56 E j).f0) : i = j := by
  have h1 := h.found hi hi3
  have h2 := h.found hj hj3
  rw [e, h2] at h1
  omega

theorem rd_set {I : List Int} {s : Int} (h0 : 0 ≤ s) (h1 : s < I.length) (v p : Int) (hp : 0 ≤ p) : rd (I.set s.toNat v) p = if p = s then v else rd I p := by
  unfold rd
  rw [List.getD_eq_getElem?_getD, List.getD_eq_getElem?_getD, List.getElem?_set]
  by_cases h : p = s
  · subst h
    rw [if_pos rfl, if_pos (by omega), if_pos rfl]
    rfl
  · rw [if_neg (by omega), if_neg h]
theorem ent_set {E : List S56} {i : Nat} (hi : i < E.length) (e : S56) (p : Int) (hp : 0 ≤ p) : rd_T56 (E.set i e) p = if p = i then e else rd_T56 E p := by
  unfold rd_T56
  rw [List.getD_eq_getElem?_getD, List.getD_eq_getElem?_getD, List.getElem?_set]
  by_cases h : p = i
  · rw [if_pos (by omega), if_pos (by omega), if_pos h]
    rfl
  · rw [if_neg (by omega), if_neg h]
theorem ent_app {E : List S56} (e : S56) (p : Int) (hp : 0 ≤ p) (h : p ≤ E.length) : rd_T56 (E ++ [e]) p = if p = E.length then e else rd_T56 E p := by
  unfold rd_T56
  rw [List.getD_eq_getElem?_getD, List.getD_eq_getElem?_getD]
  by_cases hh : p = E.length
  · rw [if_pos hh, List.getElem?_append_right (by omega), show p.toNat - E.length = 0 by omega]
    rfl
  · rw [if_neg hh, List.getElem?_append_left (by omega)]
theorem count_set' {I : List Int} {s : Int} (h0 : 0 ≤ s) (h1 : s < I.length) (v x : Int) : (I.set s.toNat v).count x = I.count x - (if rd I s = x then 1 else 0) + (if v = x then 1 else 0) := by
  rw [List.count_set (by omega)]
  have : I[s.toNat]'(by omega) = rd I s := by
    have := rd_at (I := I) (i := s.toNat) (by omega)
    rw [show ((s.toNat : Nat) : Int) = s by omega] at this
    exact this.symm
  rw [this]
  simp only [beq_iff_eq]
theorem wy_len {I I' : List Int} (h : I'.length = I.length) (key : ByteArray) (m : Nat) : wy I' key m = wy I key m := by rw [wy, wy, h]

/-- The new entry. -/
def nw (key : ByteArray) (v : Int) : S56 := ⟨key, hs key, v, true⟩
def addK (I : List Int) (E : List S56) (key : ByteArray) (v : Int) : List Int × List S56 := (I.set (sl I E key).toNat E.length, E ++ [nw key v])
theorem okE_nw {key : ByteArray} {v : Int} (hk : key.size ≤ 20) (hv : -1000000 ≤ v ∧ v ≤ 1000000) : OkE (nw key v) := .inl ⟨rfl, hk, rfl, hv.1, hv.2⟩
theorem lv_app (E : List S56) (e : S56) : lv (E ++ [e]) = lv E + (if e.f3 = true then 1 else 0) := by
  unfold lv
  rw [List.countP_append, List.countP_singleton]
theorem Valid.add {I : List Int} {E : List S56} (h : Valid I E) {key : ByteArray} {v : Int} (hk : key.size ≤ 20) (hv : -1000000 ≤ v ∧ v ≤ 1000000) (ha : Absent E key) (hf : 3 * (E.length + 1) ≤ 2 * I.length) (hl : lv E + 1 ≤ 40) : Valid (addK I E key v).1 (addK I E key v).2 := by
  have hr := h.sl_range key
  have hs : rd I (sl I E key) = -1 := by
    rcases h.cases key with e | ⟨i, hi, h3, hke, _⟩
    · exact e.1
    · exact absurd hke (ha i hi h3)
  have hlen : (I.set (sl I E key).toNat (E.length : Int)).length = I.length := List.length_set
  have hcnt : ∀ x : Int, x ≠ -1 → (I.set (sl I E key).toNat (E.length : Int)).count x = I.count x + (if (E.length : Int) = x then 1 else 0) := by
    intro x hx
    rw [count_set' hr.1 hr.2, hs, if_neg (by omega)]
    omega
  have hold : ∀ p : Int, 0 ≤ p → p < E.length → rd_T56 (E ++ [nw key v]) p = rd_T56 E p := by
    intro p h0 h1
    rw [ent_app _ _ h0 (by omega), if_neg (by omega)]
  have hnew : rd_T56 (E ++ [nw key v]) (E.length : Int) = nw key v := by
    rw [ent_app _ _ (by omega) (by omega), if_pos rfl]
  have hn0 : I.count (E.length : Int) = 0 := by
    refine List.count_eq_zero_of_not_mem (fun hm => ?_)
    rcases h.slots.ok _ hm with e | e | e <;> omega
  -- a way that is no stop stays none, where it doesn't look at the new slot
  have hst : ∀ (k' : ByteArray) (p : Int), 0 ≤ p → p < I.length → p ≠ sl I E key → (stp (I.set (sl I E key).toNat (E.length : Int)) (E ++ [nw key v]) k' p ↔ stp I E k' p) := by
    intro k' p h0 h1 hp
    have hg := h.slots.good.at h0 h1
    unfold stp
    rw [rd_set hr.1 hr.2 _ _ h0, if_neg hp]
    by_cases hx : 0 ≤ rd I p
    · rw [hold _ hx hg]
    · constructor <;> rintro (e | e)
      · exact .inl e
      · exact absurd e.1 hx
      · exact .inl e
      · exact absurd e.1 hx
  have hpos := h.size.pos
  refine ⟨?_, ?_, ?_, ?_, ⟨?_, ?_, ?_, ?_⟩, ?_⟩
  · show Size (I.set (sl I E key).toNat (E.length : Int)).length
    rw [hlen]
    exact h.size
  · show 3 * (E ++ [nw key v]).length ≤ 2 * (I.set (sl I E key).toNat (E.length : Int)).length
    rw [hlen, List.length_append, List.length_singleton]
    exact hf
  · show lv (E ++ [nw key v]) ≤ 40
    rw [lv_app]
    simp only [nw, if_true]
    omega
  · intro e he
    rcases List.mem_append.mp he with he | he
    · exact h.ent e he
    · rw [List.mem_singleton] at he
      subst he
      exact okE_nw hk hv
  · intro x hx
    rcases List.mem_or_eq_of_mem_set hx with hx | hx
    · rcases h.slots.ok x hx with e | e | e
      · exact .inl e
      · exact .inr (.inl e)
      · refine .inr (.inr ⟨e.1, ?_, ?_⟩)
        · show x < (E ++ [nw key v]).length
          rw [List.length_append]
          omega
        · show (rd_T56 (E ++ [nw key v]) x).f3 = true
          rw [hold x e.1 e.2.1]
          exact e.2.2
    · subst hx
      refine .inr (.inr ⟨by omega, ?_, ?_⟩)
      · show (E.length : Int) < (E ++ [nw key v]).length
        rw [List.length_append, List.length_singleton]
        omega
      · show (rd_T56 (E ++ [nw key v]) (E.length : Int)).f3 = true
        rw [hnew]
        rfl
  · intro x hx h0
    show (I.set (sl I E key).toNat (E.length : Int)).count x = 1
    rw [hcnt x (by omega)]
    by_cases hxe : (E.length : Int) = x
    · subst hxe
      rw [if_pos rfl, hn0]
    · rw [if_neg hxe]
      rcases List.mem_or_eq_of_mem_set hx with hx | hx
      · exact h.slots.one x hx h0
      · exact absurd hx.symm hxe
  · intro i hi h3
    have hi' : i < E.length + 1 := by
      have : i < (E ++ [nw key v]).length := hi
      rwa [List.length_append, List.length_singleton] at this
    refine List.count_pos_iff.mp ?_
    show 0 < (I.set (sl I E key).toNat (E.length : Int)).count (i : Int)
    rw [hcnt _ (by omega)]
    by_cases hie : i = E.length
    · subst hie
      rw [if_pos rfl]
      omega
    · have h3' : (rd_T56 (E ++ [nw key v]) (i : Int)).f3 = true := h3
      rw [hold _ (by omega) (by omega)] at h3'
      have := List.count_pos_iff.mpr (h.slots.all i (by omega) h3')
      omega
  · show (I.set (sl I E key).toNat (E.length : Int)).count (-2) + lv (E ++ [nw key v]) = (E ++ [nw key v]).length
    rw [hcnt _ (by decide), if_neg (by omega), lv_app, List.length_append, List.length_singleton]
    have := h.slots.drop
    simp only [nw, if_true]
    omega
  · intro i hi h3
    have hi' : i < E.length + 1 := by
      have : i < (E ++ [nw key v]).length := hi
      rwa [List.length_append, List.length_singleton] at this
    show ∃ m, Ends (I.set (sl I E key).toNat (E.length : Int)) (E ++ [nw key v]) (rd_T56 (E ++ [nw key v]) i).f0 m ∧ rd (I.set (sl I E key).toNat (E.length : Int)) (wy (I.set (sl I E key).toNat (E.length : Int)) (rd_T56 (E ++ [nw key v]) i).f0 m) = i
    by_cases hie : i = E.length
    · subst hie
      rw [hnew]
      have he := h.ends key
      have hw : wy I key (pl I E key) = sl I E key := rfl
      refine ⟨pl I E key, ⟨?_, ?_, by rw [hlen]; exact he.2.2⟩, ?_⟩
      · rw [wy_len hlen]
        show stp _ _ key (wy I key (pl I E key))
        rw [hw]
        refine .inr ?_
        rw [rd_set hr.1 hr.2 _ _ hr.1, if_pos rfl]
        refine ⟨by omega, ?_⟩
        rw [hnew]
        rfl
      · intro j hj
        show ¬ stp _ _ key (wy _ key j)
        rw [wy_len hlen]
        have hns := he.2.1 j hj
        have hwr := wy_range (I := I) hpos.1 key j
        rw [hst key _ hwr.1 hwr.2 (fun e => hns (.inl (by rw [e]; exact hs)))]
        exact hns
      · rw [wy_len hlen]
        show rd _ (wy I key (pl I E key)) = _
        rw [hw, rd_set hr.1 hr.2 _ _ hr.1, if_pos rfl]
    · have h3' : (rd_T56 (E ++ [nw key v]) (i : Int)).f3 = true := h3
      rw [hold _ (by omega) (by omega)] at h3' ⊢
      obtain ⟨m, hm, hmr⟩ := h.find i (by omega) h3'
      have hwr := fun j => wy_range (I := I) hpos.1 (rd_T56 E i).f0 j
      have hmne : wy I (rd_T56 E i).f0 m ≠ sl I E key := fun e => by rw [e, hs] at hmr; omega
      refine ⟨m, ⟨?_, ?_, by rw [hlen]; exact hm.2.2⟩, ?_⟩
      · rw [wy_len hlen, hst _ _ (hwr m).1 (hwr m).2 hmne]
        exact hm.1
      · intro j hj
        rw [wy_len hlen]
        have hns := hm.2.1 j hj
        rw [hst _ _ (hwr j).1 (hwr j).2 (fun e => hns (.inl (by rw [e]; exact hs)))]
        exact hns
      · rw [wy_len hlen, rd_set hr.1 hr.2 _ _ (hwr m).1, if_neg hmne]
        exact hmr
end Go.Proofs.Ytihcollncjcpgaa.E
