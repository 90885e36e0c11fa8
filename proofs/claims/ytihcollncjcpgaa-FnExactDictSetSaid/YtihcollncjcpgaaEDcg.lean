/- Looking up, setting, dropping and packing: what the reference's and the program's functions come to, in plain Lean. No Go and no memory in it; no conditions but those that each law names. -/
import Derived.Test.YtihcollncjcpgaaEDcf
import Derived.Test.YtihcollncjcpgaaEHandA
import Derived.Test.YtihcollncjcpgaaEHandB
import Derived.Test.YtihcollncjcpgaaEHandC
import Derived.Test.YtihcollncjcpgaaEx0
import Derived.Test.YtihcollncjcpgaaEx11
import Derived.Test.YtihcollncjcpgaaEx2
import Derived.Test.YtihcollncjcpgaaEx5
import Derived.Test.YtihcollncjcpgaaEx6
import Derived.Test.YtihcollncjcpgaaEx9
namespace Go.Proofs.Ytihcollncjcpgaa.E
open Go.RowKit Go.Proofs.YtihcollncjcpgaaW.PrintWords Go.Proofs.YtihcollncjcpgaaW.PrintLast Go.Proofs.YtihcollncjcpgaaW.PrintMore
set_option linter.unusedVariables false

theorem Valid.bounds {I : List Int} {E : List S56} (h : Valid I E) : 0 < I.length ∧ I.length ≤ 128 ∧ E.length ≤ 85 := by
  have := h.few
  rcases h.size with e | e | e | e | e <;> omega
theorem slot_ok {I : List Int} {E : List S56} (h : Valid I E) {key : ByteArray} (hk : key.size ≤ 20) : Ev (fun k => spec_slotOf.f k I E key) (sl I E key) := by
  have hp := h.size.pos
  rw [sl_eq (h.ends key)]
  exact slotOf_ok hp (by omega) h.slots.good (h.ends key)
theorem probe_last {I : List Int} {E : List S56} (h : Valid I E) {key : ByteArray} (hk : key.size ≤ 20) : ∃ l : List Int, Ev (fun k => impl_Dict_probe.f k I E key) l ∧ 0 ≤ wrap64 ((l.length : Int) - 1) ∧ wrap64 ((l.length : Int) - 1) < (l.length : Int) ∧ rd l (wrap64 ((l.length : Int) - 1)) = sl I E key := by
  have hp := h.size.pos
  have hm := (h.ends key).2.2
  have hl := wys_last I key (pl I E key) (by omega)
  exact ⟨_, probe_ok hp hk h.slots.good (h.ends key), hl.1, hl.2.1, hl.2.2⟩
theorem find_ok {I : List Int} {E : List S56} (h : Valid I E) {key : ByteArray} (hk : key.size ≤ 20) : Ev (fun k => impl_Dict_find.f k I E key) (mx (rd I (sl I E key)) (-1)) := by
  obtain ⟨l, h1, h2, h3, h4⟩ := probe_last h hk
  have hr := h.sl_range key
  refine Ev.bind h1 (Ev.pos h2 (Ev.pos h3 ?_))
  rw [h4]
  exact Ev.pos hr.1 (Ev.pos hr.2 (Ev.now _))
theorem add_ok {I : List Int} {E : List S56} (h : Valid I E) {key : ByteArray} (hk : key.size ≤ 20) (v : Int) : Ev (fun k => impl_Dict_add.f k I E key v) (addK I E key v) := by
  obtain ⟨l, h1, h2, h3, h4⟩ := probe_last h hk
  have hr := h.sl_range key
  have hb := h.bounds
  refine Ev.bind h1 (Ev.pos h2 (Ev.pos h3 ?_))
  rw [h4]
  exact Ev.pos hr.1 (Ev.pos hr.2 (Ev.bind (DictHash_ok key hk) (Ev.pos (by omega) (Ev.now _))))
theorem clone_ok {I : List Int} {E : List S56} (hI : I.length ≤ 1000000) (hE : E.length ≤ 1000000) : impl_Dict_clone.f I E = some (I, E) := by
  unfold impl_Dict_clone.f slices_Clone_int.f slices_Clone_Entry.f
  rw [if_pos (by omega), if_pos (by omega)]
  rfl
theorem copy_ok {I : List Int} {E : List S56} (hI : I.length ≤ 1000000) (hE : E.length ≤ 1000000) : spec_copyDict.f I E = some (I, E) := by
  unfold spec_copyDict.f
  simp only [Option.bind_some, List.length_nil, Nat.zero_add, List.nil_append]
  rw [if_pos (by omega), if_pos (by omega)]

/-! packing -/
theorem newIndex_l0 (n : Nat) (hn : n ≤ 1000000) (d : Nat) : ∀ i : Nat, i + d = n → Ev (fun k => spec_newIndex.l0 k n (List.replicate i (-1)) i) (List.replicate n (-1)) := by
  induction d with
  | zero =>
    intro i hi
    obtain rfl : i = n := by omega
    refine Ev.succ ?_
    simp only [spec_newIndex.l0]
    exact Ev.neg (by omega) (Ev.now _)
  | succ d ih =>
    intro i hi
    refine Ev.succ ?_
    simp only [spec_newIndex.l0]
    refine Ev.pos (by omega) (Ev.pos (by rw [List.length_replicate]; omega) ?_)
    rw [nat_next (by omega), show List.replicate i (-1 : Int) ++ [-1] = List.replicate (i + 1) (-1) from (List.replicate_succ' ..).symm]
    exact ih (i + 1) (by omega)
theorem newIndex_ok (n : Nat) (hn : n ≤ 1000000) : Ev (fun k => spec_newIndex.f k n) (List.replicate n (-1)) := newIndex_l0 n hn n 0 (by omega)
theorem emptySlots_l0 (n : Nat) (hn : n ≤ 1000000) (d : Nat) : ∀ (i : Nat) (l : List Int), i + d = n → l.length = n → l.take i = List.replicate i (-1) → Ev (fun k => impl_emptySlots.l0 k l n i) (List.replicate n (-1)) := by
  induction d with
  | zero =>
    intro i l hi hl ht
    obtain rfl : i = n := by omega
    refine Ev.succ ?_
    simp only [impl_emptySlots.l0]
    refine Ev.neg (by omega) (Ev.ret ?_)
    rw [← ht, ← hl, List.take_length]
  | succ d ih =>
    intro i l hi hl ht
    refine Ev.succ ?_
    simp only [impl_emptySlots.l0]
    refine Ev.pos (by omega) (Ev.pos (by omega) (Ev.pos (by omega) ?_))
    rw [nat_next (by omega), Int.toNat_natCast]
    refine ih (i + 1) _ (by omega) (by rw [List.length_set]; exact hl) ?_
    have hs : i < (l.set i (-1)).length := by rw [List.length_set]; omega
    rw [take_next hs, List.getElem_set_self, List.take_set_of_le (Nat.le_refl i), ht, List.replicate_succ']
theorem emptySlots_ok (n : Nat) (hn : n ≤ 1000000) : Ev (fun k => impl_emptySlots.f k n) (List.replicate n (-1)) := by
  refine Ev.pos (by omega) (Ev.pos (by omega) (Ev.bindNow rfl ?_))
  have := emptySlots_l0 n hn n 0 (List.replicate n 0) (by omega) (by simp) (by simp)
  rw [Int.toNat_natCast, List.length_replicate]
  exact this
/-- The number of slots for so many entries. -/
def sizeK (m : Nat) : Nat := if 3 * m < 8 then 8 else if 3 * m < 16 then 16 else if 3 * m < 32 then 32 else if 3 * m < 64 then 64 else 128
theorem sizeK_size (m : Nat) : Size (sizeK m) := by
  unfold sizeK Size
  split
  · omega
  · split
    · omega
    · split
      · omega
      · split <;> omega
theorem sizeK_big {m : Nat} (hm : m ≤ 40) : 3 * m < sizeK m := by
  unfold sizeK
  split
  · omega
  · split
    · omega
    · split
      · omega
      · split <;> omega
theorem sizeFor_ok {m : Nat} (hm : m ≤ 40) : Ev (fun k => spec_sizeFor.f k m) (sizeK m : Int) := by
  have e3 : wrap64 ((m : Int) * 3) = m * 3 := w64 (by omega) (by omega)
  have stop : ∀ x : Int, ¬ x ≤ (m : Int) * 3 → x ≤ 128 → x = sizeK m → Ev (fun k => spec_sizeFor.l0 k m x) (sizeK m : Int) := by
    intro x h1 h2 h3
    refine Ev.succ ?_
    simp only [spec_sizeFor.l0]
    rw [e3]
    refine Ev.neg h1 (Ev.ret ?_)
    rw [← h3]
    unfold mn
    rw [if_neg (by omega)]
  have go : ∀ x : Int, x ≤ (m : Int) * 3 → Ev (fun k => spec_sizeFor.l0 k m (x * 2)) (sizeK m : Int) → -1000 ≤ x ∧ x ≤ 1000 → Ev (fun k => spec_sizeFor.l0 k m x) (sizeK m : Int) := by
    intro x h1 h2 h3
    refine Ev.succ ?_
    simp only [spec_sizeFor.l0]
    rw [e3, w64 (by omega) (by omega)]
    exact Ev.pos h1 h2
  show Ev (fun k => spec_sizeFor.l0 k m 8) _
  by_cases h1 : 3 * m < 8
  · exact stop 8 (by omega) (by omega) (by simp [sizeK, h1])
  refine go 8 (by omega) ?_ (by omega)
  by_cases h2 : 3 * m < 16
  · exact stop 16 (by omega) (by omega) (by simp [sizeK, h1, h2])
  refine go 16 (by omega) ?_ (by omega)
  by_cases h3 : 3 * m < 32
  · exact stop 32 (by omega) (by omega) (by simp [sizeK, h1, h2, h3])
  refine go 32 (by omega) ?_ (by omega)
  by_cases h4 : 3 * m < 64
  · exact stop 64 (by omega) (by omega) (by simp [sizeK, h1, h2, h3, h4])
  refine go 64 (by omega) ?_ (by omega)
  exact stop 128 (by omega) (by omega) (by simp [sizeK, h1, h2, h3, h4])
/-- What both loops keep while they pack. -/
structure Packing (E : List S56) (i : Nat) (D : List Int × List S56) : Prop where
  valid : Valid D.1 D.2
  absent : ∀ j : Nat, i ≤ j → j < E.length → (rd_T56 E j).f3 = true → Absent D.2 (rd_T56 E j).f0
  few : 3 * (D.2.length + lv (E.drop i)) ≤ 2 * D.1.length
  live : lv D.2 + lv (E.drop i) ≤ 40
theorem lv_drop {E : List S56} {i : Nat} (hi : i < E.length) : lv (E.drop i) = lv (E.drop (i + 1)) + (if E[i].f3 = true then 1 else 0) := by
  unfold lv
  rw [List.drop_eq_getElem_cons hi, List.countP_cons]
theorem Packing.skip {E : List S56} {i : Nat} {D : List Int × List S56} (h : Packing E i D) (hi : i < E.length) (h3 : ¬ E[i].f3 = true) : Packing E (i + 1) D := by
  have := lv_drop hi
  rw [if_neg h3] at this
  exact ⟨h.valid, fun j hj => h.absent j (by omega), by have := h.few; omega, by have := h.live; omega⟩
theorem Packing.next {I : List Int} {E : List S56} {i : Nat} {D : List Int × List S56} (hV : Valid I E) (h : Packing E i D) (hi : i < E.length) (h3 : E[i].f3 = true) : Packing E (i + 1) (addE D E[i]) := by
  have hl := lv_drop hi
  rw [if_pos h3] at hl
  have hok := hV.ent _ (List.getElem_mem hi)
  have hf := h.few
  have hlv := h.live
  have ea := ent_at hi
  have hnw : nw E[i].f0 E[i].f2 = E[i] := nw_eq hok h3
  have h2 : (addE D E[i]).2 = D.2 ++ [E[i]] := by
    show D.2 ++ [nw E[i].f0 E[i].f2] = _
    rw [hnw]
  have h1 : (addE D E[i]).1.length = D.1.length := List.length_set
  have h2l : (addE D E[i]).2.length = D.2.length + 1 := by rw [h2, List.length_append]; rfl
  have hlv2 : lv (addE D E[i]).2 = lv D.2 + 1 := by rw [h2, lv_app, if_pos h3]
  refine ⟨?_, ?_, by rw [h1, h2l]; omega, by rw [hlv2]; omega⟩
  · refine h.valid.add (hok.small h3) (hok.val h3) ?_ (by omega) (by omega)
    have := h.absent i (Nat.le_refl _) hi (by rw [ea]; exact h3)
    rwa [ea] at this
  · intro j hj hjl hj3 q hq hq3
    rw [h2l] at hq
    rw [h2] at hq3 ⊢
    by_cases hqe : (q : Int) = D.2.length
    · rw [ent_app _ _ (by omega) (by omega), if_pos hqe]
      intro e
      have := hV.uniq hi hjl (by rw [ea]; exact h3) hj3 (by rw [ea]; exact e)
      omega
    · rw [ent_app _ _ (by omega) (by omega), if_neg hqe] at hq3 ⊢
      exact h.absent j (by omega) hjl hj3 q (by omega) hq3
theorem packFrom_skip {E : List S56} {i : Nat} (hi : i < E.length) (h3 : ¬ E[i].f3 = true) (D : List Int × List S56) : packFrom D ((E.drop i).filter (·.f3)) = packFrom D ((E.drop (i + 1)).filter (·.f3)) := by
  rw [List.drop_eq_getElem_cons hi, List.filter_cons_of_neg (by simpa using h3)]
theorem packFrom_next {E : List S56} {i : Nat} (hi : i < E.length) (h3 : E[i].f3 = true) (D : List Int × List S56) : packFrom D ((E.drop i).filter (·.f3)) = packFrom (addE D E[i]) ((E.drop (i + 1)).filter (·.f3)) := by
  rw [List.drop_eq_getElem_cons hi, List.filter_cons_of_pos h3]
  rfl
theorem spec_packed_l0 {I : List Int} {E : List S56} (hV : Valid I E) (d : Nat) : ∀ (i : Nat) (D : List Int × List S56), i + d = E.length → Packing E i D → Ev (fun k => spec_packed.l0 k i I E D.1 D.2) (packFrom D ((E.drop i).filter (·.f3))) := by
  have hb := hV.bounds
  induction d with
  | zero =>
    intro i D hi hP
    refine Ev.succ ?_
    simp only [spec_packed.l0]
    refine Ev.neg (by omega) (Ev.ret ?_)
    rw [List.drop_of_length_le (by omega)]
    rfl
  | succ d ih =>
    intro i D hi hP
    have hl : i < E.length := by omega
    have hbD := hP.valid.bounds
    refine Ev.succ ?_
    simp only [spec_packed.l0]
    rw [nat_next (by omega), ent_at hl]
    refine Ev.pos (by omega) (Ev.pos (by omega) ?_)
    by_cases h3 : E[i].f3 = true
    · have hok := hV.ent _ (List.getElem_mem hl)
      have hr := hP.valid.sl_range E[i].f0
      refine Ev.pos h3 (Ev.bind (slot_ok hP.valid (hok.small h3)) (Ev.pos hr.1 (Ev.pos hr.2 (Ev.pos (by omega) ?_))))
      rw [packFrom_next hl h3]
      have := ih (i + 1) _ (by omega) (hP.next hV hl h3)
      have hnw : nw E[i].f0 E[i].f2 = E[i] := nw_eq hok h3
      have e2 : (addE D E[i]).2 = D.2 ++ [⟨E[i].f0, E[i].f1, E[i].f2, E[i].f3⟩] := by
        show D.2 ++ [nw E[i].f0 E[i].f2] = _
        rw [hnw]
      rw [e2] at this
      exact this
    · rw [packFrom_skip hl h3]
      exact Ev.neg h3 (ih (i + 1) D (by omega) (hP.skip hl h3))
theorem impl_packed_l1 {I : List Int} {E : List S56} (hV : Valid I E) (d : Nat) : ∀ (i : Nat) (D : List Int × List S56), i + d = E.length → Packing E i D → Ev (fun k => impl_Dict_packed.l1 k E E.length i D.1 D.2) (packFrom D ((E.drop i).filter (·.f3))) := by
  have hb := hV.bounds
  induction d with
  | zero =>
    intro i D hi hP
    refine Ev.succ ?_
    simp only [impl_Dict_packed.l1]
    refine Ev.neg (by omega) (Ev.ret ?_)
    rw [List.drop_of_length_le (by omega)]
    rfl
  | succ d ih =>
    intro i D hi hP
    have hl : i < E.length := by omega
    refine Ev.succ ?_
    simp only [impl_Dict_packed.l1]
    rw [nat_next (by omega), ent_at hl]
    refine Ev.pos (by omega) (Ev.pos (by omega) (Ev.pos (by omega) ?_))
    by_cases h3 : E[i].f3 = true
    · have hok := hV.ent _ (List.getElem_mem hl)
      rw [packFrom_next hl h3]
      exact Ev.pos h3 (Ev.bind (add_ok hP.valid (hok.small h3) E[i].f2) (ih (i + 1) _ (by omega) (hP.next hV hl h3)))
    · rw [packFrom_skip hl h3]
      exact Ev.neg h3 (ih (i + 1) D (by omega) (hP.skip hl h3))
theorem Packing.start {I : List Int} {E : List S56} (hV : Valid I E) {n : Nat} (hn : Size n) (hf : 3 * lv E ≤ 2 * n) : Packing E 0 (List.replicate n (-1), []) := by
  refine ⟨Valid.nil hn, fun j _ _ _ i hi => by simp at hi, by simpa using hf, ?_⟩
  have := hV.live
  simpa [lv] using this
theorem spec_packed_ok {I : List Int} {E : List S56} (hV : Valid I E) {n : Nat} (hn : Size n) (hf : 3 * lv E ≤ 2 * n) : Ev (fun k => spec_packed.f k I E n) (packK n E) := by
  have := spec_packed_l0 hV E.length 0 _ (by omega) (Packing.start hV hn hf)
  exact Ev.bind (newIndex_ok n (by have := hn.pos; omega)) this
theorem impl_packed_ok {I : List Int} {E : List S56} (hV : Valid I E) {m : Nat} (hm : m ≤ 40) (hf : 3 * lv E ≤ 2 * sizeK m) : Ev (fun k => impl_Dict_packed.f k I E m) (packK (sizeK m) E) := by
  have e3 : wrap64 (3 * (m : Int)) = 3 * m := w64 (by omega) (by omega)
  have fin : Ev (fun k => impl_Dict_packed.j1 k (sizeK m : Int) I E) (packK (sizeK m) E) := by
    have := impl_packed_l1 hV E.length 0 _ (by omega) (Packing.start hV (sizeK_size m) hf)
    refine Ev.succ ?_
    simp only [impl_Dict_packed.j1]
    exact Ev.bind (emptySlots_ok _ (by have := (sizeK_size m).pos; omega)) this
  have stop : ∀ x : Int, (x < 128 → ¬ x ≤ 3 * (m : Int)) → x = sizeK m → Ev (fun k => impl_Dict_packed.l0 k m x I E) (packK (sizeK m) E) := by
    intro x h1 h3
    subst h3
    refine Ev.succ ?_
    simp only [impl_Dict_packed.l0]
    rw [e3]
    by_cases h : (sizeK m : Int) < 128
    · exact Ev.pos h (Ev.neg (h1 h) fin)
    · exact Ev.neg h fin
  have go : ∀ x : Int, x < 128 → x ≤ 3 * (m : Int) → 0 ≤ x → Ev (fun k => impl_Dict_packed.l0 k m (x * 2) I E) (packK (sizeK m) E) → Ev (fun k => impl_Dict_packed.l0 k m x I E) (packK (sizeK m) E) := by
    intro x h1 h2 h0 h3
    refine Ev.succ ?_
    simp only [impl_Dict_packed.l0]
    rw [e3, w64 (by omega) (by omega)]
    exact Ev.pos h1 (Ev.pos h2 h3)
  show Ev (fun k => impl_Dict_packed.l0 k m 8 I E) _
  by_cases h1 : 3 * m < 8
  · exact stop 8 (by omega) (by simp [sizeK, h1])
  refine go 8 (by omega) (by omega) (by omega) ?_
  by_cases h2 : 3 * m < 16
  · exact stop 16 (by omega) (by simp [sizeK, h1, h2])
  refine go 16 (by omega) (by omega) (by omega) ?_
  by_cases h3 : 3 * m < 32
  · exact stop 32 (by omega) (by simp [sizeK, h1, h2, h3])
  refine go 32 (by omega) (by omega) (by omega) ?_
  by_cases h4 : 3 * m < 64
  · exact stop 64 (by omega) (by simp [sizeK, h1, h2, h3, h4])
  refine go 64 (by omega) (by omega) (by omega) ?_
  exact stop 128 (by omega) (by simp [sizeK, h1, h2, h3, h4])
end Go.Proofs.Ytihcollncjcpgaa.E
