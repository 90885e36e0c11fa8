/- What the program's test of a dictionary answers, in plain Lean: the same as the reference's. No Go and no memory in it; no conditions but those that each law names. -/
import Derived.Test.YtihcollncjcpgaaEDcc
import Derived.Test.YtihcollncjcpgaaEx0
import Derived.Test.YtihcollncjcpgaaEx10
import Derived.Test.YtihcollncjcpgaaEx9
namespace Go.Proofs.Ytihcollncjcpgaa.E
open Go.RowKit Go.Proofs.YtihcollncjcpgaaW.PrintWords Go.Proofs.YtihcollncjcpgaaW.PrintLast Go.Proofs.YtihcollncjcpgaaW.PrintMore
set_option linter.unusedVariables false

theorem DictOk_l2 {I : List Int} {E : List S56} (hn : Size I.length) (hf : 3 * E.length ≤ 2 * I.length) (he : ∀ e ∈ E, OkE e) (hs : SlotsOk I E) (d : Nat) :
    ∀ i : Nat, i + d = E.length → (∀ j : Nat, j < i → (rd_T56 E j).f3 = true → ∃ m, Ends I E (rd_T56 E j).f0 m ∧ rd I (wy I (rd_T56 E j).f0 m) = j) → EvI (fun k => impl_DictOk.l2 k E E.length i I E) (FindOk I E) := by
  have hp := hn.pos
  induction d with
  | zero =>
    intro i hi hd
    refine EvI.succ ?_
    simp only [impl_DictOk.l2]
    refine EvI.neg (by omega) (EvI.bool ⟨fun _ j hj => hd j (by omega), fun _ => rfl⟩)
  | succ d ih =>
    intro i hi hd
    refine EvI.succ ?_
    simp only [impl_DictOk.l2]
    have hl : i < E.length := by omega
    rw [nat_next (by omega)]
    refine EvI.pos (by omega) (EvI.pos (by omega) (EvI.pos (by omega) ?_))
    by_cases h : (rd_T56 E i).f3 = true
    · refine EvI.pos h ?_
      obtain ⟨m, hm⟩ := hs.ends hn hf (rd_T56 E i).f0
      have hm2 := hm.2.2
      have hw := wy_range hp.1 (rd_T56 E i).f0 m
      have hla := wys_last I (rd_T56 E i).f0 m (by omega)
      refine EvI.bind (probe_ok hp ((okE_at he hl).small h) hs.good hm) (EvI.pos hla.1 (EvI.pos hla.2.1 ?_))
      rw [hla.2.2]
      refine EvI.pos hw.1 (EvI.pos hw.2 ?_)
      refine EvI.and (fun hr => ih (i + 1) (by omega) ?_) (fun hr hF => ?_)
      · intro j hj hj3
        by_cases hji : j = i
        · subst hji
          exact ⟨m, hm, hr⟩
        · exact hd j (by omega) hj3
      · obtain ⟨m', hm', hr'⟩ := hF i hl h
        rw [hm'.uniq hm] at hr'
        exact hr hr'
    · refine EvI.neg h (ih (i + 1) (by omega) ?_)
      intro j hj hj3
      by_cases hji : j = i
      · subst hji
        exact absurd hj3 h
      · exact hd j (by omega) hj3
/-- The numbers of slots behind the first i ones. -/
def cn (I : List Int) (E : List S56) (i : Nat) : List Int := (List.range E.length).map (fun k : Nat => (((I.take i).count (k : Int) : Nat) : Int))
theorem cn_len (I : List Int) (E : List S56) (i : Nat) : (cn I E i).length = E.length := by simp [cn]
theorem cn_at (I : List Int) (E : List S56) (i : Nat) {x : Int} (h0 : 0 ≤ x) (h1 : x < E.length) : rd (cn I E i) x = (((I.take i).count x : Nat) : Int) := by
  unfold rd cn
  rw [List.getD_eq_getElem?_getD, List.getElem?_map, List.getElem?_range (by omega)]
  simp only [Option.map_some, Option.getD_some]
  rw [show ((x.toNat : Nat) : Int) = x by omega]
theorem cn_next {I : List Int} {E : List S56} {i : Nat} (hI : I.length ≤ 1000000) (hi : i < I.length) (h0 : 0 ≤ I[i]) (h1 : I[i] < E.length) : (cn I E i).set (I[i]).toNat (wrap64 (rd (cn I E i) I[i] + 1)) = cn I E (i + 1) := by
  have hc : (I.take i).count I[i] ≤ I.length := Nat.le_trans (count_take_le _ _) List.count_le_length
  rw [cn_at I E i h0 h1, nat_next (by omega)]
  refine List.ext_getElem (by simp [cn]) ?_
  intro j hj1 hj2
  rw [List.getElem_set]
  have hj : j < E.length := by simpa [cn] using hj2
  simp only [cn, List.getElem_map, List.getElem_range, take_next hi, List.count_append]
  by_cases h : (I[i]).toNat = j
  · rw [if_pos h]
    have : I[i] = (j : Int) := by omega
    rw [this, List.count_cons_self]
    rfl
  · rw [if_neg h]
    have : I[i] ≠ (j : Int) := by omega
    rw [List.count_cons_of_ne this]
    rfl
theorem cn_same {I : List Int} {E : List S56} {i : Nat} (hi : i < I.length) (h0 : I[i] < 0) : cn I E i = cn I E (i + 1) := by
  unfold cn
  refine List.map_congr_left ?_
  intro j _
  rw [take_next hi, List.count_append]
  have : I[i] ≠ (j : Int) := by omega
  rw [List.count_cons_of_ne this]
  rfl
/-- What the program's tests of slots and entries come to. -/
theorem slots_iff {I : List Int} {E : List S56} (hok : ∀ x ∈ I, okslot E x) (hd : I.count (-2) + lv E = E.length) (h1 : ∀ i : Nat, i < E.length → (rd_T56 E i).f3 = true → I.count (i : Int) = 1) : SlotsOk I E := by
  refine ⟨hok, ?_, ?_, hd⟩
  · intro x hx h0
    rcases hok x hx with e | e | e
    · omega
    · omega
    · have := h1 x.toNat (by omega) (by rw [show ((x.toNat : Nat) : Int) = x by omega]; exact e.2.2)
      rwa [show ((x.toNat : Nat) : Int) = x by omega] at this
  · intro i hi h3
    exact List.count_pos_iff.mp (by have := h1 i hi h3; omega)
theorem DictOk_l1 {I : List Int} {E : List S56} (hn : Size I.length) (hf : 3 * E.length ≤ 2 * I.length) (hok : ∀ x ∈ I, okslot E x) (hdr : I.count (-2) + lv E = E.length) (d : Nat) :
    ∀ i : Nat, i + d = E.length → (∀ e ∈ E.take i, OkE e) → (∀ j : Nat, j < i → (rd_T56 E j).f3 = true → I.count (j : Int) = 1) →
      EvI (fun k => impl_DictOk.l1 k (cn I E I.length) E E.length i I E) ((∀ e ∈ E, OkE e) ∧ SlotsOk I E ∧ FindOk I E) := by
  have hp := hn.pos
  induction d with
  | zero =>
    intro i hi hd hc
    obtain rfl : i = E.length := by omega
    rw [List.take_length] at hd
    refine EvI.succ ?_
    simp only [impl_DictOk.l1]
    have hS := slots_iff hok hdr hc
    refine EvI.neg (by omega) ?_
    exact (DictOk_l2 hn hf hd hS E.length 0 (by omega) (fun j hj => by omega)).iff ⟨fun h => ⟨hd, hS, h⟩, fun h => h.2.2⟩
  | succ d ih =>
    intro i hi hd hc
    have hl : i < E.length := by omega
    have hmem : E[i] ∈ E := List.getElem_mem hl
    have hea := ent_at hl
    refine EvI.succ ?_
    simp only [impl_DictOk.l1]
    rw [nat_next (by omega), cn_at I E I.length (by omega) (by omega), List.take_length, hea]
    refine EvI.pos (by omega) (EvI.pos (by omega) (EvI.pos (by omega) ?_))
    have next : OkE E[i] → (E[i].f3 = true → I.count (i : Int) = 1) → EvI (fun k => impl_DictOk.l1 k (cn I E I.length) E E.length ((i + 1 : Nat) : Int) I E) ((∀ e ∈ E, OkE e) ∧ SlotsOk I E ∧ FindOk I E) := by
      intro hok' hc'
      refine ih (i + 1) (by omega) ?_ ?_
      · intro e he
        rw [take_next hl, List.mem_append, List.mem_singleton] at he
        rcases he with he | rfl
        · exact hd e he
        · exact hok'
      · intro j hj h3
        by_cases hji : j = i
        · subst hji
          exact hc' (hea ▸ h3)
        · exact hc j (by omega) h3
    by_cases h3 : E[i].f3 = true
    · have live : OkE E[i] → E[i].f0.size ≤ 20 ∧ E[i].f1 = hs E[i].f0 ∧ -1000000 ≤ E[i].f2 ∧ E[i].f2 ≤ 1000000 := by
        rintro (h | h)
        · exact h.2
        · rw [h3] at h
          exact absurd h.1 (by decide)
      refine EvI.pos h3 (EvI.pos (by rw [cn_len]; omega) ?_)
      refine EvI.and (fun h1 => ?_) (fun h1 hx => h1 ?_)
      · refine EvI.nand (fun ha => ?_) (fun ha hx => ?_)
        · refine EvI.bind (DictHash_ok _ (by omega)) (EvI.and (fun hb => ?_) (fun hb hx => hb (live (hx.1 _ hmem)).2.1))
          refine EvI.bindNow (within_ok _) (EvI.and (fun hv => ?_) (fun hv hx => hv (decide_eq_true (live (hx.1 _ hmem)).2.2)))
          exact next (.inl ⟨h3, by omega, hb, of_decide_eq_true hv⟩) (fun _ => by omega)
        · have := (live (hx.1 _ hmem)).1
          omega
      · have := hx.2.1.one (i : Int) (hx.2.1.all i hl (hea ▸ h3)) (by omega)
        omega
    · refine EvI.neg h3 (EvI.nand (fun ha => ?_) (fun ha hx => (zero_entry _ h3).mp ha (hx.1 _ hmem)))
      exact next (Classical.not_not.mp (fun h => ha ((zero_entry _ h3).mpr h))) (fun h => absurd h h3)
theorem DictOk_l0 {I : List Int} {E : List S56} (hn : Size I.length) (hf : 3 * E.length ≤ 2 * I.length) (d : Nat) :
    ∀ i : Nat, i + d = I.length → (∀ x ∈ I.take i, okslot E x) → EvI (fun k => impl_DictOk.l0 k (cn I E i) ((I.take i).count (-2)) I I.length i I E) ((∀ e ∈ E, OkE e) ∧ SlotsOk I E ∧ FindOk I E) := by
  have hp := hn.pos
  induction d with
  | zero =>
    intro i hi h1
    obtain rfl : i = I.length := by omega
    rw [List.take_length] at h1 ⊢
    refine EvI.succ ?_
    simp only [impl_DictOk.l0]
    have hv := lv_le E
    refine EvI.neg (by omega) (EvI.bind (live_ok (by omega)) ?_)
    rw [w64 (by omega) (by omega)]
    refine EvI.and (fun h => ?_) (fun h hx => h (by have := hx.2.1.drop; omega))
    exact DictOk_l1 hn hf h1 (by omega) E.length 0 (by omega) (by simp) (fun j hj => by omega)
  | succ d ih =>
    intro i hi h1
    have hl : i < I.length := by omega
    have hcl : (I.take i).count (-2) ≤ I.length := Nat.le_trans (count_take_le _ _) List.count_le_length
    have hmem : I[i] ∈ I := List.getElem_mem hl
    have ih' : okslot E I[i] → EvI (fun k => impl_DictOk.l0 k (cn I E (i + 1)) ((I.take (i + 1)).count (-2)) I I.length ((i + 1 : Nat) : Int) I E) ((∀ e ∈ E, OkE e) ∧ SlotsOk I E ∧ FindOk I E) := by
      intro hok
      refine ih (i + 1) (by omega) ?_
      intro x hx
      rw [take_next hl, List.mem_append, List.mem_singleton] at hx
      rcases hx with hx | rfl
      · exact h1 x hx
      · exact hok
    refine EvI.succ ?_
    simp only [impl_DictOk.l0]
    rw [rd_at hl, nat_next (by omega), nat_next (by omega)]
    refine EvI.pos (by omega) (EvI.pos (by omega) (EvI.pos (by omega) ?_))
    by_cases h2 : I[i] = -2
    · refine EvI.pos h2 ?_
      have hc : (I.take i).count (-2) + 1 = (I.take (i + 1)).count (-2) := by rw [take_next hl, List.count_append, h2]; rfl
      rw [cn_same hl (by omega), hc]
      exact ih' (.inr (.inl h2))
    refine EvI.neg h2 ?_
    have hc : (I.take i).count (-2) = (I.take (i + 1)).count (-2) := by rw [take_next hl, List.count_append, List.count_cons_of_ne h2]; rfl
    by_cases h3 : I[i] = -1
    · refine EvI.pos h3 ?_
      rw [cn_same hl (by omega), hc]
      exact ih' (.inl h3)
    refine EvI.neg h3 ?_
    have hslot : ∀ {P : Prop}, P ∧ SlotsOk I E ∧ FindOk I E → 0 ≤ I[i] ∧ I[i] < E.length ∧ (rd_T56 E I[i]).f3 = true := by
      intro P hx
      rcases hx.2.1.ok _ hmem with e | e | e
      · exact absurd e h3
      · exact absurd e h2
      · exact e
    refine EvI.nand (fun h4 => EvI.nand (fun h5 => ?_) (fun h5 hx => by have := hslot hx; omega)) (fun h4 hx => by have := hslot hx; omega)
    refine EvI.pos (by omega) (EvI.pos (by omega) (EvI.and (fun h6 => EvI.pos (by rw [cn_len]; omega) ?_) (fun h6 hx => h6 (hslot hx).2.2)))
    rw [cn_next (by omega) hl (by omega) (by omega), hc]
    exact ih' (.inr (.inr ⟨by omega, by omega, h6⟩))
theorem contains_size (n : Nat) : ∃ t : Bool, Ev (fun k => slices_Contains_int_int.f k ([8, 16, 32, 64, 128] : List Int) (n : Int)) t ∧ (t = true ↔ Size n) := by
  have key : ∀ (v : Int) (P : Prop), (Ev (fun k => slices_Index_int_int.f k ([8, 16, 32, 64, 128] : List Int) (n : Int)) v) → (v ≥ 0 ↔ Size n) → ∃ t : Bool, Ev (fun k => slices_Contains_int_int.f k ([8, 16, 32, 64, 128] : List Int) (n : Int)) t ∧ (t = true ↔ Size n) := by
    intro v _ h1 h2
    exact ⟨_, Ev.bind h1 (Ev.now _), decide_eq_true_iff.trans h2⟩
  have go : ∀ v : Int, Ev (fun k => slices_Index_int_int.l0 k ([8, 16, 32, 64, 128] : List Int) (n : Int) 5 0) v → (v ≥ 0 ↔ Size n) → ∃ t : Bool, Ev (fun k => slices_Contains_int_int.f k ([8, 16, 32, 64, 128] : List Int) (n : Int)) t ∧ (t = true ↔ Size n) := fun v h1 h2 => key v True h1 h2
  have e1 : wrap64 (0 + 1) = 1 := (w64 (by decide) (by decide)).trans rfl
  have e2 : wrap64 (1 + 1) = 2 := (w64 (by decide) (by decide)).trans rfl
  have e3 : wrap64 (2 + 1) = 3 := (w64 (by decide) (by decide)).trans rfl
  have e4 : wrap64 (3 + 1) = 4 := (w64 (by decide) (by decide)).trans rfl
  have e5 : wrap64 (4 + 1) = 5 := (w64 (by decide) (by decide)).trans rfl
  have st : ∀ (i x : Int) (v : Int), 0 ≤ i → i < 5 → rd [8, 16, 32, 64, 128] i = x → ((n : Int) = x → v = i) → ((n : Int) ≠ x → Ev (fun k => slices_Index_int_int.l0 k ([8, 16, 32, 64, 128] : List Int) (n : Int) 5 (wrap64 (i + 1))) v) → Ev (fun k => slices_Index_int_int.l0 k ([8, 16, 32, 64, 128] : List Int) (n : Int) 5 i) v := by
    intro i x v h0 h1 hr hy hn
    refine Ev.succ ?_
    simp only [slices_Index_int_int.l0]
    refine Ev.pos h1 (Ev.pos h0 (Ev.pos (by simpa using h1) ?_))
    rw [hr]
    by_cases h : (n : Int) = x
    · exact Ev.pos h (Ev.ret (hy h).symm)
    · exact Ev.neg h (hn h)
  by_cases h1 : n = 8
  · exact go 0 (st 0 8 0 (by decide) (by decide) rfl (fun _ => rfl) (fun h => absurd (by omega) h)) ⟨fun _ => .inl h1, fun _ => by decide⟩
  by_cases h2 : n = 16
  · refine go 1 (st 0 8 1 (by decide) (by decide) rfl (fun h => absurd h (by omega)) (fun _ => ?_)) ⟨fun _ => .inr (.inl h2), fun _ => by decide⟩
    rw [e1]
    exact st 1 16 1 (by decide) (by decide) rfl (fun _ => rfl) (fun h => absurd (by omega) h)
  by_cases h3 : n = 32
  · refine go 2 (st 0 8 2 (by decide) (by decide) rfl (fun h => absurd h (by omega)) (fun _ => ?_)) ⟨fun _ => .inr (.inr (.inl h3)), fun _ => by decide⟩
    rw [e1]
    refine st 1 16 2 (by decide) (by decide) rfl (fun h => absurd h (by omega)) (fun _ => ?_)
    rw [e2]
    exact st 2 32 2 (by decide) (by decide) rfl (fun _ => rfl) (fun h => absurd (by omega) h)
  by_cases h4 : n = 64
  · refine go 3 (st 0 8 3 (by decide) (by decide) rfl (fun h => absurd h (by omega)) (fun _ => ?_)) ⟨fun _ => .inr (.inr (.inr (.inl h4))), fun _ => by decide⟩
    rw [e1]
    refine st 1 16 3 (by decide) (by decide) rfl (fun h => absurd h (by omega)) (fun _ => ?_)
    rw [e2]
    refine st 2 32 3 (by decide) (by decide) rfl (fun h => absurd h (by omega)) (fun _ => ?_)
    rw [e3]
    exact st 3 64 3 (by decide) (by decide) rfl (fun _ => rfl) (fun h => absurd (by omega) h)
  by_cases h5 : n = 128
  · refine go 4 (st 0 8 4 (by decide) (by decide) rfl (fun h => absurd h (by omega)) (fun _ => ?_)) ⟨fun _ => .inr (.inr (.inr (.inr h5))), fun _ => by decide⟩
    rw [e1]
    refine st 1 16 4 (by decide) (by decide) rfl (fun h => absurd h (by omega)) (fun _ => ?_)
    rw [e2]
    refine st 2 32 4 (by decide) (by decide) rfl (fun h => absurd h (by omega)) (fun _ => ?_)
    rw [e3]
    refine st 3 64 4 (by decide) (by decide) rfl (fun h => absurd h (by omega)) (fun _ => ?_)
    rw [e4]
    exact st 4 128 4 (by decide) (by decide) rfl (fun _ => rfl) (fun h => absurd (by omega) h)
  · refine go (-1) (st 0 8 (-1) (by decide) (by decide) rfl (fun h => absurd h (by omega)) (fun _ => ?_)) ⟨fun h => absurd h (by decide), fun h => by rcases h with h | h | h | h | h <;> omega⟩
    rw [e1]
    refine st 1 16 (-1) (by decide) (by decide) rfl (fun h => absurd h (by omega)) (fun _ => ?_)
    rw [e2]
    refine st 2 32 (-1) (by decide) (by decide) rfl (fun h => absurd h (by omega)) (fun _ => ?_)
    rw [e3]
    refine st 3 64 (-1) (by decide) (by decide) rfl (fun h => absurd h (by omega)) (fun _ => ?_)
    rw [e4]
    refine st 4 128 (-1) (by decide) (by decide) rfl (fun h => absurd h (by omega)) (fun _ => ?_)
    rw [e5]
    refine Ev.succ ?_
    simp only [slices_Index_int_int.l0]
    exact Ev.neg (by decide) (Ev.now _)
theorem third' (n e : Nat) (hn : n ≤ 1000000) : ((e : Int) > wrap64 (Int.tdiv (wrap64 (2 * (n : Int))) 3)) ↔ ¬ 3 * e ≤ 2 * n := by
  rw [Int.mul_comm]
  exact third n e hn
theorem DictOk_ok {I : List Int} {E : List S56} (hE : E.length ≤ 1000000000) (hI : I.length ≤ 1000000000) : EvI (fun k => impl_DictOk.f k I E) (Valid I E) := by
  obtain ⟨t, h1, h2⟩ := contains_size I.length
  refine EvI.bind h1 ?_
  by_cases ht : t = true
  · have hn := h2.mp ht
    have hp := hn.pos
    refine EvI.pos ht ?_
    by_cases hf : 3 * E.length ≤ 2 * I.length
    · refine EvI.neg (fun h => (third' _ _ (by omega)).mp h hf) (EvI.bind (live_ok hE) (EvI.succ ?_))
      simp only [impl_DictOk.j0]
      refine EvI.nand (fun h => ?_) (fun h hv => by have := hv.live; have := of_decide_eq_true h; omega)
      have hlv : lv E ≤ 40 := by
        have : ¬ ((lv E : Nat) : Int) > 40 := fun h' => h (decide_eq_true h')
        omega
      refine EvI.pos (by omega) (EvI.pos (by omega) ?_)
      have e : List.replicate ((E.length : Int)).toNat 0 = cn I E 0 := by
        refine List.ext_getElem (by simp [cn]) ?_
        intro j h1 h2
        simp [cn]
      rw [e]
      exact (DictOk_l0 hn hf I.length 0 (by omega) (by simp)).iff ⟨fun h => ⟨hn, hf, hlv, h.1, h.2.1, h.2.2⟩, fun h => ⟨h.ent, h.slots, h.find⟩⟩
    · refine EvI.pos ((third' _ _ (by omega)).mpr hf) (EvI.succ ?_)
      simp only [impl_DictOk.j0]
      exact EvI.pos trivial (EvI.no (Ev.now _) (fun h => hf h.few))
  · refine EvI.neg ht (EvI.succ ?_)
    simp only [impl_DictOk.j0]
    exact EvI.pos trivial (EvI.no (Ev.now _) (fun h => ht (h2.mpr h.size)))
end Go.Proofs.Ytihcollncjcpgaa.E
