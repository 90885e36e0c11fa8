/- Setting a key that is there, dropping one and packing as plain functions on lists: they keep a dictionary valid. No Go and no memory in it; no conditions but those that each law names. -/
import Derived.Test.YtihcollncjcpgaaEDce
import Derived.Test.YtihcollncjcpgaaEx0
namespace Go.Proofs.Ytihcollncjcpgaa.E
open Go.RowKit Go.Proofs.YtihcollncjcpgaaW.PrintWords Go.Proofs.YtihcollncjcpgaaW.PrintLast Go.Proofs.YtihcollncjcpgaaW.PrintMore
set_option linter.unusedVariables false

theorem lv_set {E : List S56} {i : Nat} (hi : i < E.length) (e : S56) : lv (E.set i e) + (if (rd_T56 E i).f3 = true then 1 else 0) = lv E + (if e.f3 = true then 1 else 0) := by
  have key : ∀ (E : List S56) (i : Nat) (hi : i < E.length), (E.set i e).countP (·.f3) + (if E[i].f3 = true then 1 else 0) = E.countP (·.f3) + (if e.f3 = true then 1 else 0) := by
    intro E
    induction E with
    | nil => intro i hi; simp at hi
    | cons a t ih =>
      intro i hi
      cases i with
      | zero =>
        simp only [List.set_cons_zero, List.countP_cons, List.getElem_cons_zero]
        omega
      | succ i =>
        have := ih i (by simpa using hi)
        simp only [List.set_cons_succ, List.countP_cons, List.getElem_cons_succ]
        omega
  have := key E i hi
  rw [ent_at hi]
  exact this
/-- The value of the entry i is another one. -/
def putK (E : List S56) (i : Nat) (v : Int) : List S56 := E.set i ⟨(rd_T56 E i).f0, (rd_T56 E i).f1, v, (rd_T56 E i).f3⟩
theorem putK_len (E : List S56) (i : Nat) (v : Int) : (putK E i v).length = E.length := List.length_set
theorem putK_at {E : List S56} {i : Nat} (hi : i < E.length) (v : Int) (p : Int) (hp : 0 ≤ p) : (rd_T56 (putK E i v) p).f0 = (rd_T56 E p).f0 ∧ (rd_T56 (putK E i v) p).f3 = (rd_T56 E p).f3 := by
  rw [putK, ent_set hi _ _ hp]
  by_cases h : p = i
  · subst h
    rw [if_pos rfl]
    exact ⟨rfl, rfl⟩
  · rw [if_neg h]
    exact ⟨rfl, rfl⟩
theorem Valid.put {I : List Int} {E : List S56} (h : Valid I E) {i : Nat} (hi : i < E.length) (h3 : (rd_T56 E i).f3 = true) {v : Int} (hv : -1000000 ≤ v ∧ v ≤ 1000000) : Valid I (putK E i v) := by
  have hl := putK_len E i v
  have hpos := h.size.pos
  have hlv : lv (putK E i v) = lv E := by
    have := lv_set hi ⟨(rd_T56 E i).f0, (rd_T56 E i).f1, v, (rd_T56 E i).f3⟩
    simp only [h3, if_true] at this
    unfold putK
    simp only [h3]
    omega
  have hst : ∀ (k' : ByteArray) (p : Int), 0 ≤ p → p < I.length → (stp I (putK E i v) k' p ↔ stp I E k' p) := by
    intro k' p h0 h1
    unfold stp
    by_cases hx : 0 ≤ rd I p
    · rw [(putK_at hi v _ hx).1]
    · constructor <;> rintro (e | e)
      · exact .inl e
      · exact absurd e.1 hx
      · exact .inl e
      · exact absurd e.1 hx
  refine ⟨h.size, by rw [hl]; exact h.few, by rw [hlv]; exact h.live, ?_, ⟨?_, h.slots.one, ?_, ?_⟩, ?_⟩
  · intro e he
    rcases List.mem_or_eq_of_mem_set he with he | he
    · exact h.ent e he
    · subst he
      have := okE_at h.ent hi
      rcases this with e | e
      · exact .inl ⟨e.1, e.2.1, e.2.2.1, hv.1, hv.2⟩
      · rw [h3] at e
        exact absurd e.1 (by decide)
  · intro x hx
    rcases h.slots.ok x hx with e | e | e
    · exact .inl e
    · exact .inr (.inl e)
    · exact .inr (.inr ⟨e.1, by rw [hl]; exact e.2.1, by rw [(putK_at hi v _ e.1).2]; exact e.2.2⟩)
  · intro j hj hj3
    rw [(putK_at hi v _ (by omega)).2] at hj3
    exact h.slots.all j (by omega) hj3
  · rw [hlv, hl]
    exact h.slots.drop
  · intro j hj hj3
    rw [(putK_at hi v _ (by omega)).2] at hj3
    rw [(putK_at hi v _ (by omega)).1]
    obtain ⟨m, hm, hr⟩ := h.find j (by omega) hj3
    have hw := fun q => wy_range (I := I) hpos.1 (rd_T56 E j).f0 q
    refine ⟨m, ⟨(hst _ _ (hw m).1 (hw m).2).mpr hm.1, fun q hq => fun hs => hm.2.1 q hq ((hst _ _ (hw q).1 (hw q).2).mp hs), hm.2.2⟩, hr⟩

def zE : S56 := ⟨(⟨#[]⟩ : ByteArray), 0, 0, false⟩
theorem Valid.drop {I : List Int} {E : List S56} (h : Valid I E) {key : ByteArray} {i : Nat} (hi : i < E.length) (h3 : (rd_T56 E i).f3 = true) (hk : (rd_T56 E i).f0 = key) : Valid (I.set (sl I E key).toNat (-2)) (E.set i zE) := by
  have hr := h.sl_range key
  have hs : rd I (sl I E key) = i := by rw [← hk]; exact h.found hi h3
  have hlen : (I.set (sl I E key).toNat (-2)).length = I.length := List.length_set
  have hel : (E.set i zE).length = E.length := List.length_set
  have hpos := h.size.pos
  have hcnt : ∀ x : Int, (I.set (sl I E key).toNat (-2)).count x = I.count x - (if (i : Int) = x then 1 else 0) + (if (-2 : Int) = x then 1 else 0) := by
    intro x
    rw [count_set' hr.1 hr.2, hs]
  have hi1 : I.count (i : Int) = 1 := h.slots.one _ (h.slots.all i hi h3) (by omega)
  have hi0 : (i : Int) ∉ I.set (sl I E key).toNat (-2) := by
    intro hm
    have := List.count_pos_iff.mpr hm
    rw [hcnt, if_pos rfl, if_neg (by omega), hi1] at this
    omega
  have hold : ∀ p : Int, 0 ≤ p → p ≠ i → rd_T56 (E.set i zE) p = rd_T56 E p := by
    intro p h0 h1
    rw [ent_set hi _ _ h0, if_neg h1]
  have hnew : rd_T56 (E.set i zE) (i : Int) = zE := by rw [ent_set hi _ _ (by omega), if_pos rfl]
  have hlv : lv (E.set i zE) + 1 = lv E := by
    have := lv_set hi zE
    rw [if_pos h3] at this
    simpa [zE] using this
  have hone' : ∀ p : Int, 0 ≤ p → p < I.length → rd I p = i → p = sl I E key := by
    intro p h0 h1 hp
    refine Classical.byContradiction (fun hne => hi0 ?_)
    have : rd (I.set (sl I E key).toNat (-2)) p = i := by rw [rd_set hr.1 hr.2 _ _ h0, if_neg hne, hp]
    rw [← this]
    exact rd_mem h0 (by rw [hlen]; exact h1)
  have hst : ∀ (k' : ByteArray) (p : Int), 0 ≤ p → p < I.length → p ≠ sl I E key → (stp (I.set (sl I E key).toNat (-2)) (E.set i zE) k' p ↔ stp I E k' p) := by
    intro k' p h0 h1 hp
    unfold stp
    rw [rd_set hr.1 hr.2 _ _ h0, if_neg hp]
    by_cases hx : 0 ≤ rd I p
    · rw [hold _ hx (fun e => hp (hone' p h0 h1 e))]
    · constructor <;> rintro (e | e)
      · exact .inl e
      · exact absurd e.1 hx
      · exact .inl e
      · exact absurd e.1 hx
  have hsn : ∀ k' : ByteArray, ¬ stp (I.set (sl I E key).toNat (-2)) (E.set i zE) k' (sl I E key) := by
    intro k'
    unfold stp
    rw [rd_set hr.1 hr.2 _ _ hr.1, if_pos rfl]
    omega
  refine ⟨by rw [hlen]; exact h.size, by rw [hlen, hel]; exact h.few, by have := h.live; omega, ?_, ⟨?_, ?_, ?_, ?_⟩, ?_⟩
  · intro e he
    rcases List.mem_or_eq_of_mem_set he with he | he
    · exact h.ent e he
    · subst he
      exact .inr ⟨rfl, by rw [ByteArray.toList_eq]; rfl, rfl, rfl⟩
  · intro x hx
    have hxi : x ≠ i := fun e => hi0 (e ▸ hx)
    rcases List.mem_or_eq_of_mem_set hx with hx | hx
    · rcases h.slots.ok x hx with e | e | e
      · exact .inl e
      · exact .inr (.inl e)
      · exact .inr (.inr ⟨e.1, by rw [hel]; exact e.2.1, by rw [hold _ e.1 hxi]; exact e.2.2⟩)
    · exact .inr (.inl hx)
  · intro x hx h0
    have hxi : x ≠ i := fun e => hi0 (e ▸ hx)
    rw [hcnt, if_neg (fun e => hxi e.symm), if_neg (by omega)]
    rcases List.mem_or_eq_of_mem_set hx with hx | hx
    · exact h.slots.one x hx h0
    · omega
  · intro j hj hj3
    have hji : (j : Int) ≠ i := by
      intro e
      rw [e, hnew] at hj3
      exact absurd hj3 (by decide)
    rw [hold _ (by omega) hji] at hj3
    rw [hel] at hj
    refine List.count_pos_iff.mp ?_
    rw [hcnt, if_neg (fun e => hji e.symm), if_neg (by omega)]
    exact List.count_pos_iff.mpr (h.slots.all j hj hj3)
  · rw [hcnt, if_neg (by omega), if_pos rfl, hel]
    have := h.slots.drop
    omega
  · intro j hj hj3
    have hji : (j : Int) ≠ i := by
      intro e
      rw [e, hnew] at hj3
      exact absurd hj3 (by decide)
    rw [hold _ (by omega) hji] at hj3 ⊢
    rw [hel] at hj
    obtain ⟨m, hm, hmr⟩ := h.find j hj hj3
    have hw := fun q => wy_range (I := I) hpos.1 (rd_T56 E j).f0 q
    have hmne : wy I (rd_T56 E j).f0 m ≠ sl I E key := fun e => by rw [e, hs] at hmr; exact hji (by omega)
    refine ⟨m, ⟨?_, ?_, by rw [hlen]; exact hm.2.2⟩, ?_⟩
    · rw [wy_len hlen, hst _ _ (hw m).1 (hw m).2 hmne]
      exact hm.1
    · intro q hq
      rw [wy_len hlen]
      by_cases hqs : wy I (rd_T56 E j).f0 q = sl I E key
      · rw [hqs]
        exact hsn _
      · rw [hst _ _ (hw q).1 (hw q).2 hqs]
        exact hm.2.1 q hq
    · rw [wy_len hlen, rd_set hr.1 hr.2 _ _ (hw m).1, if_neg hmne]
      exact hmr

/-! Packing. -/
theorem rd_replicate (n : Nat) (v : Int) (t : Nat) (ht : t < n) : rd (List.replicate n v) t = v := by
  rw [rd_at (by simpa using ht)]
  simp
theorem Valid.nil {n : Nat} (hn : Size n) : Valid (List.replicate n (-1)) [] := by
  refine ⟨by simpa using hn, by simp, by simp [lv], by simp, ⟨?_, ?_, ?_, ?_⟩, ?_⟩
  · intro x hx
    exact .inl (List.eq_of_mem_replicate hx)
  · intro x hx h0
    have := List.eq_of_mem_replicate hx
    omega
  · intro i hi
    simp at hi
  · rw [List.count_replicate]
    simp [lv]
  · intro i hi
    simp at hi
def addE (D : List Int × List S56) (e : S56) : List Int × List S56 := addK D.1 D.2 e.f0 e.f2
def packFrom (D : List Int × List S56) (L : List S56) : List Int × List S56 := L.foldl addE D
def packK (n : Nat) (E : List S56) : List Int × List S56 := packFrom (List.replicate n (-1), []) (E.filter (·.f3))
theorem nw_eq {e : S56} (h : OkE e) (h3 : e.f3 = true) : nw e.f0 e.f2 = e := by
  rcases h with h | h
  · cases e
    simp only [nw, S56.mk.injEq]
    exact ⟨trivial, h.2.2.1.symm, trivial, h.1.symm⟩
  · rw [h3] at h
    exact absurd h.1 (by decide)
theorem OkE.val {e : S56} (h : OkE e) (h3 : e.f3 = true) : -1000000 ≤ e.f2 ∧ e.f2 ≤ 1000000 := by
  rcases h with h | h
  · exact h.2.2.2
  · rw [h3] at h
    exact absurd h.1 (by decide)
theorem packFrom_ok (L : List S56) : ∀ D : List Int × List S56, Valid D.1 D.2 → (∀ e ∈ L, OkE e ∧ e.f3 = true) → L.Pairwise (fun a b => a.f0 ≠ b.f0) → (∀ e ∈ L, Absent D.2 e.f0) →
    3 * (D.2.length + L.length) ≤ 2 * D.1.length → lv D.2 + L.length ≤ 40 → Valid (packFrom D L).1 (packFrom D L).2 ∧ (packFrom D L).2 = D.2 ++ L ∧ (packFrom D L).1.length = D.1.length := by
  induction L with
  | nil =>
    intro D hV _ _ _ _ _
    exact ⟨hV, by simp [packFrom], rfl⟩
  | cons e t ih =>
    intro D hV hL hP hA hf hl
    have he := hL e (List.mem_cons_self ..)
    rw [List.length_cons] at hf hl
    have hV' := hV.add (he.1.small he.2) (he.1.val he.2) (hA e (List.mem_cons_self ..)) (by omega) (by omega)
    have h1 : (addE D e).1.length = D.1.length := List.length_set
    have h2 : (addE D e).2 = D.2 ++ [e] := by
      show D.2 ++ [nw e.f0 e.f2] = _
      rw [nw_eq he.1 he.2]
    have h2l : (addE D e).2.length = D.2.length + 1 := by rw [h2, List.length_append]; rfl
    have hlv : lv (addE D e).2 = lv D.2 + 1 := by rw [h2, lv_app, if_pos he.2]
    rw [List.pairwise_cons] at hP
    have := ih (addE D e) hV' (fun x hx => hL x (List.mem_cons_of_mem _ hx)) hP.2 (by
      intro x hx i hi hi3
      rw [h2l] at hi
      rw [h2] at hi3 ⊢
      by_cases hie : (i : Int) = D.2.length
      · rw [ent_app _ _ (by omega) (by omega), if_pos hie]
        exact hP.1 x hx
      · rw [ent_app _ _ (by omega) (by omega), if_neg hie] at hi3 ⊢
        exact hA x (List.mem_cons_of_mem _ hx) i (by omega) hi3) (by rw [h1, h2l]; omega) (by rw [hlv]; omega)
    refine ⟨this.1, ?_, ?_⟩
    · rw [show packFrom D (e :: t) = packFrom (addE D e) t from rfl, this.2.1, h2]
      simp
    · rw [show packFrom D (e :: t) = packFrom (addE D e) t from rfl, this.2.2, h1]
theorem Valid.apart {I : List Int} {E : List S56} (h : Valid I E) : (E.filter (·.f3)).Pairwise (fun a b => a.f0 ≠ b.f0) := by
  have h1 : E.Pairwise (fun a b => a.f3 = true → b.f3 = true → a.f0 ≠ b.f0) := by
    rw [List.pairwise_iff_getElem]
    intro i j hi hj hij ha hb e
    have := h.uniq hi hj (by rw [ent_at hi]; exact ha) (by rw [ent_at hj]; exact hb) (by rw [ent_at hi, ent_at hj]; exact e)
    omega
  refine (h1.filter (·.f3)).imp_of_mem ?_
  intro a b ha hb hab
  exact hab (List.mem_filter.mp ha).2 (List.mem_filter.mp hb).2
theorem lv_filter (E : List S56) : (E.filter (·.f3)).length = lv E := by
  unfold lv
  rw [List.countP_eq_length_filter]
theorem Valid.pack {I : List Int} {E : List S56} (h : Valid I E) {n : Nat} (hn : Size n) (hf : 3 * lv E ≤ 2 * n) : Valid (packK n E).1 (packK n E).2 ∧ (packK n E).2 = E.filter (·.f3) ∧ (packK n E).1.length = n := by
  have := packFrom_ok (E.filter (·.f3)) (List.replicate n (-1), []) (Valid.nil hn) (by
    intro e he
    have := List.mem_filter.mp he
    exact ⟨h.ent e this.1, this.2⟩) h.apart (by intro e _ i hi; simp at hi) (by rw [lv_filter]; simpa using hf) (by rw [lv_filter]; have := h.live; simpa [lv] using this)
  exact ⟨this.1, this.2.1.trans (by simp), this.2.2.trans (by simp)⟩
end Go.Proofs.Ytihcollncjcpgaa.E
