/- What the laws of dictionaries compare, in plain Lean: keys and values after a setting and a dropping. No Go and no memory in it; no conditions but those that each law names. -/
import Derived.Test.YtihcollncjcpgaaDcj
import Derived.Test.YtihcollncjcpgaaPx16
namespace Go.Proofs.Ytihcollncjcpgaa.P
open Go.RowKit Go.Proofs.YtihcollncjcpgaaW.PrintWords Go.Proofs.YtihcollncjcpgaaW.PrintLast Go.Proofs.YtihcollncjcpgaaW.PrintMore
set_option linter.unusedVariables false

theorem text_at {l : List ByteArray} {i : Nat} (h : i < l.length) : rdOf ByteArray.empty l (i : Int) = l[i] := by
  unfold rdOf
  rw [Int.toNat_natCast, List.getD_eq_getElem?_getD, List.getElem?_eq_getElem h]
  rfl
theorem sameTexts_ok (l : List ByteArray) (hl : l.length ≤ 1000000) : Ev (fun k => spec_SameTexts.f k l l) true := by
  have go : ∀ d i : Nat, i + d = l.length → Ev (fun k => spec_sameTexts.l0 k l l i) true := by
    intro d
    induction d with
    | zero =>
      intro i hi
      refine Ev.succ ?_
      simp only [spec_sameTexts.l0]
      exact Ev.neg (by omega) (Ev.now _)
    | succ d ih =>
      intro i hi
      refine Ev.succ ?_
      simp only [spec_sameTexts.l0]
      rw [nat_next (by omega)]
      exact Ev.pos (by omega) (Ev.pos (by omega) (Ev.pos (by omega) (Ev.pos trivial (ih (i + 1) (by omega)))))
  exact Ev.bind (a := true) (Ev.pos rfl (go l.length 0 (by omega))) (Ev.now _)
theorem isOne_ok (l : List ByteArray) (hl : l.length ≤ 1000000) (key : ByteArray) : ∃ b, Ev (fun k => spec_IsOne.f k l key) b ∧ (b = true ↔ key ∈ l) := by
  have go : ∀ d i : Nat, i + d = l.length → ∃ b, Ev (fun k => spec_isOne.l0 k l key i) b ∧ (b = true ↔ key ∈ l.drop i) := by
    intro d
    induction d with
    | zero =>
      intro i hi
      refine ⟨false, Ev.succ ?_, by rw [List.drop_of_length_le (by omega)]; simp⟩
      simp only [spec_isOne.l0]
      exact Ev.neg (by omega) (Ev.now _)
    | succ d ih =>
      intro i hi
      have hil : i < l.length := by omega
      by_cases hk : l[i] = key
      · refine ⟨true, Ev.succ ?_, by rw [List.drop_eq_getElem_cons hil, hk]; simp⟩
        simp only [spec_isOne.l0]
        exact Ev.pos (by omega) (Ev.pos (by omega) (Ev.pos (by rw [text_at hil, hk]) (Ev.now _)))
      · obtain ⟨b, h, hb⟩ := ih (i + 1) (by omega)
        refine ⟨b, Ev.succ ?_, by rw [hb, List.drop_eq_getElem_cons hil, List.mem_cons]; simp [Ne.symm hk]⟩
        simp only [spec_isOne.l0]
        rw [nat_next (by omega)]
        exact Ev.pos (by omega) (Ev.pos (by omega) (Ev.neg (by rw [text_at hil]; exact fun h => hk (key_ext h)) h))
  obtain ⟨b, h, hb⟩ := go l.length 0 (by omega)
  exact ⟨b, Ev.bind h (Ev.now _), by simpa using hb⟩
theorem get_any {I : List Int} {E : List S56} (hI : I.length ≤ 1000000) (hE : E.length ≤ 1000000) (key : ByteArray) : ∃ x b, Ev (fun k => impl_DictGet.f k I E key) (x, b) := by
  obtain ⟨b, h1, h2⟩ := DictOk_ok (I := I) (E := E) (by omega) (by omega)
  have j0 : Ev (fun k => impl_DictGet.j0 k key true I E) (0, false) := by
    refine Ev.succ ?_
    simp only [impl_DictGet.j0]
    exact Ev.pos trivial (Ev.now _)
  by_cases hb : b = true
  · have hV := h2.mp hb
    by_cases hk : key.size ≤ 20
    · rcases hV.cases key with ⟨_, ha⟩ | ⟨i, hi, h3, hke, _⟩
      · exact ⟨_, _, get_absent hV hk ha⟩
      · exact ⟨_, _, get_there hV hk hi h3 hke⟩
    · refine ⟨0, false, Ev.bind h1 (Ev.pos hb ?_)⟩
      rw [show decide ((key.size : Int) > 20) = true from decide_eq_true (by omega)]
      exact j0
  · exact ⟨0, false, Ev.bind h1 (Ev.neg hb j0)⟩
theorem keysK_filter (E : List S56) : keysK (E.filter (·.f3)) = keysK E := by
  unfold keysK
  rw [List.filter_filter]
  simp
theorem keysK_app (E : List S56) (key : ByteArray) (v : Int) : keysK (E ++ [nw key v]) = keysK E ++ [key] := by
  unfold keysK
  rw [List.filter_append, List.map_append]
  rfl
theorem ok_of {I : List Int} {E : List S56} (hV : Valid I E) : Ev (fun k => impl_DictOk.f k I E) true := by
  have hb := hV.bounds
  obtain ⟨b, h1, h2⟩ := DictOk_ok (I := I) (E := E) (by omega) (by omega)
  rw [h2.mpr hV] at h1
  exact h1
/-- A dictionary to which an entry was added: its keys. -/
theorem addK_keys {D : List Int × List S56} {F : List S56} {J : List Int} (h : D = (J, F) ∨ D.2 = F.filter (·.f3)) (key : ByteArray) (v : Int) : keysK (addK D.1 D.2 key v).2 = keysK F ++ [key] := by
  show keysK (D.2 ++ [nw key v]) = _
  rw [keysK_app]
  rcases h with rfl | h
  · rfl
  · rw [h, keysK_filter]
theorem putK_keys {E : List S56} {i : Nat} (hi : i < E.length) (v : Int) : keysK (putK E i v) = keysK E := by
  have go : ∀ (L : List S56) (i : Nat) (e : S56), i < L.length → e.f0 = (rd_T56 L i).f0 → e.f3 = (rd_T56 L i).f3 → keysK (L.set i e) = keysK L := by
    intro L
    induction L with
    | nil => intro i e h; simp at h
    | cons a L ih =>
      intro i e h h0 h3
      cases i with
      | zero =>
        have h0' : e.f0 = a.f0 := h0
        have h3' : e.f3 = a.f3 := h3
        unfold keysK
        rw [List.set_cons_zero, List.filter_cons, List.filter_cons, h3']
        by_cases ha : a.f3 = true
        · rw [if_pos ha, if_pos ha, List.map_cons, List.map_cons, h0']
        · rw [if_neg ha, if_neg ha]
      | succ i =>
        have e1 : rd_T56 (a :: L) ((i + 1 : Nat) : Int) = rd_T56 L (i : Int) := by
          have hl : i < L.length := by simpa using h
          rw [ent_at (E := a :: L) (i := i + 1) (by simpa using h), ent_at hl]
          rfl
        rw [e1] at h0 h3
        have := ih i e (by simpa using h) h0 h3
        unfold keysK at this ⊢
        rw [List.set_cons_succ, List.filter_cons, List.filter_cons]
        by_cases ha : a.f3 = true
        · rw [if_pos ha, if_pos ha, List.map_cons, List.map_cons, this]
        · rw [if_neg ha, if_neg ha, this]
  exact go E i _ hi rfl rfl
theorem mem_keysK {E : List S56} {key : ByteArray} : key ∈ keysK E ↔ ∃ i : Nat, i < E.length ∧ (rd_T56 E i).f3 = true ∧ (rd_T56 E i).f0 = key := by
  unfold keysK
  simp only [List.mem_map, List.mem_filter]
  constructor
  · rintro ⟨e, ⟨hm, h3⟩, hk⟩
    obtain ⟨i, hi, rfl⟩ := List.getElem_of_mem hm
    exact ⟨i, hi, by rw [ent_at hi]; exact h3, by rw [ent_at hi]; exact hk⟩
  · rintro ⟨i, hi, h3, hk⟩
    rw [ent_at hi] at h3 hk
    exact ⟨E[i], ⟨List.getElem_mem hi, h3⟩, hk⟩
/-- The entry that was added. -/
theorem addK_last {I : List Int} {E : List S56} (key : ByteArray) (v : Int) : E.length < (addK I E key v).2.length ∧ rd_T56 (addK I E key v).2 (E.length : Nat) = nw key v := by
  refine ⟨by show _ < (E ++ [nw key v]).length; rw [List.length_append]; simp, ?_⟩
  show rd_T56 (E ++ [nw key v]) _ = _
  rw [ent_app _ _ (by omega) (by omega), if_pos rfl]
/-- Two valid dictionaries, as many keys in each, and each of the first's in the second with its value. -/
theorem dictSame_ok {I J : List Int} {E F : List S56} (hV : Valid I E) (hW : Valid J F) (hl : lv E = lv F) (h : ∀ i : Nat, i < E.length → (rd_T56 E i).f3 = true → ∃ j : Nat, j < F.length ∧ (rd_T56 F j).f3 = true ∧ (rd_T56 F j).f0 = (rd_T56 E i).f0 ∧ (rd_T56 F j).f2 = (rd_T56 E i).f2) :
    Ev (fun k => impl_DictSame.f k I E J F) true := by
  have hb := hV.bounds
  have hb' := hW.bounds
  have go : ∀ d i : Nat, i + d = E.length → Ev (fun k => impl_DictSame.l0 k E E.length i J F) true := by
    intro d
    induction d with
    | zero =>
      intro i hi
      refine Ev.succ ?_
      simp only [impl_DictSame.l0]
      exact Ev.neg (by omega) (Ev.now _)
    | succ d ih =>
      intro i hi
      refine Ev.succ ?_
      simp only [impl_DictSame.l0]
      rw [nat_next (by omega)]
      refine Ev.pos (by omega) (Ev.pos (by omega) (Ev.pos (by omega) ?_))
      by_cases h3 : (rd_T56 E i).f3 = true
      · obtain ⟨j, hj, hj3, hjk, hjv⟩ := h i (by omega) h3
        have hsz : (rd_T56 E i).f0.size ≤ 20 := (okE_at hV.ent (by omega)).small h3
        have hs : rd J (sl J F (rd_T56 E i).f0) = j := by rw [← hjk]; exact hW.found hj hj3
        have hmx : mx (rd J (sl J F (rd_T56 E i).f0)) (-1) = j := by rw [hs]; unfold mx; rw [if_neg (by omega)]
        refine Ev.pos h3 (Ev.bind (find_ok hW hsz) ?_)
        rw [hmx]
        exact Ev.neg (by omega) (Ev.pos (by omega) (Ev.pos (by omega) (Ev.pos hjv (ih (i + 1) (by omega)))))
      · exact Ev.neg h3 (ih (i + 1) (by omega))
  refine Ev.bind (ok_of hV) (Ev.pos rfl (Ev.bind (ok_of hW) (Ev.pos rfl (Ev.bind (live_ok (I := I) (E := E) (by omega)) (Ev.bind (live_ok (I := J) (E := F) (by omega)) ?_)))))
  refine Ev.succ ?_
  simp only [impl_DictSame.j0]
  refine Ev.neg (by rw [hl]; simp) ?_
  exact go E.length 0 (by omega)
end Go.Proofs.Ytihcollncjcpgaa.P
