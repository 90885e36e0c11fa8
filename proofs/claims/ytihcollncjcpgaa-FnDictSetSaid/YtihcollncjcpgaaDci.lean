/- What the reference's and the program's DictDrop return, and the program's DictGet and DictKeys, in plain Lean. No Go and no memory in it; no conditions but those that each law names. -/
import Derived.Test.YtihcollncjcpgaaDch
import Derived.Test.YtihcollncjcpgaaPx15
namespace Go.Proofs.Ytihcollncjcpgaa.P
open Go.RowKit Go.Proofs.YtihcollncjcpgaaW.PrintWords Go.Proofs.YtihcollncjcpgaaW.PrintLast Go.Proofs.YtihcollncjcpgaaW.PrintMore
set_option linter.unusedVariables false

def DropRes (I : List Int) (E : List S56) (key : ByteArray) (R : List Int × List S56 × Bool) : Prop :=
  (¬ (Valid I E ∧ key.size ≤ 20) ∧ R = ([], [], false)) ∨
  (Valid I E ∧ key.size ≤ 20 ∧
    ((Absent E key ∧ R = (I, E, false)) ∨
     (∃ i : Nat, i < E.length ∧ (rd_T56 E i).f3 = true ∧ (rd_T56 E i).f0 = key ∧ R = (I.set (sl I E key).toNat (-2), E.set i zE, true))))
theorem drop_ok {I : List Int} {E : List S56} (hI : I.length ≤ 1000000) (hE : E.length ≤ 1000000) (key : ByteArray) :
    ∃ R, Ev (fun k => impl_DictDrop.f k I E key) R ∧ Ev (fun k => spec_DictDrop.f k I E key) R ∧ DropRes I E key R := by
  obtain ⟨b, h1, h2⟩ := DictOk_ok (I := I) (E := E) (by omega) (by omega)
  obtain ⟨b', h1', h2'⟩ := validDict_ok (I := I) (E := E) (by omega)
  by_cases hg : Valid I E ∧ key.size ≤ 20
  · obtain ⟨hV, hk⟩ := hg
    have hb := hV.bounds
    have hr := hV.sl_range key
    obtain ⟨l, p1, p2, p3, p4⟩ := probe_last hV hk
    have impl : ∀ R, Ev (fun k => impl_DictDrop.j0 k key false I E) R → Ev (fun k => impl_DictDrop.f k I E key) R := by
      intro R h
      refine Ev.bind h1 (Ev.pos (h2.mpr hV) ?_)
      rw [show decide ((key.size : Int) > 20) = false from decide_eq_false (by omega)]
      exact h
    have spec : ∀ R, Ev (fun k => spec_DictDrop.j0 k key false I E) R → Ev (fun k => spec_DictDrop.f k I E key) R := by
      intro R h
      refine Ev.bind h1' (Ev.pos (h2'.mpr hV) (Ev.bindNow (a := decide ((key.size : Int) ≤ 20)) rfl ?_))
      rw [show decide ((key.size : Int) ≤ 20) = true from decide_eq_true (by omega)]
      exact h
    rcases hV.cases key with ⟨hs, ha⟩ | ⟨i, hi, h3, hke, hs⟩
    · refine ⟨(I, E, false), impl _ ?_, spec _ ?_, .inr ⟨hV, hk, .inl ⟨ha, rfl⟩⟩⟩
      · refine Ev.succ ?_
        simp only [impl_DictDrop.j0]
        refine Ev.neg (by decide) (Ev.bindNow (clone_ok (by omega) (by omega)) (Ev.bind p1 (Ev.pos p2 (Ev.pos p3 ?_))))
        rw [p4]
        refine Ev.pos hr.1 (Ev.pos hr.2 ?_)
        rw [hs]
        exact Ev.pos (by decide) (Ev.now _)
      · refine Ev.succ ?_
        simp only [spec_DictDrop.j0]
        refine Ev.neg (by decide) (Ev.bindNow (copy_ok (by omega) (by omega)) (Ev.bind (slot_ok hV hk) (Ev.pos hr.1 (Ev.pos hr.2 ?_))))
        rw [hs]
        exact Ev.pos (by decide) (Ev.now _)
    · refine ⟨(I.set (sl I E key).toNat (-2), E.set i zE, true), impl _ ?_, spec _ ?_, .inr ⟨hV, hk, .inr ⟨i, hi, h3, hke, rfl⟩⟩⟩
      · refine Ev.succ ?_
        simp only [impl_DictDrop.j0]
        refine Ev.neg (by decide) (Ev.bindNow (clone_ok (by omega) (by omega)) (Ev.bind p1 (Ev.pos p2 (Ev.pos p3 ?_))))
        rw [p4]
        refine Ev.pos hr.1 (Ev.pos hr.2 ?_)
        rw [hs]
        exact Ev.neg (by omega) (Ev.pos (by omega) (Ev.pos (by show (i : Int) < E.length; omega) (Ev.now _)))
      · refine Ev.succ ?_
        simp only [spec_DictDrop.j0]
        refine Ev.neg (by decide) (Ev.bindNow (copy_ok (by omega) (by omega)) (Ev.bind (slot_ok hV hk) (Ev.pos hr.1 (Ev.pos hr.2 ?_))))
        rw [hs]
        exact Ev.neg (by omega) (Ev.pos (by omega) (Ev.pos (by show (i : Int) < E.length; omega) (Ev.now _)))
  · refine ⟨([], [], false), ?_, ?_, .inl ⟨hg, rfl⟩⟩
    · have j0 : Ev (fun k => impl_DictDrop.j0 k key true I E) ([], [], false) := by
        refine Ev.succ ?_
        simp only [impl_DictDrop.j0]
        exact Ev.pos trivial (Ev.now _)
      refine Ev.bind h1 ?_
      by_cases hb : b = true
      · refine Ev.pos hb ?_
        have : ¬ key.size ≤ 20 := fun h => hg ⟨h2.mp hb, h⟩
        rw [show decide ((key.size : Int) > 20) = true from decide_eq_true (by omega)]
        exact j0
      · exact Ev.neg hb j0
    · have j0 : Ev (fun k => spec_DictDrop.j0 k key true I E) ([], [], false) := by
        refine Ev.succ ?_
        simp only [spec_DictDrop.j0]
        exact Ev.pos trivial (Ev.now _)
      refine Ev.bind h1' ?_
      by_cases hb : b' = true
      · refine Ev.pos hb (Ev.bindNow (a := decide ((key.size : Int) ≤ 20)) rfl ?_)
        have : ¬ key.size ≤ 20 := fun h => hg ⟨h2'.mp hb, h⟩
        rw [show decide ((key.size : Int) ≤ 20) = false from decide_eq_false (by omega)]
        exact j0
      · exact Ev.neg hb j0

/-- The keys that live, in order. -/
def keysK (E : List S56) : List ByteArray := (E.filter (·.f3)).map (·.f0)
theorem keys_l0 {E : List S56} (hE : E.length ≤ 1000000) (d : Nat) : ∀ (i : Nat) (l : List ByteArray), i + d = E.length → l.length ≤ i → Ev (fun k => impl_DictKeys.l0 k l E E.length i) (l ++ keysK (E.drop i)) := by
  induction d with
  | zero =>
    intro i l hi hl
    refine Ev.succ ?_
    simp only [impl_DictKeys.l0]
    refine Ev.neg (by omega) (Ev.ret ?_)
    rw [List.drop_of_length_le (by omega)]
    simp [keysK]
  | succ d ih =>
    intro i l hi hl
    have hil : i < E.length := by omega
    refine Ev.succ ?_
    simp only [impl_DictKeys.l0]
    rw [nat_next (by omega), ent_at hil]
    refine Ev.pos (by omega) (Ev.pos (by omega) (Ev.pos (by omega) ?_))
    by_cases h3 : E[i].f3 = true
    · refine Ev.pos h3 (Ev.pos (by omega) ?_)
      have := ih (i + 1) (l ++ [E[i].f0]) (by omega) (by simp; omega)
      have e : keysK (E.drop i) = E[i].f0 :: keysK (E.drop (i + 1)) := by
        unfold keysK
        rw [List.drop_eq_getElem_cons hil, List.filter_cons_of_pos h3, List.map_cons]
      rw [e]
      rwa [List.append_assoc] at this
    · refine Ev.neg h3 ?_
      have e : keysK (E.drop i) = keysK (E.drop (i + 1)) := by
        unfold keysK
        rw [List.drop_eq_getElem_cons hil, List.filter_cons_of_neg (by simpa using h3)]
      rw [e]
      exact ih (i + 1) l (by omega) (by omega)
theorem keys_ok {I : List Int} {E : List S56} (hV : Valid I E) : Ev (fun k => impl_DictKeys.f k I E) (keysK E) := by
  have hb := hV.bounds
  obtain ⟨b, h1, h2⟩ := DictOk_ok (I := I) (E := E) (by omega) (by omega)
  refine Ev.bind h1 (Ev.pos (h2.mpr hV) ?_)
  have := keys_l0 (E := E) (by omega) E.length 0 [] (by omega) (by simp)
  simpa using this
theorem keysK_len (E : List S56) : (keysK E).length = lv E := by rw [keysK, List.length_map, lv_filter]
theorem get_absent {I : List Int} {E : List S56} (hV : Valid I E) {key : ByteArray} (hk : key.size ≤ 20) (ha : Absent E key) : Ev (fun k => impl_DictGet.f k I E key) (0, false) := by
  have hb := hV.bounds
  obtain ⟨b, h1, h2⟩ := DictOk_ok (I := I) (E := E) (by omega) (by omega)
  refine Ev.bind h1 (Ev.pos (h2.mpr hV) ?_)
  rw [show decide ((key.size : Int) > 20) = false from decide_eq_false (by omega)]
  refine Ev.succ ?_
  simp only [impl_DictGet.j0]
  rcases hV.cases key with ⟨hs, _⟩ | ⟨i, hi, h3, hke, hs⟩
  · refine Ev.neg (by decide) (Ev.bind (find_ok hV hk) ?_)
    rw [hs]
    exact Ev.pos (by decide) (Ev.now _)
  · exact absurd hke (ha i hi h3)
theorem get_there {I : List Int} {E : List S56} (hV : Valid I E) {key : ByteArray} (hk : key.size ≤ 20) {i : Nat} (hi : i < E.length) (h3 : (rd_T56 E i).f3 = true) (hke : (rd_T56 E i).f0 = key) : Ev (fun k => impl_DictGet.f k I E key) ((rd_T56 E i).f2, true) := by
  have hb := hV.bounds
  obtain ⟨b, h1, h2⟩ := DictOk_ok (I := I) (E := E) (by omega) (by omega)
  refine Ev.bind h1 (Ev.pos (h2.mpr hV) ?_)
  rw [show decide ((key.size : Int) > 20) = false from decide_eq_false (by omega)]
  refine Ev.succ ?_
  simp only [impl_DictGet.j0]
  have hs : rd I (sl I E key) = i := by rw [← hke]; exact hV.found hi h3
  have hmx : mx (rd I (sl I E key)) (-1) = i := by rw [hs]; unfold mx; rw [if_neg (by omega)]
  refine Ev.neg (by decide) (Ev.bind (find_ok hV hk) ?_)
  rw [hmx]
  exact Ev.neg (by omega) (Ev.pos (by omega) (Ev.pos (by omega) (Ev.now _)))

/-! equal dictionaries -/
theorem sameNums_l0 (l : List Int) (hl : l.length ≤ 1000000) (d : Nat) : ∀ i : Nat, i + d = l.length → Ev (fun k => spec_sameNums.l0 k l l i) true := by
  induction d with
  | zero =>
    intro i hi
    refine Ev.succ ?_
    simp only [spec_sameNums.l0]
    exact Ev.neg (by omega) (Ev.now _)
  | succ d ih =>
    intro i hi
    refine Ev.succ ?_
    simp only [spec_sameNums.l0]
    rw [nat_next (by omega)]
    exact Ev.pos (by omega) (Ev.pos (by omega) (Ev.pos (by omega) (Ev.pos trivial (ih (i + 1) (by omega)))))
theorem sameEntries_l0 (l : List S56) (hl : l.length ≤ 1000000) (d : Nat) : ∀ i : Nat, i + d = l.length → Ev (fun k => spec_sameEntries.l0 k l l i) true := by
  induction d with
  | zero =>
    intro i hi
    refine Ev.succ ?_
    simp only [spec_sameEntries.l0]
    exact Ev.neg (by omega) (Ev.now _)
  | succ d ih =>
    intro i hi
    refine Ev.succ ?_
    simp only [spec_sameEntries.l0]
    rw [nat_next (by omega)]
    exact Ev.pos (by omega) (Ev.pos (by omega) (Ev.pos (by omega) (Ev.neg (by simp) (ih (i + 1) (by omega)))))
theorem sameDict_ok (I : List Int) (E : List S56) (hI : I.length ≤ 1000000) (hE : E.length ≤ 1000000) : Ev (fun k => spec_SameDict.f k I E I E) true := by
  refine Ev.bind (a := true) (Ev.pos rfl (sameNums_l0 I hI I.length 0 (by omega))) (Ev.pos rfl (Ev.bind (a := true) (Ev.pos rfl (sameEntries_l0 E hE E.length 0 (by omega))) (Ev.now _)))
end Go.Proofs.Ytihcollncjcpgaa.P
