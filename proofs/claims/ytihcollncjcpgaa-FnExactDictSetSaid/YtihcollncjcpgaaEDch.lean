/- What the reference's and the program's DictSet and DictDrop return, in plain Lean: the same. No Go and no memory in it; no conditions but those that each law names. -/
import Derived.Test.YtihcollncjcpgaaEDcg
import Derived.Test.YtihcollncjcpgaaEHandB
import Derived.Test.YtihcollncjcpgaaEHandC
import Derived.Test.YtihcollncjcpgaaEx0
import Derived.Test.YtihcollncjcpgaaEx7
import Derived.Test.YtihcollncjcpgaaEx8
import Derived.Test.YtihcollncjcpgaaEx9
namespace Go.Proofs.Ytihcollncjcpgaa.E
open Go.RowKit Go.Proofs.YtihcollncjcpgaaW.PrintWords Go.Proofs.YtihcollncjcpgaaW.PrintLast Go.Proofs.YtihcollncjcpgaaW.PrintMore
set_option linter.unusedVariables false

/-- What a dictionary is after a setting, and what is said of it. -/
def SetRes (I : List Int) (E : List S56) (key : ByteArray) (v : Int) (R : List Int × List S56 × Bool) : Prop :=
  (¬ (Valid I E ∧ key.size ≤ 20 ∧ -1000000 ≤ v ∧ v ≤ 1000000) ∧ R = ([], [], false)) ∨
  (Valid I E ∧ key.size ≤ 20 ∧ (-1000000 ≤ v ∧ v ≤ 1000000) ∧
    ((∃ i : Nat, i < E.length ∧ (rd_T56 E i).f3 = true ∧ (rd_T56 E i).f0 = key ∧ R = (I, putK E i v, true)) ∨
     (Absent E key ∧ lv E = 40 ∧ R = (I, E, false)) ∨
     (Absent E key ∧ lv E < 40 ∧ ∃ D : List Int × List S56, Valid D.1 D.2 ∧ (D = (I, E) ∨ D.2 = E.filter (·.f3)) ∧ Absent D.2 key ∧ 3 * (D.2.length + 1) ≤ 2 * D.1.length ∧ lv D.2 = lv E ∧ R = ((addK D.1 D.2 key v).1, (addK D.1 D.2 key v).2, true))))
theorem absent_filter {E : List S56} {key : ByteArray} (h : Absent E key) : Absent (E.filter (·.f3)) key := by
  intro i hi h3
  rw [ent_at hi] at h3 ⊢
  have hm := (List.mem_filter.mp (List.getElem_mem hi)).1
  obtain ⟨j, hj, e⟩ := List.getElem_of_mem hm
  have := h j hj
  rw [ent_at hj, e] at this
  exact this h3
theorem full (n e : Nat) (hn : n ≤ 1000000) : ((e : Int) ≥ wrap64 (Int.tdiv (wrap64 ((n : Int) * 2)) 3)) ↔ 2 * n < 3 * (e + 1) := by
  have e1 : wrap64 ((n : Int) * 2) = n * 2 := w64 (by omega) (by omega)
  rw [e1, Int.tdiv_eq_ediv_of_nonneg (by omega), w64 (by omega) (by omega)]
  omega
theorem full' (n e : Nat) (hn : n ≤ 1000000) : ((e : Int) ≥ wrap64 (Int.tdiv (wrap64 (2 * (n : Int))) 3)) ↔ 2 * n < 3 * (e + 1) := by
  rw [Int.mul_comm]
  exact full n e hn
set_option maxHeartbeats 4000000 in
theorem set_ok {I : List Int} {E : List S56} (hI : I.length ≤ 1000000000) (hE : E.length ≤ 1000000000) (key : ByteArray) (v : Int) :
    ∃ R, Ev (fun k => impl_DictSet.f k I E key v) R ∧ Ev (fun k => spec_DictSet.f k I E key v) R ∧ SetRes I E key v R := by
  obtain ⟨b, h1, h2⟩ := DictOk_ok (I := I) (E := E) (by omega) (by omega)
  obtain ⟨b', h1', h2'⟩ := validDict_ok (I := I) (E := E) (by omega)
  have bad : ¬ (Valid I E ∧ key.size ≤ 20 ∧ -1000000 ≤ v ∧ v ≤ 1000000) → ∃ R, Ev (fun k => impl_DictSet.f k I E key v) R ∧ Ev (fun k => spec_DictSet.f k I E key v) R ∧ SetRes I E key v R := by
    intro hn
    refine ⟨([], [], false), ?_, ?_, .inl ⟨hn, rfl⟩⟩
    · have j0 : Ev (fun k => impl_DictSet.j0 k key v true I E) ([], [], false) := by
        refine Ev.succ ?_
        simp only [impl_DictSet.j0]
        exact Ev.pos trivial (Ev.now _)
      refine Ev.bind h1 ?_
      by_cases hb : b = true
      · refine Ev.pos hb ?_
        by_cases hk : (key.size : Int) > 20
        · exact Ev.pos hk j0
        · refine Ev.neg hk (Ev.bindNow (within_ok v) ?_)
          have : (!decide (-1000000 ≤ v ∧ v ≤ 1000000)) = true := by
            simp only [Bool.not_eq_true', decide_eq_false_iff_not]
            exact fun hv => hn ⟨h2.mp hb, by omega, hv.1, hv.2⟩
          rw [this]
          exact j0
      · exact Ev.neg hb j0
    · have j0 : Ev (fun k => spec_DictSet.j0 k key v true I E) ([], [], false) := by
        refine Ev.succ ?_
        simp only [spec_DictSet.j0]
        exact Ev.pos trivial (Ev.now _)
      refine Ev.bind h1' ?_
      by_cases hb : b' = true
      · refine Ev.pos hb (Ev.bindNow (a := decide ((key.size : Int) ≤ 20)) rfl ?_)
        by_cases hk : (key.size : Int) ≤ 20
        · refine Ev.pos (decide_eq_true hk) (Ev.bindNow (inRange_ok v) ?_)
          have : (!decide (-1000000 ≤ v ∧ v ≤ 1000000)) = true := by
            simp only [Bool.not_eq_true', decide_eq_false_iff_not]
            exact fun hv => hn ⟨h2'.mp hb, by omega, hv.1, hv.2⟩
          rw [this]
          exact j0
        · exact Ev.neg (by simpa using hk) j0
      · exact Ev.neg hb j0
  by_cases hg : Valid I E ∧ key.size ≤ 20 ∧ -1000000 ≤ v ∧ v ≤ 1000000
  · obtain ⟨hV, hk, hv⟩ := hg
    have hb := hV.bounds
    have hr := hV.sl_range key
    have hvl := lv_le E
    have hlive := hV.live
    -- the program, behind its tests
    have impl : ∀ R, Ev (fun k => impl_DictSet.j0 k key v false I E) R → Ev (fun k => impl_DictSet.f k I E key v) R := by
      intro R h
      refine Ev.bind h1 (Ev.pos (h2.mpr hV) (Ev.neg (by omega) (Ev.bindNow (within_ok v) ?_)))
      have : (!decide (-1000000 ≤ v ∧ v ≤ 1000000)) = false := by simpa using hv
      rw [this]
      exact h
    have spec : ∀ R, Ev (fun k => spec_DictSet.j0 k key v false I E) R → Ev (fun k => spec_DictSet.f k I E key v) R := by
      intro R h
      refine Ev.bind h1' (Ev.pos (h2'.mpr hV) (Ev.bindNow (a := decide ((key.size : Int) ≤ 20)) rfl (Ev.pos (decide_eq_true (by omega)) (Ev.bindNow (inRange_ok v) ?_))))
      have : (!decide (-1000000 ≤ v ∧ v ≤ 1000000)) = false := by simpa using hv
      rw [this]
      exact h
    rcases hV.cases key with ⟨hs, ha⟩ | ⟨i, hi, h3, hke, hs⟩
    · -- the key is not there
      have hmx : mx (rd I (sl I E key)) (-1) = -1 := by rw [hs]; rfl
      by_cases hl : lv E = 40
      · refine ⟨(I, E, false), impl _ ?_, spec _ ?_, .inr ⟨hV, hk, hv, .inr (.inl ⟨ha, hl, rfl⟩)⟩⟩
        · refine Ev.succ ?_
          simp only [impl_DictSet.j0]
          refine Ev.neg (by decide) (Ev.bindNow (clone_ok (by omega) (by omega)) (Ev.bind (find_ok hV hk) ?_))
          rw [hmx]
          refine Ev.neg (by decide) (Ev.bind (live_ok (I := I) (E := E) (by omega)) (Ev.pos (by omega) (Ev.now _)))
        · refine Ev.succ ?_
          simp only [spec_DictSet.j0]
          refine Ev.neg (by decide) (Ev.bind (slot_ok hV hk) (Ev.pos hr.1 (Ev.pos hr.2 ?_)))
          rw [hs]
          refine Ev.pos (by decide) (Ev.bind (liveEntries_ok (I := I) (E := E) (by omega)) (Ev.succ ?_))
          simp only [spec_DictSet.j1]
          exact Ev.pos (decide_eq_true (by omega)) (Ev.bindNow (copy_ok (by omega) (by omega)) (Ev.now _))
      · have hl' : lv E < 40 := by omega
        -- where the entry goes
        have both : ∀ D : List Int × List S56, Valid D.1 D.2 → (D = (I, E) ∨ D.2 = E.filter (·.f3)) → Absent D.2 key → 3 * (D.2.length + 1) ≤ 2 * D.1.length → lv D.2 = lv E →
            SetRes I E key v ((addK D.1 D.2 key v).1, (addK D.1 D.2 key v).2, true) := fun D d1 d2 d3 d4 d5 => .inr ⟨hV, hk, hv, .inr (.inr ⟨ha, hl', D, d1, d2, d3, d4, d5, rfl⟩)⟩
        have implTo : ∀ R, Ev (fun k => if (E.length : Int) ≥ (wrap64 (Int.tdiv (wrap64 (2 * (I.length : Int))) 3)) then ((impl_Dict_live.f k I E).bind fun t469 => ((impl_Dict_packed.f k I E (wrap64 (t469 + 1))).bind fun bt470 => ((impl_Dict_add.f k bt470.1 bt470.2 key v).bind fun bt476 => (some (bt476.1, bt476.2, true))))) else ((impl_Dict_add.f k I E key v).bind fun bt482 => (some (bt482.1, bt482.2, true)))) R → Ev (fun k => impl_DictSet.f k I E key v) R := by
          intro R h
          refine impl R (Ev.succ ?_)
          simp only [impl_DictSet.j0]
          refine Ev.neg (by decide) (Ev.bindNow (clone_ok (by omega) (by omega)) (Ev.bind (find_ok hV hk) ?_))
          rw [hmx]
          exact Ev.neg (by decide) (Ev.bind (live_ok (I := I) (E := E) (by omega)) (Ev.neg (by omega) h))
        have specTo : ∀ R : List Int × List S56 × Bool, Ev (fun k => spec_setKey.f k I E key v) (R.1, R.2.1) → R.2.2 = true → Ev (fun k => spec_DictSet.f k I E key v) R := by
          intro R h ht
          refine spec R (Ev.succ ?_)
          simp only [spec_DictSet.j0]
          refine Ev.neg (by decide) (Ev.bind (slot_ok hV hk) (Ev.pos hr.1 (Ev.pos hr.2 ?_)))
          rw [hs]
          refine Ev.pos (by decide) (Ev.bind (liveEntries_ok (I := I) (E := E) (by omega)) (Ev.succ ?_))
          simp only [spec_DictSet.j1]
          refine Ev.neg (by simp; omega) (Ev.bind h (Ev.ret ?_))
          rw [← ht]
        by_cases hf : 2 * I.length < 3 * (E.length + 1)
        · have hm := sizeK_size (lv E + 1)
          have hbig := sizeK_big (m := lv E + 1) (by omega)
          have hh : 3 * (lv E + 1) ≤ 2 * sizeK (lv E + 1) := by omega
          have hf3 : 3 * lv E ≤ 2 * sizeK (lv E + 1) := by omega
          have hl1 : lv E + 1 ≤ 40 := by omega
          have ew : wrap64 ((lv E : Int) + 1) = ((lv E + 1 : Nat) : Int) := nat_next (by omega)
          have hP := hV.pack hm hf3
          have hlvD : lv (packK (sizeK (lv E + 1)) E).2 = lv E := by
            rw [hP.2.1]
            unfold lv
            rw [List.countP_filter]
            simp
          have hab : Absent (packK (sizeK (lv E + 1)) E).2 key := by rw [hP.2.1]; exact absent_filter ha
          have hlen : (packK (sizeK (lv E + 1)) E).2.length = lv E := by rw [hP.2.1, lv_filter]
          have hpi := impl_packed_ok hV (m := lv E + 1) hl1 hf3
          have hps := spec_packed_ok hV hm hf3
          have hsz := sizeFor_ok (m := lv E + 1) hl1
          have hle : 3 * ((packK (sizeK (lv E + 1)) E).2.length + 1) ≤ 2 * (packK (sizeK (lv E + 1)) E).1.length := by rw [hlen, hP.2.2]; exact hh
          have hb2 := both (packK (sizeK (lv E + 1)) E) hP.1 (.inr hP.2.1) hab hle hlvD
          have hV2 := hP.1
          revert hb2 hpi hps hV2
          generalize packK (sizeK (lv E + 1)) E = D
          generalize sizeK (lv E + 1) = n at hsz
          clear hP hlvD hab hlen hle hm hbig both hh hf3
          intro hpi hps hb2 hV2
          have hbD := hV2.bounds
          have hrD := hV2.sl_range key
          have hadd := add_ok hV2 hk v
          have hsl := slot_ok hV2 hk
          exact ⟨_, implTo _ (Ev.pos ((full' I.length E.length (by omega)).mpr hf) (Ev.bind (live_ok (I := I) (E := E) (by omega)) (by rw [ew]; exact Ev.bind hpi (Ev.bind hadd (Ev.now _))))),
            specTo _ (by
              unfold spec_setKey.f
              refine Ev.bindNow (copy_ok (by omega) (by omega)) (Ev.bind (slot_ok hV hk) (Ev.pos hr.1 (Ev.pos hr.2 ?_)))
              rw [hs]
              refine Ev.neg (by decide) (Ev.pos ((full I.length E.length (by omega)).mpr hf) (Ev.bind (liveEntries_ok (I := I) (E := E) (by omega)) ?_))
              rw [ew]
              refine Ev.bind hsz (Ev.bind hps (Ev.bind hsl (Ev.pos hrD.1 (Ev.pos hrD.2 (Ev.bind (hashOf_ok key (by omega)) (Ev.pos (by omega) (Ev.now _)))))))) rfl, hb2⟩
        · have hb2 := both (I, E) hV (.inl rfl) ha (by show 3 * (E.length + 1) ≤ 2 * I.length; omega) rfl
          have hadd := add_ok hV hk v
          exact ⟨_, implTo _ (Ev.neg (fun h => hf ((full' I.length E.length (by omega)).mp h)) (Ev.bind hadd (Ev.now _))),
            specTo _ (by
              unfold spec_setKey.f
              refine Ev.bindNow (copy_ok (by omega) (by omega)) (Ev.bind (slot_ok hV hk) (Ev.pos hr.1 (Ev.pos hr.2 ?_)))
              rw [hs]
              exact Ev.neg (by decide) (Ev.neg (fun h => hf ((full I.length E.length (by omega)).mp h)) (Ev.bind (hashOf_ok key (by omega)) (Ev.pos (by show E.length < _; omega) (Ev.now _))))) rfl, hb2⟩
    · -- the key is there
      have hmx : mx (rd I (sl I E key)) (-1) = i := by rw [hs]; unfold mx; rw [if_neg (by omega)]
      refine ⟨(I, putK E i v, true), impl _ ?_, spec _ ?_, .inr ⟨hV, hk, hv, .inl ⟨i, hi, h3, hke, rfl⟩⟩⟩
      · refine Ev.succ ?_
        simp only [impl_DictSet.j0]
        refine Ev.neg (by decide) (Ev.bindNow (clone_ok (by omega) (by omega)) (Ev.bind (find_ok hV hk) ?_))
        rw [hmx]
        exact Ev.pos (by omega) (Ev.pos (by omega) (Ev.pos (by show (i : Int) < E.length; omega) (Ev.now _)))
      · refine Ev.succ ?_
        simp only [spec_DictSet.j0]
        refine Ev.neg (by decide) (Ev.bind (slot_ok hV hk) (Ev.pos hr.1 (Ev.pos hr.2 ?_)))
        rw [hs]
        refine Ev.neg (by omega) (Ev.succ ?_)
        simp only [spec_DictSet.j1]
        refine Ev.neg (by decide) (Ev.bind (a := (I, putK E i v)) ?_ (Ev.now _))
        unfold spec_setKey.f
        refine Ev.bindNow (copy_ok (by omega) (by omega)) (Ev.bind (slot_ok hV hk) (Ev.pos hr.1 (Ev.pos hr.2 ?_)))
        rw [hs]
        exact Ev.pos (by omega) (Ev.pos (by omega) (Ev.pos (by show (i : Int) < E.length; omega) (Ev.now _)))
  · exact bad hg
end Go.Proofs.Ytihcollncjcpgaa.E
