/- The law FnDictUndone returns true for every code: a setting of what was not there is undone by a dropping. Condition: the argument reads as bytes (as the row has it). -/
import Derived.Test.YtihcollncjcpgaaLwUndone
import Derived.Test.YtihcollncjcpgaaDck
namespace Go.Proofs.Ytihcollncjcpgaa.P
open Go.RowKit Go.Proofs.YtihcollncjcpgaaW.PrintWords Go.Proofs.YtihcollncjcpgaaW.PrintLast Go.Proofs.YtihcollncjcpgaaW.PrintMore
set_option linter.unusedVariables false

set_option maxHeartbeats 8000000 in
set_option maxRecDepth 100000 in
theorem FnDictUndone (a0 : Option Addr) (len0 cap0 : Nat) (z0 : List Int) (w : World) (w0 : (a0 = none ∧ len0 = 0 ∧ cap0 = 0 ∧ z0 = []) ∨ ∃ x, a0 = some x ∧ len0 ≤ cap0 ∧ cap0 ≤ maxLen ∧ z0.length = cap0 ∧ (∀ i, i < z0.length → w.cell? (x.add i) = some (.int .u8 (z0.getD i 0))) ∧ ∀ n ∈ z0, (Lit.int .u8 n).wf = true) (y0 : len0 * 1 ≤ 140737488351232) :
    Calls Try.prog 7 #[.slice a0 len0 cap0] w fun e w' => e = .returned (.bool true) ∧ Below w.heap.size w w' := by
  obtain ⟨l0, rfl, hr0, hm0, hw0, hc0⟩ := ReadsInt.ofRowC w0
  have r0 : Rd (Kd.int .u8) w a0 cap0 l0 := ⟨Kd.C_of_reads (d := (0 : Int)) (h1 := fun _ => rfl) hr0, hc0⟩
  clear w0 hr0
  by_cases hl : l0.length ≤ 1048576
  · obtain ⟨I, E, key, v, h1, hF⟩ := drawSet_ok hw0
    obtain ⟨R, h2, h3, hR⟩ := set_ok (I := I) (E := E) (by have := hF.1; omega) (by have := hF.2; omega) key v
    obtain ⟨x, there, h5⟩ := get_any (I := I) (E := E) (by have := hF.1; omega) (by have := hF.2; omega) key
    rcases hR with ⟨_, rfl⟩ | ⟨hV, hk, hv, ⟨i, hi, hi3, hik, rfl⟩ | ⟨_, _, rfl⟩ | ⟨ha, hlv, D, hD, hDe, hab, hf, hlD, rfl⟩⟩
    · exact undone_no (aS r0) hl (aS h1) (aS h2) (aS h3) (aS (sameDict_ok _ _ (by decide) (by decide))) (aS h5) (by simp)
    · have hb := hV.bounds
      have hp := hV.put hi hi3 hv
      have hbp := hp.bounds
      exact undone_no (aS r0) hl (aS h1) (aS h2) (aS h3) (aS (sameDict_ok _ _ (by omega) (by omega))) (aS (get_there hV hk hi hi3 hik)) (by decide)
    · have hb := hV.bounds
      exact undone_no (aS r0) hl (aS h1) (aS h2) (aS h3) (aS (sameDict_ok _ _ (by omega) (by omega))) (aS h5) (by simp)
    · have hb := hV.bounds
      have hJ := hD.add hk hv hab hf (by omega)
      have hbJ := hJ.bounds
      have hla := addK_last (I := D.1) (E := D.2) key v
      have h6 := drop_ok (I := (addK D.1 D.2 key v).1) (E := (addK D.1 D.2 key v).2) (by omega) (by omega) key
      have hsame := sameDict_ok (addK D.1 D.2 key v).1 (addK D.1 D.2 key v).2 (by omega) (by omega)
      have hF2 : (addK D.1 D.2 key v).2 = D.2 ++ [nw key v] := rfl
      have hks : keysK D.2 = keysK E := by
        rcases hDe with rfl | h
        · rfl
        · rw [h, keysK_filter]
      have hent : ∀ p : Nat, p < D.2.length → (rd_T56 D.2 p).f3 = true → ∃ j : Nat, j < E.length ∧ (rd_T56 E j).f3 = true ∧ (rd_T56 E j).f0 = (rd_T56 D.2 p).f0 ∧ (rd_T56 E j).f2 = (rd_T56 D.2 p).f2 := by
        intro p hp hp3
        rcases hDe with rfl | h
        · exact ⟨p, hp, hp3, rfl, rfl⟩
        · have hm : D.2[p] ∈ E.filter (·.f3) := by rw [← h]; exact List.getElem_mem hp
          obtain ⟨q, hq, e⟩ := List.getElem_of_mem (List.mem_filter.mp hm).1
          rw [ent_at hp] at hp3 ⊢
          exact ⟨q, hq, by rw [ent_at hq, e]; exact hp3, by rw [ent_at hq, e], by rw [ent_at hq, e]⟩
      revert h2 h3 h6 hJ hbJ hla hsame
      generalize (addK D.1 D.2 key v).1 = J
      rw [hF2]
      intro h2 h3 hJ hbJ hla h6 hsame
      obtain ⟨R, h6, _, hR⟩ := h6
      rcases hR with ⟨hn, _⟩ | ⟨_, _, ⟨hab2, _⟩ | ⟨j, hj, hj3, hjk, rfl⟩⟩
      · exact absurd ⟨hJ, hk⟩ hn
      · exact absurd (by rw [hla.2]; rfl) (hab2 D.2.length hla.1 (by rw [hla.2]; rfl))
      · have hjl : j = D.2.length := hJ.uniq hj hla.1 hj3 (by rw [hla.2]; rfl) (by rw [hla.2]; exact hjk)
        subst hjl
        have hS := hJ.drop hj hj3 hjk
        have hT : (D.2 ++ [nw key v]).set D.2.length zE = D.2 ++ [zE] := by simp
        rw [hT] at hS h6
        have hkT : keysK (D.2 ++ [zE]) = keysK E := by
          unfold keysK at hks ⊢
          rw [List.filter_append, List.map_append, hks]
          exact List.append_nil _
        have hlT : lv (D.2 ++ [zE]) = lv E := by rw [lv_app, hlD]; rfl
        have h8 := keys_ok hS
        rw [hkT] at h8
        have hlen : (keysK E).length ≤ 1000000 := by rw [keysK_len]; have := lv_le E; omega
        have h7 := dictSame_ok hS hV hlT (by
          intro p hp hp3
          rw [ent_app _ _ (by omega) (by rw [List.length_append] at hp; simp at hp; omega)] at hp3 ⊢
          by_cases hpe : (p : Int) = D.2.length
          · rw [if_pos hpe] at hp3
            exact absurd hp3 (by decide)
          · rw [if_neg hpe] at hp3 ⊢
            exact hent p (by rw [List.length_append] at hp; simp at hp; omega) hp3)
        exact undone_yes (aS r0) hl (aS h1) (aS h2) (aS h3) (aS hsame) (aS (get_absent hV hk ha)) (aS h6) (aS h7) (aS h8) (aS (keys_ok hV)) (aS (sameTexts_ok _ hlen))
  · have c0 : decide (1048576 < (l0.length : Int)) = true := decide_eq_true (by omega)
    have c1 : decide (1048576 < l0.length) = true := decide_eq_true (by omega)
    clear hl
    go_enter Try.func7, Try.ntmps7
    go_wp2
    go_ret
    exact ⟨rfl, Below.refl _ _⟩
end Go.Proofs.Ytihcollncjcpgaa.P
