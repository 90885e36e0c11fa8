/- The law FnDictSet returns true for every code: what is set is there, and nothing else changed. Condition: the argument reads as bytes (as the row has it). -/
import Derived.Test.YtihcollncjcpgaaLwSet
import Derived.Test.YtihcollncjcpgaaDck
namespace Go.Proofs.Ytihcollncjcpgaa.P
open Go.RowKit Go.Proofs.YtihcollncjcpgaaW.PrintWords Go.Proofs.YtihcollncjcpgaaW.PrintLast Go.Proofs.YtihcollncjcpgaaW.PrintMore
set_option linter.unusedVariables false

set_option maxHeartbeats 8000000 in
set_option maxRecDepth 100000 in
theorem FnDictSet (a0 : Option Addr) (len0 cap0 : Nat) (z0 : List Int) (w : World) (w0 : (a0 = none ∧ len0 = 0 ∧ cap0 = 0 ∧ z0 = []) ∨ ∃ x, a0 = some x ∧ len0 ≤ cap0 ∧ cap0 ≤ maxLen ∧ z0.length = cap0 ∧ (∀ i, i < z0.length → w.cell? (x.add i) = some (.int .u8 (z0.getD i 0))) ∧ ∀ n ∈ z0, (Lit.int .u8 n).wf = true) (y0 : len0 * 1 ≤ 140737488351232) :
    Calls Try.prog 5 #[.slice a0 len0 cap0] w fun e w' => e = .returned (.bool true) ∧ Below w.heap.size w w' := by
  obtain ⟨l0, rfl, hr0, hm0, hw0, hc0⟩ := ReadsInt.ofRowC w0
  have r0 : Rd (Kd.int .u8) w a0 cap0 l0 := ⟨Kd.C_of_reads (d := (0 : Int)) (h1 := fun _ => rfl) hr0, hc0⟩
  clear w0 hr0
  by_cases hl : l0.length ≤ 1048576
  · obtain ⟨I, E, key, v, h1, hF⟩ := drawSet_ok hw0
    obtain ⟨R, h2, h3, hR⟩ := set_ok (I := I) (E := E) (by have := hF.1; omega) (by have := hF.2; omega) key v
    obtain ⟨x, there, h5⟩ := get_any (I := I) (E := E) (by have := hF.1; omega) (by have := hF.2; omega) key
    rcases hR with ⟨_, rfl⟩ | ⟨hV, hk, hv, ⟨i, hi, hi3, hik, rfl⟩ | ⟨_, _, rfl⟩ | ⟨ha, hlv, D, hD, hDe, hab, hf, hlD, rfl⟩⟩
    · exact set_no (aS r0) hl (aS h1) (aS h2) (aS h3) (aS (sameDict_ok _ _ (by decide) (by decide)))
    · have hb := hV.bounds
      have hJ := hV.put hi hi3 hv
      have hbJ := hJ.bounds
      have hat := putK_at hi v i (by omega)
      have hil : i < (putK E i v).length := by rw [putK_len]; exact hi
      have hval : (rd_T56 (putK E i v) i).f2 = v := by unfold putK; rw [ent_set hi _ _ (by omega), if_pos rfl]
      have h7 := keys_ok hJ
      rw [putK_keys hi] at h7
      have h5' := get_there hJ hk hil (by rw [hat.2]; exact hi3) (by rw [hat.1]; exact hik)
      rw [hval] at h5'
      have hlen : (keysK E).length ≤ 1000 := by rw [keysK_len]; have := lv_le E; omega
      obtain ⟨b, h8, hb8⟩ := isOne_ok (keysK E) (by omega) key
      rw [hb8.mpr (mem_keysK.mpr ⟨i, hi, hi3, hik⟩)] at h8
      exact set_old (aS r0) hl (aS h1) (aS h2) (aS h3) (aS (sameDict_ok _ _ (by omega) (by omega))) (aS h5') (aS (keys_ok hV)) (aS h7) (aS h8) (aS (ok_of hJ)) (aS (sameTexts_ok _ (by omega))) (aS hlen)
    · have hb := hV.bounds
      exact set_no (aS r0) hl (aS h1) (aS h2) (aS h3) (aS (sameDict_ok _ _ (by omega) (by omega)))
    · have hb := hV.bounds
      have hJ := hD.add hk hv hab hf (by omega)
      have hbJ := hJ.bounds
      have hla := addK_last (I := D.1) (E := D.2) key v
      have h7 := keys_ok hJ
      rw [addK_keys hDe key v] at h7
      have h5' := get_there hJ hk hla.1 (by rw [hla.2]; rfl) (by rw [hla.2]; rfl)
      rw [hla.2] at h5'
      have hlen : (keysK E).length ≤ 1000 := by rw [keysK_len]; have := lv_le E; omega
      have hlen2 : (keysK E ++ [key]).length ≤ 1000000 := by rw [List.length_append, List.length_singleton]; omega
      obtain ⟨b, h8, hb8⟩ := isOne_ok (keysK E) (by omega) key
      have hbf : b = false := by
        cases b with
        | false => rfl
        | true =>
          obtain ⟨p, hp, hp3, hpk⟩ := mem_keysK.mp (hb8.mp rfl)
          exact absurd hpk (ha p hp hp3)
      rw [hbf] at h8
      have h5v : Ev (fun k => impl_DictGet.f k (addK D.1 D.2 key v).1 (addK D.1 D.2 key v).2 key) (v, true) := h5'
      exact set_new (aS r0) hl (aS h1) (aS h2) (aS h3) (aS (sameDict_ok _ _ (by omega) (by omega))) (aS h5v) (aS (keys_ok hV)) (aS h7) (aS h8) (aS (ok_of hJ)) (aS (sameTexts_ok _ hlen2)) (aS hlen)
  · have c0 : decide (1048576 < (l0.length : Int)) = true := decide_eq_true (by omega)
    have c1 : decide (1048576 < l0.length) = true := decide_eq_true (by omega)
    clear hl
    go_enter Try.func5, Try.ntmps5
    go_wp2
    go_ret
    exact ⟨rfl, Below.refl _ _⟩
end Go.Proofs.Ytihcollncjcpgaa.P
