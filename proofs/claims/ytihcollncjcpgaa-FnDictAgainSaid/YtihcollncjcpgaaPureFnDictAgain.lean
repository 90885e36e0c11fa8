/- The law FnDictAgain returns true for every code: setting again leaves the place. Condition: the argument reads as bytes (as the row has it). -/
import Derived.Test.YtihcollncjcpgaaLwAgain
import Derived.Test.YtihcollncjcpgaaDck
namespace Go.Proofs.Ytihcollncjcpgaa.P
open Go.RowKit Go.Proofs.YtihcollncjcpgaaW.PrintWords Go.Proofs.YtihcollncjcpgaaW.PrintLast Go.Proofs.YtihcollncjcpgaaW.PrintMore
set_option linter.unusedVariables false

/-- A key that is there is set again. -/
theorem again_ok {l0 I J : List Int} {E F : List S56} {key : ByteArray} {v : Int} {A0 : Option Addr} {c0 : Nat} {w : World} (r0 : Aside0 (Rd (Kd.int .u8) w A0 c0 l0)) (hl : l0.length ≤ 1048576)
    (h1 : Aside0 (Ev (fun k => spec_DrawDictSet.f k l0) (I, E, key, v))) (h2 : Aside0 (Ev (fun k => impl_DictSet.f k I E key v) (J, F, true))) (h3 : Aside0 (Ev (fun k => spec_DictSet.f k I E key v) (J, F, true)))
    (hJ : Valid J F) (hk : key.size ≤ 20) (hv : -1000000 ≤ v ∧ v ≤ 1000000) {i : Nat} (hi : i < F.length) (hi3 : (rd_T56 F i).f3 = true) (hik : (rd_T56 F i).f0 = key) :
    Calls Try.prog 4 #[.slice A0 l0.length c0] w fun e w' => e = .returned (.bool true) ∧ Below w.heap.size w w' := by
  have hb := hJ.bounds
  have h4 := aS (sameDict_ok J F (by omega) (by omega))
  obtain ⟨R, h6, _, hR⟩ := set_ok (I := J) (E := F) (by omega) (by omega) key (v + 1)
  rcases hR with ⟨hn, rfl⟩ | ⟨_, _, hv1, ⟨j, hj, hj3, hjk, rfl⟩ | ⟨hab, _, _⟩ | ⟨hab, _⟩⟩
  · obtain ⟨x, there, h7⟩ := get_any (I := ([] : List Int)) (E := ([] : List S56)) (by decide) (by decide) key
    have : ¬ v + 1 ≤ 1000000 := fun h => hn ⟨hJ, hk, by omega, h⟩
    exact again_big r0 hl h1 h2 h3 h4 (aS h6) (aS h7) (by omega) hv.2
  · have hji := hJ.uniq hj hi hj3 hi3 (hjk.trans hik.symm)
    subst hji
    have hS := hJ.put hi hi3 hv1
    have hat := putK_at hi (v + 1) j (by omega)
    have hjl : j < (putK F j (v + 1)).length := by rw [putK_len]; exact hi
    have h7 := get_there hS hk hjl (by rw [hat.2]; exact hi3) (by rw [hat.1]; exact hik)
    rw [show (rd_T56 (putK F j (v + 1)) j).f2 = v + 1 by unfold putK; rw [ent_set hi _ _ (by omega), if_pos rfl]] at h7
    have h8 := keys_ok hS
    rw [putK_keys hi] at h8
    have hlen : (keysK F).length ≤ 1000000 := by rw [keysK_len]; have := lv_le F; omega
    exact again_yes r0 hl h1 h2 h3 h4 (aS h6) (aS h7) (aS h8) (aS (keys_ok hJ)) (aS (sameTexts_ok _ hlen)) (aS (putK_len _ _ _)) hv.1 hv.2
  · exact absurd hik (hab i hi hi3)
  · exact absurd hik (hab i hi hi3)
set_option maxHeartbeats 8000000 in
set_option maxRecDepth 100000 in
theorem FnDictAgain (a0 : Option Addr) (len0 cap0 : Nat) (z0 : List Int) (w : World) (w0 : (a0 = none ∧ len0 = 0 ∧ cap0 = 0 ∧ z0 = []) ∨ ∃ x, a0 = some x ∧ len0 ≤ cap0 ∧ cap0 ≤ maxLen ∧ z0.length = cap0 ∧ (∀ i, i < z0.length → w.cell? (x.add i) = some (.int .u8 (z0.getD i 0))) ∧ ∀ n ∈ z0, (Lit.int .u8 n).wf = true) (y0 : len0 * 1 ≤ 140737488351232) :
    Calls Try.prog 4 #[.slice a0 len0 cap0] w fun e w' => e = .returned (.bool true) ∧ Below w.heap.size w w' := by
  obtain ⟨l0, rfl, hr0, hm0, hw0, hc0⟩ := ReadsInt.ofRowC w0
  have r0 : Rd (Kd.int .u8) w a0 cap0 l0 := ⟨Kd.C_of_reads (d := (0 : Int)) (h1 := fun _ => rfl) hr0, hc0⟩
  clear w0 hr0
  by_cases hl : l0.length ≤ 1048576
  · obtain ⟨I, E, key, v, h1, hF⟩ := drawSet_ok hw0
    obtain ⟨R, h2, h3, hR⟩ := set_ok (I := I) (E := E) (by have := hF.1; omega) (by have := hF.2; omega) key v
    obtain ⟨x, there, h5⟩ := get_any (I := I) (E := E) (by have := hF.1; omega) (by have := hF.2; omega) key
    rcases hR with ⟨_, rfl⟩ | ⟨hV, hk, hv, ⟨i, hi, hi3, hik, rfl⟩ | ⟨_, _, rfl⟩ | ⟨ha, hlv, D, hD, hDe, hab, hf, hlD, rfl⟩⟩
    · exact again_no (aS r0) hl (aS h1) (aS h2) (aS h3) (aS (sameDict_ok _ _ (by decide) (by decide)))
    · have hb := hV.bounds
      have hJ := hV.put hi hi3 hv
      have hbJ := hJ.bounds
      have hat := putK_at hi v i (by omega)
      have hil : i < (putK E i v).length := by rw [putK_len]; exact hi
      have hval : (rd_T56 (putK E i v) i).f2 = v := by unfold putK; rw [ent_set hi _ _ (by omega), if_pos rfl]
      exact again_ok (aS r0) hl (aS h1) (aS h2) (aS h3) hJ hk hv hil (by rw [hat.2]; exact hi3) (by rw [hat.1]; exact hik)
    · have hb := hV.bounds
      exact again_no (aS r0) hl (aS h1) (aS h2) (aS h3) (aS (sameDict_ok _ _ (by omega) (by omega)))
    · have hb := hV.bounds
      have hJ := hD.add hk hv hab hf (by omega)
      have hbJ := hJ.bounds
      have hla := addK_last (I := D.1) (E := D.2) key v
      exact again_ok (aS r0) hl (aS h1) (aS h2) (aS h3) hJ hk hv hla.1 (by rw [hla.2]; rfl) (by rw [hla.2]; rfl)
  · have c0 : decide (1048576 < (l0.length : Int)) = true := decide_eq_true (by omega)
    have c1 : decide (1048576 < l0.length) = true := decide_eq_true (by omega)
    clear hl
    go_enter Try.func4, Try.ntmps4
    go_wp2
    go_ret
    exact ⟨rfl, Below.refl _ _⟩
end Go.Proofs.Ytihcollncjcpgaa.P
