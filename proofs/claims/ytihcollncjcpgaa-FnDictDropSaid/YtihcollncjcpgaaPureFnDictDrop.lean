/- The law FnDictDrop returns true for every code: what is drawn is a dictionary and a key; the program's and the reference's DictDrop return the same; what was dropped is gone, can be set again, and then stands last. Condition: the argument reads as bytes (as the row has it). -/
import Derived.Test.YtihcollncjcpgaaLwDrop
import Derived.Test.YtihcollncjcpgaaDcj
namespace Go.Proofs.Ytihcollncjcpgaa.P
open Go.RowKit Go.Proofs.YtihcollncjcpgaaW.PrintWords Go.Proofs.YtihcollncjcpgaaW.PrintLast Go.Proofs.YtihcollncjcpgaaW.PrintMore
set_option linter.unusedVariables false

theorem keysK_filter (E : List S56) : keysK (E.filter (·.f3)) = keysK E := by
  unfold keysK
  rw [List.filter_filter]
  simp
theorem keysK_app (E : List S56) (key : ByteArray) (v : Int) : keysK (E ++ [nw key v]) = keysK E ++ [key] := by
  unfold keysK
  rw [List.filter_append, List.map_append]
  rfl
theorem ok_of {I : List Int} {E : List S56} (hV : Valid I E) : Ev (fun k => impl_DictOk.f k I E) true := by
  have hb := hV.bounds
  obtain ⟨b, h1, h2⟩ := DictOk_ok (I := I) (E := E) (by omega) (by omega)
  rw [h2.mpr hV] at h1
  exact h1
theorem last_key (l : List ByteArray) (key : ByteArray) : rdOf ByteArray.empty (l ++ [key]) (((l ++ [key]).length : Nat) - 1 : Int) = key := by
  unfold rdOf
  have e : (((l ++ [key]).length : Int) - 1).toNat = l.length := by rw [List.length_append, List.length_singleton]; omega
  rw [e, List.getD_eq_getElem?_getD, List.getElem?_append_right (Nat.le_refl _), Nat.sub_self]
  rfl
/-- A dictionary to which an entry was added: its keys. -/
theorem addK_keys {D : List Int × List S56} {F : List S56} {J : List Int} (h : D = (J, F) ∨ D.2 = F.filter (·.f3)) (key : ByteArray) (v : Int) : keysK (addK D.1 D.2 key v).2 = keysK F ++ [key] := by
  show keysK (D.2 ++ [nw key v]) = _
  rw [keysK_app]
  rcases h with rfl | h
  · rfl
  · rw [h, keysK_filter]
theorem absent_dropped {I : List Int} {E : List S56} (hV : Valid I E) {key : ByteArray} {i : Nat} (hi : i < E.length) (h3 : (rd_T56 E i).f3 = true) (hk : (rd_T56 E i).f0 = key) : Absent (E.set i zE) key := by
  intro j hj hj3 e
  rw [List.length_set] at hj
  rw [ent_set hi zE j (by omega)] at hj3 e
  by_cases hij : (j : Int) = i
  · rw [if_pos hij] at hj3
    exact absurd hj3 (by decide)
  · rw [if_neg hij] at hj3 e
    have := hV.uniq hj hi hj3 h3 (e.trans hk.symm)
    omega
set_option maxHeartbeats 8000000 in
set_option maxRecDepth 100000 in
theorem FnDictDrop (a0 : Option Addr) (len0 cap0 : Nat) (z0 : List Int) (w : World) (w0 : (a0 = none ∧ len0 = 0 ∧ cap0 = 0 ∧ z0 = []) ∨ ∃ x, a0 = some x ∧ len0 ≤ cap0 ∧ cap0 ≤ maxLen ∧ z0.length = cap0 ∧ (∀ i, i < z0.length → w.cell? (x.add i) = some (.int .u8 (z0.getD i 0))) ∧ ∀ n ∈ z0, (Lit.int .u8 n).wf = true) (y0 : len0 * 1 ≤ 140737488351232) :
    Calls Try.prog 3 #[.slice a0 len0 cap0] w fun e w' => e = .returned (.bool true) ∧ Below w.heap.size w w' := by
  obtain ⟨l0, rfl, hr0, hm0, hw0, hc0⟩ := ReadsInt.ofRowC w0
  have r0 : Rd (Kd.int .u8) w a0 cap0 l0 := ⟨Kd.C_of_reads (d := (0 : Int)) (h1 := fun _ => rfl) hr0, hc0⟩
  clear w0 hr0
  by_cases hl : l0.length ≤ 1048576
  · obtain ⟨I, E, key, h1, hF⟩ := drawDrop_ok hw0
    obtain ⟨R, h2, h3, hR⟩ := drop_ok (I := I) (E := E) (by have := hF.1; omega) (by have := hF.2; omega) key
    rcases hR with ⟨_, rfl⟩ | ⟨hV, hk, ⟨_, rfl⟩ | ⟨i, hi, hi3, hik, rfl⟩⟩
    · exact drop_no (aS r0) hl (aS h1) (aS h2) (aS h3) (aS (sameDict_ok _ _ (by decide) (by decide)))
    · have hb := hV.bounds
      exact drop_no (aS r0) hl (aS h1) (aS h2) (aS h3) (aS (sameDict_ok _ _ (by omega) (by omega)))
    · have hb := hV.bounds
      have hD := hV.drop hi hi3 hik
      have ha := absent_dropped hV hi hi3 hik
      have hlv := lv_set hi zE
      rw [if_pos hi3] at hlv
      have hz : (if zE.f3 = true then 1 else 0) = 0 := rfl
      rw [hz] at hlv
      have hlive := hV.live
      revert hD ha hlv h2 h3
      generalize I.set (sl I E key).toNat (-2) = J
      generalize E.set i zE = F
      intro h2 h3 hD ha hlv
      have hbD := hD.bounds
      obtain ⟨R, h6, _, hR⟩ := set_ok (I := J) (E := F) (by omega) (by omega) key 1
      rcases hR with ⟨hn, _⟩ | ⟨_, _, _, ⟨j, hj, hj3, hjk, _⟩ | ⟨_, h40, _⟩ | ⟨_, _, D, hDv, hDe, hab, hf, hlD, rfl⟩⟩
      · exact absurd ⟨hD, hk, by decide, by decide⟩ hn
      · exact absurd hjk (ha j hj hj3)
      · omega
      · have hS := hDv.add (v := 1) hk (by decide) hab hf (by omega)
        have hks := keys_ok hS
        rw [addK_keys hDe key 1] at hks
        have e1 : (keysK F ++ [key]).length = lv F + 1 := by rw [List.length_append, keysK_len]; rfl
        exact drop_yes (aS r0) hl (aS h1) (aS h2) (aS h3) (aS (sameDict_ok _ _ (by omega) (by omega))) (aS (get_absent hD hk ha)) (aS h6) (aS hks) (aS (ok_of hD)) (aS (keys_ok hV))
          (by rw [e1, keysK_len]; omega) (by rw [e1]; omega) (by rw [e1]; omega) (aS (last_key _ _))
  · have c0 : decide (1048576 < (l0.length : Int)) = true := decide_eq_true (by omega)
    have c1 : decide (1048576 < l0.length) = true := decide_eq_true (by omega)
    clear hl
    go_enter Try.func3, Try.ntmps3
    go_wp2
    go_ret
    exact ⟨rfl, Below.refl _ _⟩
end Go.Proofs.Ytihcollncjcpgaa.P
