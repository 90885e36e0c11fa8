/- The law FnExactDictSet returns true for every dictionary, key and value: the program's DictSet returns what the reference's returns, leaves its argument, and shares no memory with it. Conditions: the arguments read as a dictionary, a text and a number (as the row has them). -/
import Derived.Test.YtihcollncjcpgaaELw
import Derived.Test.YtihcollncjcpgaaEDcx
namespace Go.Proofs.Ytihcollncjcpgaa.E
open Go.RowKit Go.Proofs.YtihcollncjcpgaaW.PrintWords Go.Proofs.YtihcollncjcpgaaW.PrintLast Go.Proofs.YtihcollncjcpgaaW.PrintMore
set_option linter.unusedVariables false

theorem SetRes.few {I : List Int} {E : List S56} {key : ByteArray} {v : Int} {R : List Int × List S56 × Bool} (h : SetRes I E key v R) : R.1.length ≤ 128 ∧ R.2.1.length ≤ 85 := by
  rcases h with ⟨_, rfl⟩ | ⟨hV, hk, hv, ⟨i, hi, h3, _, rfl⟩ | ⟨_, _, rfl⟩ | ⟨ha, hl, D, hD, _, hab, hf, hlv, rfl⟩⟩
  · exact ⟨by decide, by decide⟩
  · have := (hV.put hi h3 hv).bounds; exact ⟨this.2.1, this.2.2⟩
  · exact ⟨hV.bounds.2.1, hV.bounds.2.2⟩
  · have := (hD.add hk hv hab hf (by omega)).bounds; exact ⟨this.2.1, this.2.2⟩
set_option maxHeartbeats 8000000 in
set_option maxRecDepth 100000 in
theorem exact_out {I : List Int} {E : List S87} {key : ByteArray} {v s : Int} {A0 A1 : Option Addr} {c0 c1_ : Nat} {w : World} (r0 : Aside0 (Rd (Kd.int .i64) w A0 c0 I)) (r1 : Aside0 (Rd k87 w A1 c1_ E)) (h1 : Aside0 (Ev (fun k => laws_szDict.f k I E 1048576) s)) (hs : s < 0 ∨ 1048576 < key.size) :
    Calls Try.prog 6 #[.agg #[.slice A0 I.length c0, .slice A1 E.length c1_], .string key, .int .i64 v] w fun e w' => e = .returned (.bool true) ∧ Below w.heap.size w w' := by
  have hu45 := Try.underlying45
  by_cases hk : 1048576 < key.size
  · have b0 : decide (1048576 < (key.size : Int)) = true := decide_eq_true (by omega)
    have b1 : decide (1048576 < key.size) = true := decide_eq_true (by omega)
    clear hs hk
    go_enter Try.func6, Try.ntmps6
    go_wp2_with (first
      | ((with_reducible refine gD 3 ?_); refine boxS (N := 3) (cs := #[.slice A0 I.length c0, .slice A1 E.length c1_]) (t := 45) ?_; intro g1 hg w1 hk hb; have G1 := aS hg; have K1 := aS hk; have B1 := aS hb; clear hg hk hb))
    go_ret
    exact ⟨rfl, tL⟩
  · have b0 : decide (1048576 < (key.size : Int)) = false := decide_eq_false (by omega)
    have b1 : decide (1048576 < key.size) = false := decide_eq_false (by omega)
    have b2 : decide (s < 0) = true := decide_eq_true (by omega)
    clear hs hk
    go_enter Try.func6, Try.ntmps6
    go_wp2_with (first
      | ((with_reducible refine gD 3 ?_); refine boxS (N := 3) (cs := #[.slice A0 I.length c0, .slice A1 E.length c1_]) (t := 45) ?_; intro g1 hg w1 hk hb; have G1 := aS hg; have K1 := aS hk; have B1 := aS hb; clear hg hk hb; obtain ⟨z1, z2, z3, z4⟩ := c2 K1)
      | ((with_reducible refine gC 20 ?_); refine goS (some 23) Try.func20 #[.agg #[.slice A0 I.length c0, .slice A1 E.length c1_], .int .i64 1048576] ?_; refine (cSz h1.out r0 r1 tL).mono ?_; clear z1 z2 z3 z4; rintro e w2 ⟨rfl, B2⟩; refine ⟨_, rfl, ?_⟩))
    go_ret
    exact ⟨rfl, tL⟩
theorem FnExactDictSet {I : List Int} {E : List S87} {key : ByteArray} {v : Int} {A0 A1 : Option Addr} {c0 c1_ : Nat} {w : World} (r0 : Rd (Kd.int .i64) w A0 c0 I) (r1 : Rd k87 w A1 c1_ E) (hI : I.length ≤ maxLen) (hE : E.length ≤ maxLen) (hk : ∀ e ∈ E, e.f0.size ≤ maxLen) :
    Calls Try.prog 6 #[.agg #[.slice A0 I.length c0, .slice A1 E.length c1_], .string key, .int .i64 v] w fun e w' => e = .returned (.bool true) ∧ Below w.heap.size w w' := by
  unfold maxLen at hI hE hk
  obtain ⟨s, h1, hs⟩ := szDict_ok (I := I) (E := E) (by omega) (by omega) (fun e he => by have := hk e he; omega)
  by_cases hout : s < 0 ∨ 1048576 < key.size
  · exact exact_out (aS r0) (aS r1) (aS h1) hout
  · have hl := hs (by omega)
    have h2 := toDict_ok hl.1 hl.2
    have hm : (E.map cvE).length = E.length := List.length_map ..
    generalize E.map cvE = Y at h2 hm
    obtain ⟨R, h4, h3, hR⟩ := set_ok (I := I) (E := Y) (by omega) (by omega) key v
    have hf := hR.few
    obtain ⟨J, F, b⟩ := R
    have hf1 : J.length ≤ 128 := hf.1
    have hf2 : F.length ≤ 85 := hf.2
    exact exact_ok (aS r0) (aS r1) (by omega) (aS h1) (by omega) (aS h2) (aS h3) (aS h4) (aS (eqDict_ok J F (by omega) (by omega))) (aS (eqDict_ok I Y (by omega) (by omega)))
      (aS (markInt_ok (by decide) (by omega))) (aS (markEnt_ok (by omega) (by omega))) (by omega) (aS (markInt_ok (by decide) (by omega))) (aS (markEnt_ok (by omega) (by omega))) (aS (heldDict_ok (by omega) (by omega))) (by omega) (aS (mI_len _ _)) (aS (mE_len _ _))
end Go.Proofs.Ytihcollncjcpgaa.E
