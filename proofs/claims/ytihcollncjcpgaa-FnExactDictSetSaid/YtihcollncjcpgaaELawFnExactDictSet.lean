/- The row of the law FnExactDictSet: called with any dictionary, text and number it returns true, and all that was there reads as it did. Condition: the row's own (none typed). -/
import Derived.Test.YtihcollncjcpgaaRows
import Derived.Test.YtihcollncjcpgaaEPureFnExactDictSet
import Derived.Test.YtihcollncjcpgaaEOpn
import Derived.WalkKit
import Derived.ProofKit
import Derived.OpenShut
import Derived.ShutString
import Derived.ChangeOld
import Derived.Below
import Derived.SizedLaws
import Derived.Test.YtihcollncjcpgaaV
namespace Go.Proofs.Ytihcollncjcpgaa.fnExactDictSet
open Go.ChangeShapes Go.WideShapes Go.ChangeAt Go.RowKit
open Go.ChangeMaps (open_string shut_string)
open Go.Proofs.YtihcollncjcpgaaW.PrintWords E
set_option linter.unusedVariables false
theorem own : ownKnob Try.prog.godebug = none := by kernel_rfl
theorem laidOut : laidOutB Try.prog = true := by kernel_rfl
section
variable {H : Type} {enc : TypeId × Value → H} {W : World} {base : Nat} {spare : Nat → Bool} {held : Bool}
theorem opnE : Opn enc Try.prog W base spare held 87 k87 (fun e => e.f0.size ≤ maxLen) :=
  opn_iso (fun p => (⟨p.1, p.2.1, p.2.2.1, p.2.2.2⟩ : S87)) (fun _ => rfl)
    ((opn_struct Try.underlying87 (by kernel_rfl) (opnF_cons rfl rfl (by kernel_rfl) rfl (opn_string Try.underlying9) (opnF_cons rfl rfl (by kernel_rfl) rfl (opn_int Try.underlying3) (opnF_cons rfl rfl (by kernel_rfl) rfl (opn_int Try.underlying3) (opnF_one rfl rfl (by kernel_rfl) (opn_bool Try.underlying4)))))).imp fun a h => h.1)
theorem opnD : Opn enc Try.prog W base spare held 45 (Kd.pair (Kd.slice 3 (Kd.int .i64)) (Kd.slice 87 k87)) (fun p => p.1.length ≤ maxLen ∧ p.2.length ≤ maxLen ∧ ∀ e ∈ p.2, e.f0.size ≤ maxLen) :=
  (opn_struct Try.underlying45 (by kernel_rfl) (opnF_cons rfl rfl (by kernel_rfl) rfl (opn_slice Try.underlying23 (by kernel_rfl) (opn_int Try.underlying3)) (opnF_one rfl rfl (by kernel_rfl) (opn_slice Try.underlying43 (by kernel_rfl) opnE)))).imp fun a h => ⟨h.1.1, h.2.1, h.2.2⟩
end
set_option maxRecDepth 100000 in
theorem lifted (os : Os) (started : os.Started) (H : Type) (enc : TypeId × Value → H) :
    ReturnsInHanded {} Try.checked os 6 .any (Rows.fnExactDictSetSpec.pre6 enc Try.prog Try.f6 Rows.fnExactDictSetRow.domain false) (Rows.fnExactDictSetSpec.post enc Try.prog Try.f6 false true false false) := by
  refine returnsInHanded_of_change_sized (C := Try.checked) own started (by kernel_rfl) Try.func6
    (ChangeSpec.witness6 (enc := enc) (C := Try.checked) false ⟨#[], #[.agg #[.slice none 0 0, .slice none 0 0], .string ⟨#[]⟩, .int .i64 0], []⟩ 8 (by kernel_rfl) (by kernel_rfl) (by kernel_rfl) (by kernel_rfl)) ?_
  intro W base args ds gs before hval0 hW hcnd hsz0 _
  have hval : ∀ (j : Nat) t v, Try.f6.params[j]? = some t → args[j]? = some v → Value.okWide Try.prog W .any base t v := hval0
  have hW' := hW
  obtain ⟨p, q, hA0, hV, rfl, hfz, hnd⟩ := hW
  have hA : DataW.TrodAll enc Try.prog W 0 (fun _ => true) true Try.f6.params.toList args.toList ds p := hA0
  rw [Try.params6] at hA hval
  obtain ⟨v0, vs0, d0, ds0, p0, q0, hargs, rfl, rfl, h0, r0⟩ := trodAll_cons hA
  obtain ⟨v1, vs1, d1, ds1, p1, q1, hargs1, rfl, rfl, h1, r1⟩ := trodAll_cons r0
  obtain ⟨v2, vs2, d2, ds2, p2, q2, hargs2, rfl, rfl, h2, r2⟩ := trodAll_cons r1
  obtain ⟨rfl, rfl, rfl⟩ := trodAll_nil r2
  obtain rfl : args = #[v0, v1, v2] := by cases args; simp_all
  obtain ⟨rfl, rfl⟩ := trodVars_none hV
  obtain ⟨cs, rfl, hcs⟩ := okWide_struct Try.underlying45 (hval 0 45 v0 rfl rfl)
  obtain ⟨key, rfl⟩ := okWide_string Try.underlying9 (hval 1 9 v1 rfl rfl)
  obtain ⟨x, rfl⟩ := okWide_int Try.underlying3 (hval 2 3 v2 rfl rfl)
  have k0 := h0
  have k1 := h1
  have k2 := h2
  have lt0 : ∀ x ∈ p0, x.block < W.heap.size := by obtain ⟨m, hm⟩ := k0; exact DataW.trod_lt m _ _ _ hm
  have lt1 : ∀ x ∈ p1, x.block < W.heap.size := by obtain ⟨m, hm⟩ := k1; exact DataW.trod_lt m _ _ _ hm
  have lt2 : ∀ x ∈ p2, x.block < W.heap.size := by obtain ⟨m, hm⟩ := k2; exact DataW.trod_lt m _ _ _ hm
  obtain ⟨fuel, hf⟩ := h0
  obtain ⟨a, hK, hl1, hl2, hl3⟩ := opnD _ _ _ hf
  obtain ⟨c0, c1, hc, ⟨A0, n0, rfl, hn0, hC0⟩, ⟨A1, n1, rfl, hn1, hC1⟩⟩ := hK
  have hcs2 : cs = #[.slice A0 a.1.length n0, .slice A1 a.2.length n1] := by
    have : cs.toList = [.slice A0 a.1.length n0, .slice A1 a.2.length n1] := hc
    rw [← Array.toList_inj]
    exact this
  subst hcs2
  clear hA0 hval0 hsz0 hcs hc hf
  refine (FnExactDictSet (key := key) (v := x) (⟨hC0, hn0⟩ : Rd (Kd.int .i64) W A0 n0 a.1) (⟨hC1, hn1⟩ : Rd k87 W A1 n1 a.2) hl1 hl2 hl3).mono fun e W' ⟨he, bel⟩ => ?_
  subst he
  exact ⟨_, rfl, _, _, _, [], _, [], hW', trodAll_mk1 (shut_bool Try.underlying4 _), (trodAll_cons_mk (Below.trod laidOut (by kernel_rfl) (of_decide_eq_true (by kernel_rfl)) k0 bel lt0) (trodAll_cons_mk (Below.trod laidOut (by kernel_rfl) (of_decide_eq_true (by kernel_rfl)) k1 bel lt1) (trodAll_cons_mk (Below.trod laidOut (by kernel_rfl) (of_decide_eq_true (by kernel_rfl)) k2 bel lt2) trodAll_mk0))), rfl, bel.frame _, fun h => by cases h⟩
theorem over : Rows.fnExactDictSetRow.holds Try.pinned (OpenSpec.ofChange Rows.fnExactDictSetSpec) :=
  OpenClaim.holds_of_wide 6 Try.f6 rfl rfl rfl rfl rfl rfl rfl ⟨rfl, rfl, rfl, rfl, rfl⟩ rfl rfl rfl rfl rfl (by kernel_rfl) Try.func6 (by kernel_rfl)
    (of_decide_eq_true (by kernel_rfl)) (by unfold Func.isWrapper; first | (rw [if_pos (by decide +kernel)]; kernel_rfl) | (rw [if_neg (by decide +kernel)]; exact ⟨rfl, rfl⟩))
    (fun os started H enc _ => lifted os started H enc)
theorem proved : Rows.FnExactDictSetSaid := over
#print axioms proved
end Go.Proofs.Ytihcollncjcpgaa.fnExactDictSet
namespace Go.Proofs.Ytihcollncjcpgaa
/-- The row, under a short name, for the claim. -/
theorem fnExactDictSet_holds : Rows.FnExactDictSetSaid := fnExactDictSet.proved
end Go.Proofs.Ytihcollncjcpgaa
