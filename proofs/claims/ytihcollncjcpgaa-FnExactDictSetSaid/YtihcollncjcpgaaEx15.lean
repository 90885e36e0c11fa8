/- Contracts of the Go functions that the seat's laws reach, one after the other: the machine's call comes to what the plain Lean function beside it says; no conditions but those that each contract names. Laid by this session's program wip/pp.py, which drives the kit's printer. -/
import Derived.Test.YtihcollncjcpgaaEx0
import Derived.Test.YtihcollncjcpgaaEx14
namespace Go.Proofs.Ytihcollncjcpgaa.E
open Go.RowKit Go.Proofs.YtihcollncjcpgaaW.PrintWords Go.Proofs.YtihcollncjcpgaaW.PrintLast Go.Proofs.YtihcollncjcpgaaW.PrintMore
attribute [local go_sem] max2_int min2_int max_two min_two max_three min_three max_four min_four   -- for this text's walks alone
set_option linter.unusedVariables false
set_option linter.unusedSimpArgs false

/-! ### laws_heldDict: function 24 -/
def laws_heldDict.f (k : Nat) (l0_0 : List Int) (l0_1 : List (S56)) (a1 : Int) : Option (Int) := (laws_heldIntS.f k l0_0 a1).bind fun t346 => (if t346 < 0 then (some (-1)) else ((laws_heldEntryS.f k l0_1 t346).bind fun t347 => (if t347 < 0 then (some (-1)) else (some t347))))
theorem laws_heldDict.mono : ∀ a0 a1 a2 k, LeO (laws_heldDict.f k a0 a1 a2) (laws_heldDict.f (k + 1) a0 a1 a2) := by
 intro a0 a1 a2 k
 unfold laws_heldDict.f
 have m0_ := @laws_heldEntryS.mono; have m1_ := @laws_heldIntS.mono; exact tM
set_option maxHeartbeats 8000000 in
set_option maxRecDepth 100000 in
theorem laws_heldDict.calls (k : Nat) (A0_0 : Option Addr) (c0_0 : Nat) (l0_0 : List Int) (A0_1 : Option Addr) (c0_1 : Nat) (l0_1 : List (S56)) (a1 : Int) (r : Int) (w : World) (hr0_0 : Kd.C (Kd.int .i64) w A0_0 l0_0.length l0_0) (hc0_0 : l0_0.length ≤ c0_0) (hr0_1 : Kd.C k56 w A0_1 l0_1.length l0_1) (hc0_1 : l0_1.length ≤ c0_1) (h : laws_heldDict.f k l0_0 l0_1 a1 = some r) :
 Calls Try.prog 24 #[.agg #[.slice A0_0 l0_0.length c0_0, .slice A0_1 l0_1.length c0_1], .int .i64 a1] w fun e w' => e = .returned (.int .i64 r) ∧ Below w.heap.size w w' := by
 have hu26 := Try.underlying26; have HR0_0 := aS hr0_0; have HC0_0 := aS hc0_0; clear hr0_0 hc0_0; have HR0_1 := aS hr0_1; have HC0_1 := aS hc0_1; clear hr0_1 hc0_1; have HB := aS (Below.refl w.heap.size w); have H : ((laws_heldIntS.f k l0_0 a1).bind fun t346 => (if t346 < 0 then (some (-1)) else ((laws_heldEntryS.f k l0_1 t346).bind fun t347 => (if t347 < 0 then (some (-1)) else (some t347))))) = some r := h; clear h; replace H := oB H; obtain ⟨t346, A30, H⟩ := H; replace H : (if t346 < 0 then (some (-1)) else ((laws_heldEntryS.f k l0_1 t346).bind fun t347 => (if t347 < 0 then (some (-1)) else (some t347)))) = some r := H; have A3 := aS A30; clear A30; by_cases c4 : t346 < 0
 · rw [if_pos c4] at H; have c4b0 : decide (t346 < 0) = true := decide_eq_true c4; clear c4; obtain rfl := oI H
   go_enter Try.func24, Try.ntmps24
   go_wp2_with (first | ((with_reducible refine gD 2 ?_); refine boxS (N := 2) (cs := #[.slice A0_0 l0_0.length c0_0, .slice A0_1 l0_1.length c0_1]) (t := 26) ?_; intro gb345 hg w5 hbox hb; have BK345 := aS (hbox); have GW345 := gW (w := w) hg tB; have GE345 := GW345; replace HB := aS (below_step tB hb); clear hb hbox hg; have hcz6_0 := cA BK345 0; have hcz6_1 := cA BK345 1; have hfz6_0 := bF BK345 0; have hfz6_1 := bF BK345 1) | ((with_reducible refine gC 59 ?_); refine goS (some 8) Try.func59 #[.slice A0_0 l0_0.length c0_0, .int .i64 a1] ?_; (with_reducible refine (laws_heldIntS.calls k _ _ l0_0 a1 t346 _ ?side1 ?side2 A3.out).mono ?_); (case side1 => exact tC (Kd.C_below HR0_0.out HB.out)); (case side2 => exact HC0_0.out); rintro e w' ⟨rfl, ⟨nd, rfl⟩⟩; refine ⟨_, rfl, ?_⟩))
   go_ret; exact ⟨tE, tB⟩
 rw [if_neg c4] at H; have c4b0 : decide (t346 < 0) = false := decide_eq_false c4; clear c4; replace H := oB H; obtain ⟨t347, A70, H⟩ := H; replace H : (if t347 < 0 then (some (-1)) else (some t347)) = some r := H; have A7 := aS A70; clear A70; by_cases c8 : t347 < 0
 · rw [if_pos c8] at H; have c8b0 : decide (t347 < 0) = true := decide_eq_true c8; clear c8; obtain rfl := oI H
   go_enter Try.func24, Try.ntmps24
   go_wp2_with (first | ((with_reducible refine gD 2 ?_); refine boxS (N := 2) (cs := #[.slice A0_0 l0_0.length c0_0, .slice A0_1 l0_1.length c0_1]) (t := 26) ?_; intro gb345 hg w9 hbox hb; have BK345 := aS (hbox); have GW345 := gW (w := w) hg tB; have GE345 := GW345; replace HB := aS (below_step tB hb); clear hb hbox hg; have hcz10_0 := cA BK345 0; have hcz10_1 := cA BK345 1; have hfz10_0 := bF BK345 0; have hfz10_1 := bF BK345 1) | ((with_reducible refine gC 59 ?_); refine goS (some 8) Try.func59 #[.slice A0_0 l0_0.length c0_0, .int .i64 a1] ?_; (with_reducible refine (laws_heldIntS.calls k _ _ l0_0 a1 t346 _ ?side1 ?side2 A3.out).mono ?_); (case side1 => exact tC (Kd.C_below HR0_0.out HB.out)); (case side2 => exact HC0_0.out); rintro e w' ⟨rfl, ⟨nd, rfl⟩⟩; refine ⟨_, rfl, ?_⟩) | ((with_reducible refine gC 60 ?_); refine goS (some 14) Try.func60 #[.slice A0_1 l0_1.length c0_1, .int .i64 t346] ?_; (with_reducible refine (laws_heldEntryS.calls k _ _ l0_1 t346 t347 _ ?side1 ?side2 A7.out).mono ?_); (case side1 => exact tC (Kd.C_below HR0_1.out tB)); (case side2 => exact HC0_1.out); rintro e w11 ⟨rfl, hb⟩; refine ⟨_, rfl, ?_⟩; replace BK345 := bB BK345 hb; replace HB := aS (below_step tB hb); clear hb))
   go_ret; exact ⟨tE, tB⟩
 rw [if_neg c8] at H; have c8b0 : decide (t347 < 0) = false := decide_eq_false c8; clear c8; obtain rfl := oI H
 go_enter Try.func24, Try.ntmps24
 go_wp2_with (first | ((with_reducible refine gD 2 ?_); refine boxS (N := 2) (cs := #[.slice A0_0 l0_0.length c0_0, .slice A0_1 l0_1.length c0_1]) (t := 26) ?_; intro gb345 hg w12 hbox hb; have BK345 := aS (hbox); have GW345 := gW (w := w) hg tB; have GE345 := GW345; replace HB := aS (below_step tB hb); clear hb hbox hg; have hcz13_0 := cA BK345 0; have hcz13_1 := cA BK345 1; have hfz13_0 := bF BK345 0; have hfz13_1 := bF BK345 1) | ((with_reducible refine gC 59 ?_); refine goS (some 8) Try.func59 #[.slice A0_0 l0_0.length c0_0, .int .i64 a1] ?_; (with_reducible refine (laws_heldIntS.calls k _ _ l0_0 a1 t346 _ ?side1 ?side2 A3.out).mono ?_); (case side1 => exact tC (Kd.C_below HR0_0.out HB.out)); (case side2 => exact HC0_0.out); rintro e w' ⟨rfl, ⟨nd, rfl⟩⟩; refine ⟨_, rfl, ?_⟩) | ((with_reducible refine gC 60 ?_); refine goS (some 14) Try.func60 #[.slice A0_1 l0_1.length c0_1, .int .i64 t346] ?_; (with_reducible refine (laws_heldEntryS.calls k _ _ l0_1 t346 t347 _ ?side1 ?side2 A7.out).mono ?_); (case side1 => exact tC (Kd.C_below HR0_1.out tB)); (case side2 => exact HC0_1.out); rintro e w14 ⟨rfl, hb⟩; refine ⟨_, rfl, ?_⟩; replace BK345 := bB BK345 hb; replace HB := aS (below_step tB hb); clear hb))
 go_ret; exact ⟨tE, tB⟩

end Go.Proofs.Ytihcollncjcpgaa.E
