/- Contracts of the Go functions that the seat's laws reach, one after the other: the machine's call comes to what the plain Lean function beside it says; no conditions but those that each contract names. Laid by this session's program wip/pp.py, which drives the kit's printer. -/
import Derived.Test.YtihcollncjcpgaaEx0
namespace Go.Proofs.Ytihcollncjcpgaa.E
open Go.RowKit Go.Proofs.YtihcollncjcpgaaW.PrintWords Go.Proofs.YtihcollncjcpgaaW.PrintLast Go.Proofs.YtihcollncjcpgaaW.PrintMore
attribute [local go_sem] max2_int min2_int max_two min_two max_three min_three max_four min_four   -- for this text's walks alone
set_option linter.unusedVariables false
set_option linter.unusedSimpArgs false

/-! ### laws_szIntS: function 51 -/
def laws_szIntS.f (l0 : List Int) (a1 : Int) : Option (Int) := if (wrap64 (a1 - (l0.length : Int))) < 0 then (some (-1)) else (some (wrap64 (a1 - (l0.length : Int))))
set_option maxHeartbeats 8000000 in
set_option maxRecDepth 100000 in
theorem laws_szIntS.calls (A0 : Option Addr) (c0 : Nat) (l0 : List Int) (a1 : Int) (r : Int) (w : World) (hr0 : Kd.C (Kd.int .i64) w A0 l0.length l0) (hc0 : l0.length ≤ c0) (h : laws_szIntS.f l0 a1 = some r) :
 Calls Try.prog 51 #[.slice A0 l0.length c0, .int .i64 a1] w fun e w' => e = .returned (.int .i64 r) ∧ Drawn0 w w' := by
 have HR0 := aS hr0; have HC0 := aS hc0; clear hr0 hc0; have H : (if (wrap64 (a1 - (l0.length : Int))) < 0 then (some (-1)) else (some (wrap64 (a1 - (l0.length : Int))))) = some r := h; clear h; by_cases c3 : (wrap64 (a1 - (l0.length : Int))) < 0
 · rw [if_pos c3] at H; have c3b0 : decide ((wrap64 (a1 - (l0.length : Int))) < 0) = true := decide_eq_true c3; clear c3; obtain rfl := oI H
   go_enter Try.func51, Try.ntmps51
   go_wp2; go_ret; exact ⟨by first | rfl | (simp; done) | (simp [*]; done), by repeat (first | exact Drawn0.refl _ | apply Drawn0.step)⟩
 rw [if_neg c3] at H; have c3b0 : decide ((wrap64 (a1 - (l0.length : Int))) < 0) = false := decide_eq_false c3; clear c3; obtain rfl := oI H
 go_enter Try.func51, Try.ntmps51
 go_wp2; go_ret; exact ⟨by first | rfl | (simp; done) | (simp [*]; done), by repeat (first | exact Drawn0.refl _ | apply Drawn0.step)⟩

/-! ### laws_szEntry: function 75 -/
def laws_szEntry.f (a0_0 : ByteArray) (a0_1 : Int) (a0_2 : Int) (a0_3 : Bool) (a1 : Int) : Option (Int) := if (wrap64 (a1 - (a0_0.size : Int))) < 0 then (some (-1)) else (some (wrap64 (a1 - (a0_0.size : Int))))
set_option maxHeartbeats 8000000 in
set_option maxRecDepth 100000 in
theorem laws_szEntry.calls (a0_0 : ByteArray) (a0_1 : Int) (a0_2 : Int) (a0_3 : Bool) (a1 : Int) (r : Int) (w : World) (h : laws_szEntry.f a0_0 a0_1 a0_2 a0_3 a1 = some r) :
 Calls Try.prog 75 #[.agg #[.string a0_0, .int .i64 a0_1, .int .i64 a0_2, .bool a0_3], .int .i64 a1] w fun e w' => e = .returned (.int .i64 r) ∧ Below w.heap.size w w' := by
 have hu87 := Try.underlying87; have HB := aS (Below.refl w.heap.size w); have H : (if (wrap64 (a1 - (a0_0.size : Int))) < 0 then (some (-1)) else (some (wrap64 (a1 - (a0_0.size : Int))))) = some r := h; clear h; by_cases c3 : (wrap64 (a1 - (a0_0.size : Int))) < 0
 · rw [if_pos c3] at H; have c3b0 : decide ((wrap64 (a1 - (a0_0.size : Int))) < 0) = true := decide_eq_true c3; clear c3; obtain rfl := oI H
   go_enter Try.func75, Try.ntmps75
   go_wp2_with (first | ((with_reducible refine gD 2 ?_); refine boxS (N := 2) (cs := #[.string a0_0, .int .i64 a0_1, .int .i64 a0_2, .bool a0_3]) (t := 87) ?_; intro gb287 hg w4 hbox hb; have BK287 := aS (hbox); have GW287 := gW (w := w) hg tB; have GE287 := GW287; replace HB := aS (below_step tB hb); clear hb hbox hg; have hcz5_0 := cA BK287 0; have hcz5_1 := cA BK287 1; have hcz5_2 := cA BK287 2; have hcz5_3 := cA BK287 3; have hfz5_0 := bF BK287 0; have hfz5_1 := bF BK287 1; have hfz5_2 := bF BK287 2; have hfz5_3 := bF BK287 3))
   go_ret; exact ⟨tE, tB⟩
 rw [if_neg c3] at H; have c3b0 : decide ((wrap64 (a1 - (a0_0.size : Int))) < 0) = false := decide_eq_false c3; clear c3; obtain rfl := oI H
 go_enter Try.func75, Try.ntmps75
 go_wp2_with (first | ((with_reducible refine gD 2 ?_); refine boxS (N := 2) (cs := #[.string a0_0, .int .i64 a0_1, .int .i64 a0_2, .bool a0_3]) (t := 87) ?_; intro gb287 hg w6 hbox hb; have BK287 := aS (hbox); have GW287 := gW (w := w) hg tB; have GE287 := GW287; replace HB := aS (below_step tB hb); clear hb hbox hg; have hcz7_0 := cA BK287 0; have hcz7_1 := cA BK287 1; have hcz7_2 := cA BK287 2; have hcz7_3 := cA BK287 3; have hfz7_0 := bF BK287 0; have hfz7_1 := bF BK287 1; have hfz7_2 := bF BK287 2; have hfz7_3 := bF BK287 3))
 go_ret; exact ⟨tE, tB⟩

/-! ### laws_szEntryS: function 52 -/
def laws_szEntryS.l0 : Nat → List (S87) → Int → Int → Option (Int)
 | 0, _, _, _ => none
 | k + 1, x0, x1, x5 => if x5 < (x0.length : Int) then (if 0 ≤ x5 then ((laws_szEntry.f ((rd_T87 x0 x5).f0) ((rd_T87 x0 x5).f1) ((rd_T87 x0 x5).f2) ((rd_T87 x0 x5).f3) x1).bind fun t289 => (if t289 < 0 then (some (-1)) else (laws_szEntryS.l0 k x0 t289 (wrap64 (x5 + 1))))) else (none)) else (some x1)
def laws_szEntryS.f (k : Nat) (l0 : List (S87)) (a1 : Int) : Option (Int) := if (wrap64 (a1 - (l0.length : Int))) < 0 then (some (-1)) else (laws_szEntryS.l0 k l0 (wrap64 (a1 - (l0.length : Int))) 0)
theorem laws_szEntryS.mono_l : ∀ k, (∀ y0 y1 y2, LeO (laws_szEntryS.l0 k y0 y1 y2) (laws_szEntryS.l0 (k + 1) y0 y1 y2))
 | 0 => fun _ _ _ r h => by simp [laws_szEntryS.l0] at h
 | k + 1 => by
  have ih0 := laws_szEntryS.mono_l k; intro y0 y1 y2
  unfold laws_szEntryS.l0
  exact tM
theorem laws_szEntryS.mono : ∀ a0 a1 k, LeO (laws_szEntryS.f k a0 a1) (laws_szEntryS.f (k + 1) a0 a1) := by
 intro a0 a1 k; have ih0 := laws_szEntryS.mono_l k
 unfold laws_szEntryS.f
 exact tM
set_option maxHeartbeats 8000000 in
set_option maxRecDepth 100000 in
theorem laws_szEntryS.calls (k : Nat) (A0 : Option Addr) (c0 : Nat) (l0 : List (S87)) (a1 : Int) (r : Int) (w : World) (hr0 : Kd.C k87 w A0 l0.length l0) (hc0 : l0.length ≤ c0) (h : laws_szEntryS.f k l0 a1 = some r) :
 Calls Try.prog 52 #[.slice A0 l0.length c0, .int .i64 a1] w fun e w' => e = .returned (.int .i64 r) ∧ Below w.heap.size w w' := by
 have hu87 := Try.underlying87; have HR0 := aS hr0; have HC0 := aS hc0; clear hr0 hc0; have HB := aS (Below.refl w.heap.size w); have H : (if (wrap64 (a1 - (l0.length : Int))) < 0 then (some (-1)) else (laws_szEntryS.l0 k l0 (wrap64 (a1 - (l0.length : Int))) 0)) = some r := h; clear h; by_cases c3 : (wrap64 (a1 - (l0.length : Int))) < 0
 · rw [if_pos c3] at H; have c3b0 : decide ((wrap64 (a1 - (l0.length : Int))) < 0) = true := decide_eq_true c3; clear c3; obtain rfl := oI H
   go_enter Try.func52, Try.ntmps52
   go_wp2; go_ret; exact ⟨tE, tB⟩
 rw [if_neg c3] at H; have c3b0 : decide ((wrap64 (a1 - (l0.length : Int))) < 0) = false := decide_eq_false c3; clear c3; have H' := aS H; clear H
 go_enter Try.func52, Try.ntmps52
 go_wp2
 go_loopg [1, 5] k (fun kq v1 v5 w' => ∃ (x1_1 : Int) (x5_1 : Int), v1 = .int .i64 x1_1 ∧ v5 = .int .i64 x5_1 ∧ Aside0 (laws_szEntryS.l0 kq l0 x1_1 x5_1 = some r) ∧ Aside0 (kq ≤ k) ∧ Aside0 (Below w.heap.size w w'))
 case atStart => exact ⟨(wrap64 (a1 - (l0.length : Int))), (0), tX, tX, H', ⟨Nat.le_refl _⟩, ⟨tB⟩⟩
 case round =>
  clear H'
  try clear c3b0
  obtain ⟨x1_1, x5_1, rfl, rfl, HA, HK1, HB⟩ := hrel
  cases gk with
  | zero => exact absurd HA.out (by simp [laws_szEntryS.l0])
  | succ k1 =>
   have H := HA.out; clear HA; simp only [laws_szEntryS.l0] at H; by_cases c4 : x5_1 < (l0.length : Int)
   · rw [if_pos c4] at H; have c4b0 : decide (x5_1 < (l0.length : Int)) = true := decide_eq_true c4; clear c4; by_cases c5 : 0 ≤ x5_1
     case neg =>
      rw [if_neg c5] at H; exact nS H
     rw [if_pos c5] at H; have c5b0 : decide (0 ≤ x5_1) = true := decide_eq_true c5; clear c5; replace H := oB H; obtain ⟨t289, A60, H⟩ := H; replace H : (if t289 < 0 then (some (-1)) else (laws_szEntryS.l0 k1 l0 t289 (wrap64 (x5_1 + 1)))) = some r := H; have A6 := aS A60; clear A60; by_cases c7 : t289 < 0
     · rw [if_pos c7] at H; have c7b0 : decide (t289 < 0) = true := decide_eq_true c7; clear c7; obtain rfl := oI H; have p288 : 0 ≤ (x5_1 : Int) := of_decide_eq_true tP; have q288 : x5_1 < (l0.length : Int) := of_decide_eq_true tP; obtain ⟨ad288, e288, hx288_0, hx288_1, hx288_2, hx288_3⟩ := at_T87 HR0.out x5_1 p288 q288; cases e288; replace hx288_0 := cB HB hx288_0; replace hx288_1 := cB HB hx288_1; replace hx288_2 := cB HB hx288_2; replace hx288_3 := cB HB hx288_3; replace p288 := eq_true p288; replace q288 := eq_true q288
       go_wp2_with (first | ((with_reducible refine gC 75 ?_); refine goS (some 23) Try.func75 #[.agg #[.string ((rd_T87 l0 x5_1).f0), .int .i64 ((rd_T87 l0 x5_1).f1), .int .i64 ((rd_T87 l0 x5_1).f2), .bool ((rd_T87 l0 x5_1).f3)], .int .i64 x1_1] ?_; (with_reducible refine (laws_szEntry.calls ((rd_T87 l0 x5_1).f0) ((rd_T87 l0 x5_1).f1) ((rd_T87 l0 x5_1).f2) ((rd_T87 l0 x5_1).f3) x1_1 t289 _ A6.out).mono ?_); rintro e w8 ⟨rfl, hb⟩; refine ⟨_, rfl, ?_⟩; replace HB := aS (below_step tB hb); clear hb))
       go_ret; exact ⟨tE, tB⟩
     rw [if_neg c7] at H; have c7b0 : decide (t289 < 0) = false := decide_eq_false c7; clear c7; have H' := aS H; clear H; have p288 : 0 ≤ (x5_1 : Int) := of_decide_eq_true tP; have q288 : x5_1 < (l0.length : Int) := of_decide_eq_true tP; obtain ⟨ad288, e288, hx288_0, hx288_1, hx288_2, hx288_3⟩ := at_T87 HR0.out x5_1 p288 q288; cases e288; replace hx288_0 := cB HB hx288_0; replace hx288_1 := cB HB hx288_1; replace hx288_2 := cB HB hx288_2; replace hx288_3 := cB HB hx288_3; replace p288 := eq_true p288; replace q288 := eq_true q288
     go_wp2_with (first | ((with_reducible refine gC 75 ?_); refine goS (some 23) Try.func75 #[.agg #[.string ((rd_T87 l0 x5_1).f0), .int .i64 ((rd_T87 l0 x5_1).f1), .int .i64 ((rd_T87 l0 x5_1).f2), .bool ((rd_T87 l0 x5_1).f3)], .int .i64 x1_1] ?_; (with_reducible refine (laws_szEntry.calls ((rd_T87 l0 x5_1).f0) ((rd_T87 l0 x5_1).f1) ((rd_T87 l0 x5_1).f2) ((rd_T87 l0 x5_1).f3) x1_1 t289 _ A6.out).mono ?_); rintro e w9 ⟨rfl, hb⟩; refine ⟨_, rfl, ?_⟩; replace HB := aS (below_step tB hb); clear hb))
     go_roundg k1
     case measure => have := HK1.out; omega
     case rel => exact ⟨(t289), (wrap64 (x5_1 + 1)), tX, tX, H', ⟨by have := HK1.out; omega⟩, ⟨tB⟩⟩
   rw [if_neg c4] at H; have c4b0 : decide (x5_1 < (l0.length : Int)) = false := decide_eq_false c4; clear c4; obtain rfl := oI H; go_wp2; go_ret; exact ⟨tE, tB⟩

/-! ### laws_szDict: function 20 -/
def laws_szDict.f (k : Nat) (l0_0 : List Int) (l0_1 : List (S87)) (a1 : Int) : Option (Int) := (laws_szIntS.f l0_0 a1).bind fun t291 => (if t291 < 0 then (some (-1)) else ((laws_szEntryS.f k l0_1 t291).bind fun t292 => (if t292 < 0 then (some (-1)) else (some t292))))
theorem laws_szDict.mono : ∀ a0 a1 a2 k, LeO (laws_szDict.f k a0 a1 a2) (laws_szDict.f (k + 1) a0 a1 a2) := by
 intro a0 a1 a2 k
 unfold laws_szDict.f
 have m0_ := @laws_szEntryS.mono; exact tM
set_option maxHeartbeats 8000000 in
set_option maxRecDepth 100000 in
theorem laws_szDict.calls (k : Nat) (A0_0 : Option Addr) (c0_0 : Nat) (l0_0 : List Int) (A0_1 : Option Addr) (c0_1 : Nat) (l0_1 : List (S87)) (a1 : Int) (r : Int) (w : World) (hr0_0 : Kd.C (Kd.int .i64) w A0_0 l0_0.length l0_0) (hc0_0 : l0_0.length ≤ c0_0) (hr0_1 : Kd.C k87 w A0_1 l0_1.length l0_1) (hc0_1 : l0_1.length ≤ c0_1) (h : laws_szDict.f k l0_0 l0_1 a1 = some r) :
 Calls Try.prog 20 #[.agg #[.slice A0_0 l0_0.length c0_0, .slice A0_1 l0_1.length c0_1], .int .i64 a1] w fun e w' => e = .returned (.int .i64 r) ∧ Below w.heap.size w w' := by
 have hu45 := Try.underlying45; have HR0_0 := aS hr0_0; have HC0_0 := aS hc0_0; clear hr0_0 hc0_0; have HR0_1 := aS hr0_1; have HC0_1 := aS hc0_1; clear hr0_1 hc0_1; have HB := aS (Below.refl w.heap.size w); have H : ((laws_szIntS.f l0_0 a1).bind fun t291 => (if t291 < 0 then (some (-1)) else ((laws_szEntryS.f k l0_1 t291).bind fun t292 => (if t292 < 0 then (some (-1)) else (some t292))))) = some r := h; clear h; replace H := oB H; obtain ⟨t291, A30, H⟩ := H; replace H : (if t291 < 0 then (some (-1)) else ((laws_szEntryS.f k l0_1 t291).bind fun t292 => (if t292 < 0 then (some (-1)) else (some t292)))) = some r := H; have A3 := aS A30; clear A30; by_cases c4 : t291 < 0
 · rw [if_pos c4] at H; have c4b0 : decide (t291 < 0) = true := decide_eq_true c4; clear c4; obtain rfl := oI H
   go_enter Try.func20, Try.ntmps20
   go_wp2_with (first | ((with_reducible refine gD 2 ?_); refine boxS (N := 2) (cs := #[.slice A0_0 l0_0.length c0_0, .slice A0_1 l0_1.length c0_1]) (t := 45) ?_; intro gb290 hg w5 hbox hb; have BK290 := aS (hbox); have GW290 := gW (w := w) hg tB; have GE290 := GW290; replace HB := aS (below_step tB hb); clear hb hbox hg; have hcz6_0 := cA BK290 0; have hcz6_1 := cA BK290 1; have hfz6_0 := bF BK290 0; have hfz6_1 := bF BK290 1) | ((with_reducible refine gC 51 ?_); refine goS (some 8) Try.func51 #[.slice A0_0 l0_0.length c0_0, .int .i64 a1] ?_; (with_reducible refine (laws_szIntS.calls _ _ l0_0 a1 t291 _ ?side1 ?side2 A3.out).mono ?_); (case side1 => exact tC (Kd.C_below HR0_0.out HB.out)); (case side2 => exact HC0_0.out); rintro e w' ⟨rfl, ⟨nd, rfl⟩⟩; refine ⟨_, rfl, ?_⟩))
   go_ret; exact ⟨tE, tB⟩
 rw [if_neg c4] at H; have c4b0 : decide (t291 < 0) = false := decide_eq_false c4; clear c4; replace H := oB H; obtain ⟨t292, A70, H⟩ := H; replace H : (if t292 < 0 then (some (-1)) else (some t292)) = some r := H; have A7 := aS A70; clear A70; by_cases c8 : t292 < 0
 · rw [if_pos c8] at H; have c8b0 : decide (t292 < 0) = true := decide_eq_true c8; clear c8; obtain rfl := oI H
   go_enter Try.func20, Try.ntmps20
   go_wp2_with (first | ((with_reducible refine gD 2 ?_); refine boxS (N := 2) (cs := #[.slice A0_0 l0_0.length c0_0, .slice A0_1 l0_1.length c0_1]) (t := 45) ?_; intro gb290 hg w9 hbox hb; have BK290 := aS (hbox); have GW290 := gW (w := w) hg tB; have GE290 := GW290; replace HB := aS (below_step tB hb); clear hb hbox hg; have hcz10_0 := cA BK290 0; have hcz10_1 := cA BK290 1; have hfz10_0 := bF BK290 0; have hfz10_1 := bF BK290 1) | ((with_reducible refine gC 51 ?_); refine goS (some 8) Try.func51 #[.slice A0_0 l0_0.length c0_0, .int .i64 a1] ?_; (with_reducible refine (laws_szIntS.calls _ _ l0_0 a1 t291 _ ?side1 ?side2 A3.out).mono ?_); (case side1 => exact tC (Kd.C_below HR0_0.out HB.out)); (case side2 => exact HC0_0.out); rintro e w' ⟨rfl, ⟨nd, rfl⟩⟩; refine ⟨_, rfl, ?_⟩) | ((with_reducible refine gC 52 ?_); refine goS (some 14) Try.func52 #[.slice A0_1 l0_1.length c0_1, .int .i64 t291] ?_; (with_reducible refine (laws_szEntryS.calls k _ _ l0_1 t291 t292 _ ?side1 ?side2 A7.out).mono ?_); (case side1 => exact tC (Kd.C_below HR0_1.out tB)); (case side2 => exact HC0_1.out); rintro e w11 ⟨rfl, hb⟩; refine ⟨_, rfl, ?_⟩; replace BK290 := bB BK290 hb; replace HB := aS (below_step tB hb); clear hb))
   go_ret; exact ⟨tE, tB⟩
 rw [if_neg c8] at H; have c8b0 : decide (t292 < 0) = false := decide_eq_false c8; clear c8; obtain rfl := oI H
 go_enter Try.func20, Try.ntmps20
 go_wp2_with (first | ((with_reducible refine gD 2 ?_); refine boxS (N := 2) (cs := #[.slice A0_0 l0_0.length c0_0, .slice A0_1 l0_1.length c0_1]) (t := 45) ?_; intro gb290 hg w12 hbox hb; have BK290 := aS (hbox); have GW290 := gW (w := w) hg tB; have GE290 := GW290; replace HB := aS (below_step tB hb); clear hb hbox hg; have hcz13_0 := cA BK290 0; have hcz13_1 := cA BK290 1; have hfz13_0 := bF BK290 0; have hfz13_1 := bF BK290 1) | ((with_reducible refine gC 51 ?_); refine goS (some 8) Try.func51 #[.slice A0_0 l0_0.length c0_0, .int .i64 a1] ?_; (with_reducible refine (laws_szIntS.calls _ _ l0_0 a1 t291 _ ?side1 ?side2 A3.out).mono ?_); (case side1 => exact tC (Kd.C_below HR0_0.out HB.out)); (case side2 => exact HC0_0.out); rintro e w' ⟨rfl, ⟨nd, rfl⟩⟩; refine ⟨_, rfl, ?_⟩) | ((with_reducible refine gC 52 ?_); refine goS (some 14) Try.func52 #[.slice A0_1 l0_1.length c0_1, .int .i64 t291] ?_; (with_reducible refine (laws_szEntryS.calls k _ _ l0_1 t291 t292 _ ?side1 ?side2 A7.out).mono ?_); (case side1 => exact tC (Kd.C_below HR0_1.out tB)); (case side2 => exact HC0_1.out); rintro e w14 ⟨rfl, hb⟩; refine ⟨_, rfl, ?_⟩; replace BK290 := bB BK290 hb; replace HB := aS (below_step tB hb); clear hb))
 go_ret; exact ⟨tE, tB⟩

/-! ### laws_toIntS: function 53 -/
def laws_toIntS.l0 : Nat → List Int → List Int → Int → Option (List Int)
 | 0, _, _, _ => none
 | k + 1, x0, x3, x4 => if x4 < (x0.length : Int) then (if 0 ≤ x4 then (if x4 < (x3.length : Int) then (laws_toIntS.l0 k x0 (x3.set (x4 : Int).toNat (rd x0 x4)) (wrap64 (x4 + 1))) else (none)) else (none)) else (some x3)
def laws_toIntS.f (k : Nat) (l0 : List Int) : Option (List Int) := if 0 ≤ (l0.length : Int) then (if ((l0.length : Int) : Int).toNat ≤ 35184372088832 then (laws_toIntS.l0 k l0 (List.replicate ((l0.length : Int) : Int).toNat 0) 0) else (none)) else (none)
theorem laws_toIntS.mono_l : ∀ k, (∀ y0 y1 y2, LeO (laws_toIntS.l0 k y0 y1 y2) (laws_toIntS.l0 (k + 1) y0 y1 y2))
 | 0 => fun _ _ _ r h => by simp [laws_toIntS.l0] at h
 | k + 1 => by
  have ih0 := laws_toIntS.mono_l k; intro y0 y1 y2
  unfold laws_toIntS.l0
  exact tM
theorem laws_toIntS.mono : ∀ a0 k, LeO (laws_toIntS.f k a0) (laws_toIntS.f (k + 1) a0) := by
 intro a0 k; have ih0 := laws_toIntS.mono_l k
 unfold laws_toIntS.f
 exact tM
set_option maxHeartbeats 8000000 in
set_option maxRecDepth 100000 in
theorem laws_toIntS.calls (k : Nat) (A0 : Option Addr) (c0 : Nat) (l0 : List Int) (r : List Int) (w : World) (hr0 : Kd.C (Kd.int .i64) w A0 l0.length l0) (hc0 : l0.length ≤ c0) (h : laws_toIntS.f k l0 = some r) :
 Calls Try.prog 53 #[.slice A0 l0.length c0] w fun e w' => ∃ v0_ : Value, e = .returned (v0_) ∧ Kd.R (Kd.int .i64) 3 w' w.heap.size (fun _ => True) v0_ r ∧ Below w.heap.size w w' := by
 have HR0 := aS hr0; have HC0 := aS hc0; clear hr0 hc0; have HB := aS (Below.refl w.heap.size w); have H : (if 0 ≤ (l0.length : Int) then (if ((l0.length : Int) : Int).toNat ≤ 35184372088832 then (laws_toIntS.l0 k l0 (List.replicate ((l0.length : Int) : Int).toNat 0) 0) else (none)) else (none)) = some r := h; clear h; by_cases c2 : 0 ≤ (l0.length : Int)
 · rw [if_pos c2] at H; have c2b0 := eq_true c2; have c2b1 : decide (0 ≤ (l0.length : Int)) = true := decide_eq_true c2; clear c2; by_cases c3 : ((l0.length : Int) : Int).toNat ≤ 35184372088832
   case neg =>
    rw [if_neg c3] at H; exact nS H
   rw [if_pos c3] at H; have c3b0 := eq_true c3; have c3b1 : decide (((l0.length : Int) : Int).toNat ≤ 35184372088832) = true := decide_eq_true c3; clear c3; obtain ⟨y293, hy293⟩ : ∃ y_ : List Int, y_ = (List.replicate ((l0.length : Int) : Int).toNat 0) := ⟨_, rfl⟩
   replace H : (laws_toIntS.l0 k l0 y293 0) = some r := by first | (rw [hy293]; with_reducible exact H) | (have H2_ := (Option.bind_some _ _).symm.trans H; rw [hy293]; with_reducible exact H2_) | (have H2_ := (Option.bind_some _ _).symm.trans H; with_reducible exact H2_) | with_reducible exact H | (rw [hy293]; exact H) | exact H
   have Ny293 := aS hy293; clear hy293; have H' := aS H; clear H
   go_enter Try.func53, Try.ntmps53
   go_wp2_with (first | ((with_reducible refine gD 7 ?_); refine Kd.R_make (Kd.int .i64) _ 3 rfl (N := 7) rfl 23 _ _ rfl (l0.length : Int) rfl rfl Try.underlying23 (.int .i64 0) 8 info3 rfl (by decide) (by omega) 0 (ok := fun _ => True) (okp := fun _ => True) rfl (fun _ hk => hk) trivial (of_decide_eq_true tP) (Nat.le_trans (Nat.mul_le_mul_right _ (of_decide_eq_true tP : (l0.length : Int).toNat ≤ 35184372088832)) (by omega)) (Below.refl _ _) (Nat.le_refl _) ?_; intro v294 w4 ho5 hb hg_ hnew_; clear hg_ hnew_; (first | rw [← Ny293.out] at ho5 | (simp only [Int.reduceToNat] at ho5; rw [← Ny293.out] at ho5)); have HO295 := aS (Kd.R_lower ho5 (below_size tB)); replace HB := aS (below_step tB hb); clear hb ho5))
   go_loopg [4] k (fun kq v4 w' => ∃ (x3_1 : List Int) (x4_1 : Int), v4 = .int .i64 x4_1 ∧ Aside0 (laws_toIntS.l0 kq l0 x3_1 x4_1 = some r) ∧ Aside0 (kq ≤ k) ∧ Aside0 (Kd.R (Kd.int .i64) 3 w' w.heap.size (fun _ => True) v294 x3_1) ∧ Aside0 (Below w.heap.size w w'))
   case atStart => exact ⟨(y293), (0), tX, H', ⟨Nat.le_refl _⟩, ⟨tR HO295.out⟩, ⟨tB⟩⟩
   case round =>
    clear H'; clear c2b0 c2b1 c3b0 c3b1; obtain ⟨x3_1, x4_1, rfl, HA, HK1, HO_3, HB⟩ := hrel
    cases gk with
    | zero => exact absurd HA.out (by simp [laws_toIntS.l0])
    | succ k1 =>
     have H := HA.out; clear HA; simp only [laws_toIntS.l0] at H; by_cases c6 : x4_1 < (l0.length : Int)
     · rw [if_pos c6] at H; have c6b0 : decide (x4_1 < (l0.length : Int)) = true := decide_eq_true c6; clear c6; by_cases c7 : 0 ≤ x4_1
       case neg =>
        rw [if_neg c7] at H; exact nS H
       rw [if_pos c7] at H; have c7b0 : decide (0 ≤ x4_1) = true := decide_eq_true c7; clear c7; by_cases c8 : x4_1 < (x3_1.length : Int)
       case neg =>
        rw [if_neg c8] at H; exact nS H
       rw [if_pos c8] at H; have c8b0 : decide (x4_1 < (x3_1.length : Int)) = true := decide_eq_true c8; clear c8; obtain ⟨y297, hy297⟩ : ∃ y_ : List Int, y_ = (x3_1.set (x4_1 : Int).toNat (rd l0 x4_1)) := ⟨_, rfl⟩
       replace H : (laws_toIntS.l0 k1 l0 y297 (wrap64 (x4_1 + 1))) = some r := by first | (rw [hy297]; with_reducible exact H) | (have H2_ := (Option.bind_some _ _).symm.trans H; rw [hy297]; with_reducible exact H2_) | (have H2_ := (Option.bind_some _ _).symm.trans H; with_reducible exact H2_) | with_reducible exact H | (rw [hy297]; exact H) | exact H
       have Ny297 := aS hy297; clear hy297; have H' := aS H; clear H; have p296 : 0 ≤ (x4_1 : Int) := of_decide_eq_true tP; have q296 : x4_1 < (l0.length : Int) := of_decide_eq_true tP; obtain ⟨ad296, e296, hx296_0⟩ := Kd.at_int HR0.out x4_1 p296 q296; cases e296; replace hx296_0 := cB HB hx296_0; replace p296 := eq_true p296; replace q296 := eq_true q296; have p9 : 0 ≤ (x4_1 : Int) := of_decide_eq_true tP; have q9 : (x4_1 : Int) < ((x3_1.length : Int) : Int) := of_decide_eq_true tP; obtain ⟨go9, co9, eo9, gb9, gl9, cl9, HG9⟩ := Kd.R_form HO_3.out (by omega)
       (first | cases eo9 | (injection eo9 with ea_ en_ ec_; (first | subst ea_ | (injection ea_ with ea_; subst ea_)); subst ec_; clear en_))
       have GB9 := aS gb9; have GG9 := aS HG9; clear gb9 gl9 HG9; obtain ⟨hx9_0, hf9_0⟩ := Kd.R_celln 0 HO_3.out (x4_1 : Int) p9 q9; replace p9 := eq_true p9; replace q9 := eq_true q9; have HP10 := Kd.R_putg HO_3.out (x4_1 : Int) (rd l0 x4_1)
       go_wp2_with (first | ((with_reducible refine gate_store (t := 3) (p := 20) rfl ?_); refine store_event (t := 3) (p := 20) (v := ?vo_w11) (w1 := (wr.setCell ⟨go9, (x4_1 : Int).toNat, none⟩ (.int .i64 (rd l0 x4_1)))) ?hg ?ho ?hn ?hr ?_; (case ho => rfl); (case hg => rfl); (case hn => rfl); (case hr => first | (go_simp; done) | (go_simp; rfl)); intro w11 hw; have hg : wr.grownBy w11 (some go9) := (by rw [hw]; exact HP10.2); have hp_ : Kd.R (Kd.int .i64) 3 w11 w.heap.size (fun _ => True) (.slice (some ⟨go9, 0, none⟩) x3_1.length co9) y297 := (by rw [hw, Ny297.out]; exact HP10.1); clear HP10; replace HO_3 := aS (hp_); replace HB := aS ((by rw [hw]; exact below_set (HB.out) GB9.out : Below w.heap.size w w11)); clear hg hw hp_))
       go_roundg k1
       case measure => have := HK1.out; omega
       case rel => exact ⟨(y297), (wrap64 (x4_1 + 1)), tX, H', ⟨by have := HK1.out; omega⟩, ⟨tR HO_3.out⟩, ⟨tB⟩⟩
     rw [if_neg c6] at H; have c6b0 : decide (x4_1 < (l0.length : Int)) = false := decide_eq_false c6; clear c6; obtain rfl := oI H; go_wp2; go_ret; exact ⟨_, tE, by (with_reducible repeat (first | apply Kd.R_alloc | apply Kd.R_drewN | apply Kd.R_drew)); exact HO_3.out, tB⟩
 rw [if_neg c2] at H; exact nS H

/-! ### laws_toEntry: function 76 -/
def laws_toEntry.f (a0_0 : ByteArray) (a0_1 : Int) (a0_2 : Int) (a0_3 : Bool) : Option (ByteArray × Int × Int × Bool) := some (a0_0, a0_1, a0_2, a0_3)
set_option maxHeartbeats 8000000 in
set_option maxRecDepth 100000 in
theorem laws_toEntry.calls (a0_0 : ByteArray) (a0_1 : Int) (a0_2 : Int) (a0_3 : Bool) (r1 : ByteArray) (r2 : Int) (r3 : Int) (r4 : Bool) (w : World) (h : laws_toEntry.f a0_0 a0_1 a0_2 a0_3 = some (r1, r2, r3, r4)) :
 Calls Try.prog 76 #[.agg #[.string a0_0, .int .i64 a0_1, .int .i64 a0_2, .bool a0_3]] w fun e w' => e = .returned (.agg #[.string r1, .int .i64 r2, .int .i64 r3, .bool r4]) ∧ Below w.heap.size w w' := by
 have hu87 := Try.underlying87; have hu56 := Try.underlying56; have HB := aS (Below.refl w.heap.size w); have H : (some (a0_0, a0_1, a0_2, a0_3)) = some (r1, r2, r3, r4) := h; clear h; simp only [Option.some.injEq, Prod.mk.injEq] at H; obtain ⟨rfl, rfl, rfl, rfl⟩ := H
 go_enter Try.func76, Try.ntmps76
 go_wp2_with (first | ((with_reducible refine gD 1 ?_); refine boxS (N := 1) (cs := #[.string a0_0, .int .i64 a0_1, .int .i64 a0_2, .bool a0_3]) (t := 87) ?_; intro gb298 hg w2 hbox hb; have BK298 := aS (hbox); have GW298 := gW (w := w) hg tB; have GE298 := GW298; replace HB := aS (below_step tB hb); clear hb hbox hg) | ((with_reducible refine gD 2 ?_); refine boxS (N := 2) (cs := #[.string (⟨#[]⟩ : ByteArray), .int .i64 0, .int .i64 0, .bool false]) (t := 56) ?_; intro gb299 hg w3 hbox hb; have BK299 := aS (hbox); have GW299 := gW (w := w) hg tB; have GE299 := GW299; have NB298_299 := nL hg BK298; have NB299_298 := nR hg BK298; replace BK298 := bB BK298 hb; replace HB := aS (below_step tB hb); clear hb hbox hg) | ((with_reducible refine gD 3 ?_); refine boxS (N := 3) (cs := #[.string (⟨#[]⟩ : ByteArray), .int .i64 0, .int .i64 0, .bool false]) (t := 56) ?_; intro gb300 hg w4 hbox hb; have BK300 := aS (hbox); have GW300 := gW (w := w) hg tB; have GE300 := GW300; have NB298_300 := nL hg BK298; have NB300_298 := nR hg BK298; replace BK298 := bB BK298 hb; have NB299_300 := nL hg BK299; have NB300_299 := nR hg BK299; replace BK299 := bB BK299 hb; replace HB := aS (below_step tB hb); clear hb hbox hg; obtain ⟨hnb5, hnc5⟩ := bO NB298_299 NB299_298; obtain ⟨hnb6, hnc6⟩ := bO NB298_300 NB300_298; obtain ⟨hcz7_0, hcz7_1, hcz7_2, hcz7_3, hfz7_0, hfz7_1, hfz7_2, hfz7_3⟩ := c4 BK298; obtain ⟨hnb8, hnc8⟩ := bO NB300_299 NB299_300; obtain ⟨hcz9_0, hcz9_1, hcz9_2, hcz9_3, hfz9_0, hfz9_1, hfz9_2, hfz9_3⟩ := c4 BK300; have hcz10_0 := cA BK299 0; have hcz10_1 := cA BK299 1; have hcz10_2 := cA BK299 2; have hcz10_3 := cA BK299 3; have hfz10_0 := bF BK299 0; have hfz10_1 := bF BK299 1; have hfz10_2 := bF BK299 2; have hfz10_3 := bF BK299 3))
 refine bodyPost_ret (results_cell_row rfl _ _ gb299 56 #[.string a0_0, .int .i64 a0_1, .int .i64 a0_2, .bool a0_3] (0, 0) _ rfl (by (with_reducible repeat (first | refine blk_drewN ?_ _ | refine blk_drew ?_ | refine blk_alloc ?_ _)); refine blk_put (cs := #[.string a0_0, .int .i64 a0_1, .int .i64 a0_2, .bool false]) ?_ 3 _ rfl; (with_reducible repeat (first | refine blk_drewN ?_ _ | refine blk_drew ?_ | refine blk_alloc ?_ _)); refine blk_put (cs := #[.string a0_0, .int .i64 a0_1, .int .i64 0, .bool false]) ?_ 2 _ rfl; (with_reducible repeat (first | refine blk_drewN ?_ _ | refine blk_drew ?_ | refine blk_alloc ?_ _)); refine blk_put (cs := #[.string a0_0, .int .i64 0, .int .i64 0, .bool false]) ?_ 1 _ rfl; (with_reducible repeat (first | refine blk_drewN ?_ _ | refine blk_drew ?_ | refine blk_alloc ?_ _)); refine blk_put (cs := #[.string (⟨#[]⟩ : ByteArray), .int .i64 0, .int .i64 0, .bool false]) ?_ 0 _ rfl; (with_reducible repeat (first | refine blk_drewN ?_ _ | refine blk_drew ?_ | refine blk_alloc ?_ _)); refine blk_far ?_ NB299_300.out _; (with_reducible repeat (first | refine blk_drewN ?_ _ | refine blk_drew ?_ | refine blk_alloc ?_ _)); refine blk_far ?_ NB299_300.out _; (with_reducible repeat (first | refine blk_drewN ?_ _ | refine blk_drew ?_ | refine blk_alloc ?_ _)); refine blk_far ?_ NB299_300.out _; (with_reducible repeat (first | refine blk_drewN ?_ _ | refine blk_drew ?_ | refine blk_alloc ?_ _)); refine blk_far ?_ NB299_300.out _; (with_reducible repeat (first | refine blk_drewN ?_ _ | refine blk_drew ?_ | refine blk_alloc ?_ _)); exact BK299.out) Try.underlying56 rfl (by kernel_rfl)) rfl ?_; exact ⟨tE, tB⟩

/-! ### laws_toEntryS: function 54 -/
def laws_toEntryS.l0 : Nat → List (S87) → List (S56) → Int → Option ((List (S56)))
 | 0, _, _, _ => none
 | k + 1, x0, x3, x4 => if x4 < (x0.length : Int) then (if 0 ≤ x4 then ((laws_toEntry.f ((rd_T87 x0 x4).f0) ((rd_T87 x0 x4).f1) ((rd_T87 x0 x4).f2) ((rd_T87 x0 x4).f3)).bind fun bt305 => (if x4 < (x3.length : Int) then (laws_toEntryS.l0 k x0 (x3.set (x4 : Int).toNat (⟨bt305.1, bt305.2.1, bt305.2.2.1, bt305.2.2.2⟩ : S56)) (wrap64 (x4 + 1))) else (none))) else (none)) else (some x3)
def laws_toEntryS.f (k : Nat) (l0 : List (S87)) : Option ((List (S56))) := if 0 ≤ (l0.length : Int) then (if ((l0.length : Int) : Int).toNat ≤ 7036874417766 then (laws_toEntryS.l0 k l0 (List.replicate ((l0.length : Int) : Int).toNat z56) 0) else (none)) else (none)
theorem laws_toEntryS.mono_l : ∀ k, (∀ y0 y1 y2, LeO (laws_toEntryS.l0 k y0 y1 y2) (laws_toEntryS.l0 (k + 1) y0 y1 y2))
 | 0 => fun _ _ _ r h => by simp [laws_toEntryS.l0] at h
 | k + 1 => by
  have ih0 := laws_toEntryS.mono_l k; intro y0 y1 y2
  unfold laws_toEntryS.l0
  exact tM
theorem laws_toEntryS.mono : ∀ a0 k, LeO (laws_toEntryS.f k a0) (laws_toEntryS.f (k + 1) a0) := by
 intro a0 k; have ih0 := laws_toEntryS.mono_l k
 unfold laws_toEntryS.f
 exact tM
set_option maxHeartbeats 8000000 in
set_option maxRecDepth 100000 in
theorem laws_toEntryS.calls (k : Nat) (A0 : Option Addr) (c0 : Nat) (l0 : List (S87)) (r : List (S56)) (w : World) (hr0 : Kd.C k87 w A0 l0.length l0) (hc0 : l0.length ≤ c0) (h : laws_toEntryS.f k l0 = some r) :
 Calls Try.prog 54 #[.slice A0 l0.length c0] w fun e w' => ∃ v0_ : Value, e = .returned (v0_) ∧ Kd.R k56 56 w' w.heap.size (fun _ => True) v0_ r ∧ Below w.heap.size w w' := by
 have hu87 := Try.underlying87; have hu56 := Try.underlying56; have HR0 := aS hr0; have HC0 := aS hc0; clear hr0 hc0; have HB := aS (Below.refl w.heap.size w); have H : (if 0 ≤ (l0.length : Int) then (if ((l0.length : Int) : Int).toNat ≤ 7036874417766 then (laws_toEntryS.l0 k l0 (List.replicate ((l0.length : Int) : Int).toNat z56) 0) else (none)) else (none)) = some r := h; clear h; by_cases c2 : 0 ≤ (l0.length : Int)
 · rw [if_pos c2] at H; have c2b0 := eq_true c2; have c2b1 : decide (0 ≤ (l0.length : Int)) = true := decide_eq_true c2; clear c2; by_cases c3 : ((l0.length : Int) : Int).toNat ≤ 7036874417766
   case neg =>
    rw [if_neg c3] at H; exact nS H
   rw [if_pos c3] at H; have c3b0 := eq_true c3; have c3b1 : decide (((l0.length : Int) : Int).toNat ≤ 7036874417766) = true := decide_eq_true c3; clear c3; obtain ⟨y301, hy301⟩ : ∃ y_ : List (S56), y_ = (List.replicate ((l0.length : Int) : Int).toNat z56) := ⟨_, rfl⟩
   replace H : (laws_toEntryS.l0 k l0 y301 0) = some r := by first | (rw [hy301]; with_reducible exact H) | (have H2_ := (Option.bind_some _ _).symm.trans H; rw [hy301]; with_reducible exact H2_) | (have H2_ := (Option.bind_some _ _).symm.trans H; with_reducible exact H2_) | with_reducible exact H | (rw [hy301]; exact H) | exact H
   have Ny301 := aS hy301; clear hy301; have H' := aS H; clear H
   go_enter Try.func54, Try.ntmps54
   go_wp2_with (first | ((with_reducible refine gD 7 ?_); refine Kd.R_make k56 _ 56 rfl (N := 7) rfl 24 _ _ rfl (l0.length : Int) rfl rfl Try.underlying24 (.agg #[(.string ⟨#[]⟩), (.int .i64 0), (.int .i64 0), (.bool false)]) 40 info56 rfl (by decide) (by omega) z56 (ok := fun _ => True) (okp := fun _ => True) (k56_mkM _ _ _ z56 ) (fun _ hk => hk) trivial (of_decide_eq_true tP) (Nat.le_trans (Nat.mul_le_mul_right _ (of_decide_eq_true tP : (l0.length : Int).toNat ≤ 7036874417766)) (by omega)) (Below.refl _ _) (Nat.le_refl _) ?_; intro v302 w4 ho5 hb hg_ hnew_; clear hg_ hnew_; (first | rw [← Ny301.out] at ho5 | (simp only [Int.reduceToNat] at ho5; rw [← Ny301.out] at ho5)); have HO303 := aS (Kd.R_lower ho5 (below_size tB)); replace HB := aS (below_step tB hb); clear hb ho5))
   go_loopg [4] k (fun kq v4 w' => ∃ (x3_1 : List (S56)) (x4_1 : Int), v4 = .int .i64 x4_1 ∧ Aside0 (laws_toEntryS.l0 kq l0 x3_1 x4_1 = some r) ∧ Aside0 (kq ≤ k) ∧ Aside0 (Kd.R k56 56 w' w.heap.size (fun _ => True) v302 x3_1) ∧ Aside0 (Below w.heap.size w w'))
   case atStart => exact ⟨(y301), (0), tX, H', ⟨Nat.le_refl _⟩, ⟨tR HO303.out⟩, ⟨tB⟩⟩
   case round =>
    clear H'; clear c2b0 c2b1 c3b0 c3b1; obtain ⟨x3_1, x4_1, rfl, HA, HK1, HO_3, HB⟩ := hrel
    cases gk with
    | zero => exact absurd HA.out (by simp [laws_toEntryS.l0])
    | succ k1 =>
     have H := HA.out; clear HA; simp only [laws_toEntryS.l0] at H; by_cases c6 : x4_1 < (l0.length : Int)
     · rw [if_pos c6] at H; have c6b0 : decide (x4_1 < (l0.length : Int)) = true := decide_eq_true c6; clear c6; by_cases c7 : 0 ≤ x4_1
       case neg =>
        rw [if_neg c7] at H; exact nS H
       rw [if_pos c7] at H; have c7b0 : decide (0 ≤ x4_1) = true := decide_eq_true c7; clear c7; replace H := oB H; obtain ⟨⟨t305, t306, t307, t308⟩, A80, H⟩ := H; replace H : (if x4_1 < (x3_1.length : Int) then (laws_toEntryS.l0 k1 l0 (x3_1.set (x4_1 : Int).toNat (⟨t305, t306, t307, t308⟩ : S56)) (wrap64 (x4_1 + 1))) else (none)) = some r := H; have A8 := aS A80; clear A80; by_cases c9 : x4_1 < (x3_1.length : Int)
       case neg =>
        rw [if_neg c9] at H; exact nS H
       rw [if_pos c9] at H; have c9b0 : decide (x4_1 < (x3_1.length : Int)) = true := decide_eq_true c9; clear c9; obtain ⟨y309, hy309⟩ : ∃ y_ : List (S56), y_ = (x3_1.set (x4_1 : Int).toNat (⟨t305, t306, t307, t308⟩ : S56)) := ⟨_, rfl⟩
       replace H : (laws_toEntryS.l0 k1 l0 y309 (wrap64 (x4_1 + 1))) = some r := by first | (rw [hy309]; with_reducible exact H) | (have H2_ := (Option.bind_some _ _).symm.trans H; rw [hy309]; with_reducible exact H2_) | (have H2_ := (Option.bind_some _ _).symm.trans H; with_reducible exact H2_) | with_reducible exact H | (rw [hy309]; exact H) | exact H
       have Ny309 := aS hy309; clear hy309; have H' := aS H; clear H; have p304 : 0 ≤ (x4_1 : Int) := of_decide_eq_true tP; have q304 : x4_1 < (l0.length : Int) := of_decide_eq_true tP; obtain ⟨ad304, e304, hx304_0, hx304_1, hx304_2, hx304_3⟩ := at_T87 HR0.out x4_1 p304 q304; cases e304; replace hx304_0 := cB HB hx304_0; replace hx304_1 := cB HB hx304_1; replace hx304_2 := cB HB hx304_2; replace hx304_3 := cB HB hx304_3; replace p304 := eq_true p304; replace q304 := eq_true q304
       go_wp2_with (first | ((with_reducible refine gC 76 ?_); refine goS (some 20) Try.func76 #[.agg #[.string ((rd_T87 l0 x4_1).f0), .int .i64 ((rd_T87 l0 x4_1).f1), .int .i64 ((rd_T87 l0 x4_1).f2), .bool ((rd_T87 l0 x4_1).f3)]] ?_; (with_reducible refine (laws_toEntry.calls ((rd_T87 l0 x4_1).f0) ((rd_T87 l0 x4_1).f1) ((rd_T87 l0 x4_1).f2) ((rd_T87 l0 x4_1).f3) t305 t306 t307 t308 _ A8.out).mono ?_); rintro e w11 ⟨rfl, hb⟩; refine ⟨_, rfl, ?_⟩; replace HO_3 := rB HO_3 hb; replace HB := aS (below_step tB hb); have p10 : 0 ≤ (x4_1 : Int) := of_decide_eq_true tP; have q10 : (x4_1 : Int) < ((x3_1.length : Int) : Int) := of_decide_eq_true tP; obtain ⟨go10, co10, eo10, gb10, gl10, cl10, HG10⟩ := Kd.R_form HO_3.out (by omega); (first | cases eo10 | (injection eo10 with ea_ en_ ec_; (first | subst ea_ | (injection ea_ with ea_; subst ea_)); subst ec_; clear en_)); have GB10 := aS gb10; have GG10 := aS HG10; clear gb10 gl10 HG10; obtain ⟨ce10, hcl10, hM10, hcc10, hfr10⟩ := Kd.R_elem HO_3.out z56 (x4_1 : Int) p10 q10; obtain rfl := k56_openM hM10; have hx10_0 : w11.cell? ⟨go10, (x4_1 : Int).toNat * 4, none⟩ = some (.string ((rd_T56 x3_1 x4_1).f0)) := hcc10 0 _ rfl; have hx10_1 : w11.cell? ⟨go10, (x4_1 : Int).toNat * 4 + 1, none⟩ = some (.int .i64 ((rd_T56 x3_1 x4_1).f1)) := hcc10 1 _ rfl; have hx10_2 : w11.cell? ⟨go10, (x4_1 : Int).toNat * 4 + 2, none⟩ = some (.int .i64 ((rd_T56 x3_1 x4_1).f2)) := hcc10 2 _ rfl; have hx10_3 : w11.cell? ⟨go10, (x4_1 : Int).toNat * 4 + 3, none⟩ = some (.bool ((rd_T56 x3_1 x4_1).f3)) := hcc10 3 _ rfl; have hf10_0 : w11.frozen? ⟨go10, (x4_1 : Int).toNat * 4, none⟩ = false := hfr10 0; have hf10_1 : w11.frozen? ⟨go10, (x4_1 : Int).toNat * 4 + 1, none⟩ = false := hfr10 1; have hf10_2 : w11.frozen? ⟨go10, (x4_1 : Int).toNat * 4 + 2, none⟩ = false := hfr10 2; have hf10_3 : w11.frozen? ⟨go10, (x4_1 : Int).toNat * 4 + 3, none⟩ = false := hfr10 3; clear hcl10 hcc10 hfr10 hM10; replace p10 := eq_true p10; replace q10 := eq_true q10; have HX12 := aS (show Kd.R k56 56 w11 w.heap.size (fun _ => True) (.slice (some ⟨go10, 0, none⟩) x3_1.length co10) x3_1 from (tR HO_3.out)); obtain ⟨ce12, hcl12, hM12, hcc12, hfr12⟩ := Kd.R_elem HX12.out z56 (x4_1 : Int) (of_decide_eq_true tP) (by have h_ : (x4_1 : Int) < ((x3_1.length : Int) : Int) := of_decide_eq_true tP; first | exact h_ | (have e_ := (Kd.R_reads' HO_3.out).1; omega) | simpa using h_); obtain rfl := k56_openM hM12; have HP12 := Kd.R_seg HX12.out (x4_1 : Int) (of_decide_eq_true tP) (by have h_ : (x4_1 : Int) < ((x3_1.length : Int) : Int) := of_decide_eq_true tP; first | exact h_ | (have e_ := (Kd.R_reads' HO_3.out).1; omega) | simpa using h_) (seg := [.string t305, .int .i64 t306, .int .i64 t307, .bool t308]) (j := 0) hcl12 hcc12 (show 4 ≤ 4 from by decide) (x' := (⟨t305, t306, t307, t308⟩ : S56)) (k56_mkM _ _ _ (⟨t305, t306, t307, t308⟩ : S56) ) (fun _ hk => hk); have hx12_0 := hcc12 0 _ rfl; (try simp only [show (k56).sz = 4 from rfl, Nat.mul_one, Nat.add_zero] at hx12_0); have hf12_0 := hfr12 0; (try simp only [show (k56).sz = 4 from rfl, Nat.mul_one, Nat.add_zero] at hf12_0); have hx12_1 := hcc12 1 _ rfl; (try simp only [show (k56).sz = 4 from rfl, Nat.mul_one, Nat.add_zero] at hx12_1); have hf12_1 := hfr12 1; (try simp only [show (k56).sz = 4 from rfl, Nat.mul_one, Nat.add_zero] at hf12_1); have hx12_2 := hcc12 2 _ rfl; (try simp only [show (k56).sz = 4 from rfl, Nat.mul_one, Nat.add_zero] at hx12_2); have hf12_2 := hfr12 2; (try simp only [show (k56).sz = 4 from rfl, Nat.mul_one, Nat.add_zero] at hf12_2); have hx12_3 := hcc12 3 _ rfl; (try simp only [show (k56).sz = 4 from rfl, Nat.mul_one, Nat.add_zero] at hx12_3); have hf12_3 := hfr12 3; (try simp only [show (k56).sz = 4 from rfl, Nat.mul_one, Nat.add_zero] at hf12_3); clear hcl12 hcc12 hfr12 hM12; clear hb) | ((with_reducible refine gate_store (t := 56) (p := 21) rfl ?_); refine store_event (t := 56) (p := 21) (v := ?vo_w13) (w1 := ((((w11.setCell ⟨go10, (x4_1 : Int).toNat * 4, none⟩ (.string t305)).setCell ⟨go10, (x4_1 : Int).toNat * 4 + 1, none⟩ (.int .i64 t306)).setCell ⟨go10, (x4_1 : Int).toNat * 4 + 2, none⟩ (.int .i64 t307)).setCell ⟨go10, (x4_1 : Int).toNat * 4 + 3, none⟩ (.bool t308))) ?hg ?ho ?hn ?hr ?_; (case ho => rfl); (case hg => rfl); (case hn => rfl); (case hr => first | (go_simp; done) | (go_simp; rfl)); intro w13 hw; have hg : w11.grownBy w13 (some go10) := (by rw [hw]; exact HP12.2); have hp_ : Kd.R k56 56 w13 w.heap.size (fun _ => True) (.slice (some ⟨go10, 0, none⟩) x3_1.length co10) y309 := (by rw [hw, Ny309.out]; exact HP12.1); clear HP12; replace HO_3 := aS (hp_); replace HB := aS ((by rw [hw]; exact below_set (below_set (below_set (below_set (HB.out) GB10.out) GB10.out) GB10.out) GB10.out : Below w.heap.size w w13)); clear hg hw hp_))
       go_roundg k1
       case measure => have := HK1.out; omega
       case rel => exact ⟨(y309), (wrap64 (x4_1 + 1)), tX, H', ⟨by have := HK1.out; omega⟩, ⟨tR HO_3.out⟩, ⟨tB⟩⟩
     rw [if_neg c6] at H; have c6b0 : decide (x4_1 < (l0.length : Int)) = false := decide_eq_false c6; clear c6; obtain rfl := oI H; go_wp2; go_ret; exact ⟨_, tE, by (with_reducible repeat (first | apply Kd.R_alloc | apply Kd.R_drewN | apply Kd.R_drew)); exact HO_3.out, tB⟩
 rw [if_neg c2] at H; exact nS H

/-! ### laws_toDict: function 21 -/
def laws_toDict.f (k : Nat) (l0_0 : List Int) (l0_1 : List (S87)) : Option (List Int × (List (S56))) := (laws_toIntS.f k l0_0).bind fun t313 => ((laws_toEntryS.f k l0_1).bind fun t316 => (some (t313, t316)))
theorem laws_toDict.mono : ∀ a0 a1 k, LeO (laws_toDict.f k a0 a1) (laws_toDict.f (k + 1) a0 a1) := by
 intro a0 a1 k
 unfold laws_toDict.f
 have m0_ := @laws_toEntryS.mono; have m1_ := @laws_toIntS.mono; exact tM
set_option maxHeartbeats 8000000 in
set_option maxRecDepth 100000 in
theorem laws_toDict.calls (k : Nat) (A0_0 : Option Addr) (c0_0 : Nat) (l0_0 : List Int) (A0_1 : Option Addr) (c0_1 : Nat) (l0_1 : List (S87)) (r1 : List Int) (r2 : List (S56)) (w : World) (hr0_0 : Kd.C (Kd.int .i64) w A0_0 l0_0.length l0_0) (hc0_0 : l0_0.length ≤ c0_0) (hr0_1 : Kd.C k87 w A0_1 l0_1.length l0_1) (hc0_1 : l0_1.length ≤ c0_1) (h : laws_toDict.f k l0_0 l0_1 = some (r1, r2)) :
 Calls Try.prog 21 #[.agg #[.slice A0_0 l0_0.length c0_0, .slice A0_1 l0_1.length c0_1]] w fun e w' => ∃ v0_ v1_ : Value, e = .returned (.agg #[v0_, v1_]) ∧ Kd.R (Kd.int .i64) 3 w' w.heap.size (fun _ => True) v0_ r1 ∧ Kd.R k56 56 w' w.heap.size (fun _ => True) v1_ r2 ∧ Below w.heap.size w w' := by
 have hu45 := Try.underlying45; have hu26 := Try.underlying26; have HR0_0 := aS hr0_0; have HC0_0 := aS hc0_0; clear hr0_0 hc0_0; have HR0_1 := aS hr0_1; have HC0_1 := aS hc0_1; clear hr0_1 hc0_1; have HB := aS (Below.refl w.heap.size w); have H : ((laws_toIntS.f k l0_0).bind fun t313 => ((laws_toEntryS.f k l0_1).bind fun t316 => (some (t313, t316)))) = some (r1, r2) := h; clear h; replace H := oB H; obtain ⟨t313, A20, H⟩ := H; replace H : ((laws_toEntryS.f k l0_1).bind fun t316 => (some (t313, t316))) = some (r1, r2) := H; have A2 := aS A20; clear A20; replace H := oB H; obtain ⟨t316, A30, H⟩ := H; replace H : (some (t313, t316)) = some (r1, r2) := H; have A3 := aS A30; clear A30; simp only [Option.some.injEq, Prod.mk.injEq] at H; obtain ⟨rfl, rfl⟩ := H
 go_enter Try.func21, Try.ntmps21
 go_wp2_with (first | ((with_reducible refine gD 1 ?_); refine boxS (N := 1) (cs := #[.slice A0_0 l0_0.length c0_0, .slice A0_1 l0_1.length c0_1]) (t := 45) ?_; intro gb310 hg w4 hbox hb; have BK310 := aS (hbox); have GW310 := gW (w := w) hg tB; have GE310 := GW310; replace HB := aS (below_step tB hb); clear hb hbox hg) | ((with_reducible refine gD 2 ?_); refine boxS (N := 2) (cs := #[.slice none 0 0, .slice none 0 0]) (t := 26) ?_; intro gb311 hg w5 hbox hb; have BK311 := aS (hbox); have GW311 := gW (w := w) hg tB; have GE311 := GW311; have NB310_311 := nL hg BK310; have NB311_310 := nR hg BK310; replace BK310 := bB BK310 hb; replace HB := aS (below_step tB hb); clear hb hbox hg) | ((with_reducible refine gD 3 ?_); refine boxS (N := 3) (cs := #[.slice none 0 0, .slice none 0 0]) (t := 26) ?_; intro gb312 hg w6 hbox hb; have BK312 := aS (hbox); have GW312 := gW (w := w) hg tB; have GE312 := GW312; have NB310_312 := nL hg BK310; have NB312_310 := nR hg BK310; replace BK310 := bB BK310 hb; have NB311_312 := nL hg BK311; have NB312_311 := nR hg BK311; replace BK311 := bB BK311 hb; replace HB := aS (below_step tB hb); clear hb hbox hg; obtain ⟨hnb7, hnc7⟩ := bO NB310_311 NB311_310; obtain ⟨hnb8, hnc8⟩ := bO NB310_312 NB312_310; have hcz9_0 := cA BK310 0; have hcz9_1 := cA BK310 1; have hfz9_0 := bF BK310 0; have hfz9_1 := bF BK310 1) | ((with_reducible refine gC 53 ?_); refine goS (some 6) Try.func53 #[.slice A0_0 l0_0.length c0_0] ?_; (with_reducible refine (laws_toIntS.calls k _ _ l0_0 t313 _ ?side1 ?side2 A2.out).mono ?_); (case side1 => exact tC (Kd.C_below HR0_0.out HB.out)); (case side2 => exact HC0_0.out); rintro e w10 ⟨v314, rfl, ho0, hb⟩; refine ⟨_, rfl, ?_⟩; have HO315 := aS (Kd.R_lower ho0 (below_size tB)); replace BK310 := bB BK310 hb; replace BK311 := bB BK311 hb; replace BK312 := bB BK312 hb; replace HB := aS (below_step tB hb); obtain ⟨Ao11, co11, eo11⟩ := Kd.R_slice HO315.out; subst eo11; obtain ⟨hnb12, hnc12⟩ := bO NB312_311 NB311_312; obtain ⟨hcz13_0, hcz13_1, hfz13_0, hfz13_1⟩ := c2 BK312; obtain ⟨hcz14_0, hcz14_1, hfz14_0, hfz14_1⟩ := c2 BK310; clear ho0 hb) | ((with_reducible refine gC 54 ?_); refine goS (some 10) Try.func54 #[.slice A0_1 l0_1.length c0_1] ?_; (with_reducible refine (laws_toEntryS.calls k _ _ l0_1 t316 _ ?side1 ?side2 A3.out).mono ?_); (case side1 => exact Kd.C_below HR0_1.out tB); (case side2 => exact HC0_1.out); rintro e w15 ⟨v317, rfl, ho0, hb⟩; refine ⟨_, rfl, ?_⟩; have n0_ := aS (Kd.R_below (tR (Kd.R_mono (Kd.R_far (p := ⟨gb312, 0, none⟩) (Kd.R_types HO315.out BK312.out (by decide)) (fun _ hk => hk.2) (.slice Ao11 t313.length co11)) (fun _ h_ => h_.1))) hb); have n1_ := aS (Kd.R_lower ho0 (below_size tB)); have n2_ := aS (blk_below (g := gb310) (o := .cells #[.slice A0_0 l0_0.length c0_0, .slice A0_1 l0_1.length c0_1] 45 (0, 0)) tZ hb); have n3_ := aS (blk_below (g := gb311) (o := .cells #[.slice none 0 0, .slice none 0 0] 26 (0, 0)) tZ hb); have n4_ := aS (blk_below (g := gb312) (o := .cells #[.slice Ao11 t313.length co11, .slice none 0 0] 26 (0, 0)) tZ hb); have n5_ := aS (below_step tB hb); clear HO315; clear BK310; clear BK311; clear BK312; clear HB; have HO315 := n0_; have HO318 := n1_; have BK310 := n2_; have BK311 := n3_; have BK312 := n4_; have HB := n5_; clear n0_ n1_ n2_ n3_ n4_ n5_; (try clear hb); (try clear hb2); (try clear hk); (try clear hi); (try clear ho0); obtain ⟨Ao16, co16, eo16⟩ := Kd.R_slice HO318.out; subst eo16; obtain ⟨hcz17_0, hcz17_1, hfz17_0, hfz17_1⟩ := c2 BK312; have hcz18_0 := cA BK311 0; have hcz18_1 := cA BK311 1; have hfz18_0 := bF BK311 0; have hfz18_1 := bF BK311 1))
 refine bodyPost_ret (results_cell_row rfl _ _ gb311 26 #[.slice Ao11 t313.length co11, .slice Ao16 t316.length co16] (0, 0) _ rfl (by (with_reducible repeat (first | refine blk_drewN ?_ _ | refine blk_drew ?_ | refine blk_alloc ?_ _)); refine blk_put (cs := #[.slice Ao11 t313.length co11, .slice none 0 0]) ?_ 1 _ rfl; (with_reducible repeat (first | refine blk_drewN ?_ _ | refine blk_drew ?_ | refine blk_alloc ?_ _)); refine blk_put (cs := #[.slice none 0 0, .slice none 0 0]) ?_ 0 _ rfl; (with_reducible repeat (first | refine blk_drewN ?_ _ | refine blk_drew ?_ | refine blk_alloc ?_ _)); refine blk_far ?_ NB311_312.out _; (with_reducible repeat (first | refine blk_drewN ?_ _ | refine blk_drew ?_ | refine blk_alloc ?_ _)); exact BK311.out) Try.underlying26 rfl (by kernel_rfl)) rfl ?_; exact ⟨_, _, tE, by (with_reducible repeat (first | apply Kd.R_alloc | apply Kd.R_drewN | apply Kd.R_drew)); exact Kd.R_mono (Kd.R_far (p := ⟨gb311, 1, none⟩) (Kd.R_far (p := ⟨gb311, 0, none⟩) (Kd.R_far (p := ⟨gb312, 1, none⟩) (Kd.R_types (Kd.R_types HO315.out BK312.out (by decide)) BK311.out (by decide)) (fun _ hk => hk.1.2) (.slice Ao16 t316.length co16)) (fun _ hk => hk.2) (.slice Ao11 t313.length co11)) (fun _ hk => hk.2) (.slice Ao16 t316.length co16)) (fun _ hk => trivial), by (with_reducible repeat (first | apply Kd.R_alloc | apply Kd.R_drewN | apply Kd.R_drew)); exact Kd.R_mono (Kd.R_far (p := ⟨gb311, 1, none⟩) (Kd.R_far (p := ⟨gb311, 0, none⟩) (Kd.R_far (p := ⟨gb312, 1, none⟩) (Kd.R_types (Kd.R_types HO318.out BK312.out (by decide)) BK311.out (by decide)) (fun _ hk => hk.1.2) (.slice Ao16 t316.length co16)) (fun _ hk => hk.2) (.slice Ao11 t313.length co11)) (fun _ hk => hk.2) (.slice Ao16 t316.length co16)) (fun _ hk => trivial), tB⟩

/-! ### laws_eqIntS: function 55 -/
def laws_eqIntS.l0 : Nat → List Int → List Int → Int → Option (Bool)
 | 0, _, _, _ => none
 | k + 1, x0, x1, x5 => if x5 < (x0.length : Int) then (if 0 ≤ x5 then (if x5 < (x1.length : Int) then (if (rd x0 x5) = (rd x1 x5) then (laws_eqIntS.l0 k x0 x1 (wrap64 (x5 + 1))) else (some false)) else (none)) else (none)) else (some true)
def laws_eqIntS.f (k : Nat) (l0 : List Int) (l1 : List Int) : Option (Bool) := if (l0.length : Int) = (l1.length : Int) then (laws_eqIntS.l0 k l0 l1 0) else (some false)
theorem laws_eqIntS.mono_l : ∀ k, (∀ y0 y1 y2, LeO (laws_eqIntS.l0 k y0 y1 y2) (laws_eqIntS.l0 (k + 1) y0 y1 y2))
 | 0 => fun _ _ _ r h => by simp [laws_eqIntS.l0] at h
 | k + 1 => by
  have ih0 := laws_eqIntS.mono_l k; intro y0 y1 y2
  unfold laws_eqIntS.l0
  exact tM
theorem laws_eqIntS.mono : ∀ a0 a1 k, LeO (laws_eqIntS.f k a0 a1) (laws_eqIntS.f (k + 1) a0 a1) := by
 intro a0 a1 k; have ih0 := laws_eqIntS.mono_l k
 unfold laws_eqIntS.f
 exact tM
set_option maxHeartbeats 8000000 in
set_option maxRecDepth 100000 in
theorem laws_eqIntS.calls (k : Nat) (A0 : Option Addr) (c0 : Nat) (l0 : List Int) (A1 : Option Addr) (c1 : Nat) (l1 : List Int) (r : Bool) (w : World) (hr0 : Kd.C (Kd.int .i64) w A0 l0.length l0) (hc0 : l0.length ≤ c0) (hr1 : Kd.C (Kd.int .i64) w A1 l1.length l1) (hc1 : l1.length ≤ c1) (h : laws_eqIntS.f k l0 l1 = some r) :
 Calls Try.prog 55 #[.slice A0 l0.length c0, .slice A1 l1.length c1] w fun e w' => e = .returned (.bool r) ∧ Drawn0 w w' := by
 have HR0 := aS hr0; have HC0 := aS hc0; clear hr0 hc0; have HR1 := aS hr1; have HC1 := aS hc1; clear hr1 hc1; have H : (if (l0.length : Int) = (l1.length : Int) then (laws_eqIntS.l0 k l0 l1 0) else (some false)) = some r := h; clear h; by_cases c3 : (l0.length : Int) = (l1.length : Int)
 · rw [if_pos c3] at H; have c3b0 : ((l0.length : Int) == (l1.length : Int)) = true := beq_iff_eq.mpr c3; have c3b1 : ((l0.length : Int) != (l1.length : Int)) = false := bne_eq_false_iff_eq.mpr c3; have c3b2 : (l0.length == l1.length) = true := by first | simpa using c3 | (simp at c3 ⊢; omega)
   clear c3; have H' := aS H; clear H
   go_enter Try.func55, Try.ntmps55
   go_wp2
   repeat (go_quiet (fail); try go_wp2)
   go_loopg [5] k (fun kq v5 w' => ∃ (x5_1 : Int), v5 = .int .i64 x5_1 ∧ Aside0 (laws_eqIntS.l0 kq l0 l1 x5_1 = some r) ∧ Aside0 (kq ≤ k) ∧ Drawn0 w w')
   case atStart => exact ⟨(0), tX, H', ⟨Nat.le_refl _⟩, by repeat (first | exact Drawn0.refl _ | apply Drawn0.step)⟩
   case round =>
    clear H'; clear c3b0 c3b1 c3b2; obtain ⟨x5_1, rfl, HA, HK1, ⟨m1, rfl⟩⟩ := hrel
    cases gk with
    | zero => exact absurd HA.out (by simp [laws_eqIntS.l0])
    | succ k1 =>
     have H := HA.out; clear HA; simp only [laws_eqIntS.l0] at H; by_cases c4 : x5_1 < (l0.length : Int)
     · rw [if_pos c4] at H; have c4b0 : decide (x5_1 < (l0.length : Int)) = true := decide_eq_true c4; clear c4; by_cases c5 : 0 ≤ x5_1
       case neg =>
        rw [if_neg c5] at H; exact nS H
       rw [if_pos c5] at H; have c5b0 : decide (0 ≤ x5_1) = true := decide_eq_true c5; clear c5; by_cases c6 : x5_1 < (l1.length : Int)
       case neg =>
        rw [if_neg c6] at H; exact nS H
       rw [if_pos c6] at H; have c6b0 : decide (x5_1 < (l1.length : Int)) = true := decide_eq_true c6; clear c6; by_cases c7 : (rd l0 x5_1) = (rd l1 x5_1)
       · rw [if_pos c7] at H; have c7b0 : ((rd l0 x5_1) == (rd l1 x5_1)) = true := beq_iff_eq.mpr c7; have c7b1 : ((rd l0 x5_1) != (rd l1 x5_1)) = false := bne_eq_false_iff_eq.mpr c7; clear c7; have H' := aS H; clear H; have p319 : 0 ≤ (x5_1 : Int) := of_decide_eq_true tP; have q319 : x5_1 < (l0.length : Int) := of_decide_eq_true tP; obtain ⟨ad319, e319, hx319_0⟩ := Kd.at_int HR0.out x5_1 p319 q319; cases e319; replace p319 := eq_true p319; replace q319 := eq_true q319; have p320 : 0 ≤ (x5_1 : Int) := of_decide_eq_true tP; have q320 : x5_1 < (l1.length : Int) := of_decide_eq_true tP; obtain ⟨ad320, e320, hx320_0⟩ := Kd.at_int HR1.out x5_1 p320 q320; cases e320; replace p320 := eq_true p320; replace q320 := eq_true q320; go_wp2
         repeat (go_quiet (fail); try go_wp2)
         go_roundg k1
         case measure => have := HK1.out; omega
         case rel => exact ⟨(wrap64 (x5_1 + 1)), tX, H', ⟨by have := HK1.out; omega⟩, by repeat (first | exact Drawn0.refl _ | apply Drawn0.step)⟩
       rw [if_neg c7] at H; have c7b0 : ((rd l0 x5_1) == (rd l1 x5_1)) = false := beq_eq_false_iff_ne.mpr c7; have c7b1 : ((rd l0 x5_1) != (rd l1 x5_1)) = true := bne_iff_ne.mpr c7; obtain rfl := oI H; have p319 : 0 ≤ (x5_1 : Int) := of_decide_eq_true tP; have q319 : x5_1 < (l0.length : Int) := of_decide_eq_true tP; obtain ⟨ad319, e319, hx319_0⟩ := Kd.at_int HR0.out x5_1 p319 q319; cases e319; replace p319 := eq_true p319; replace q319 := eq_true q319; have p320 : 0 ≤ (x5_1 : Int) := of_decide_eq_true tP; have q320 : x5_1 < (l1.length : Int) := of_decide_eq_true tP; obtain ⟨ad320, e320, hx320_0⟩ := Kd.at_int HR1.out x5_1 p320 q320; cases e320; replace p320 := eq_true p320; replace q320 := eq_true q320; go_wp2
       repeat (go_quiet (fail); try go_wp2)
       go_ret; exact ⟨by first | rfl | (simp; done) | (simp [*]; done), by repeat (first | exact Drawn0.refl _ | apply Drawn0.step)⟩
     rw [if_neg c4] at H; have c4b0 : decide (x5_1 < (l0.length : Int)) = false := decide_eq_false c4; clear c4; obtain rfl := oI H; go_wp2
     repeat (go_quiet (fail); try go_wp2)
     go_ret; exact ⟨by first | rfl | (simp; done) | (simp [*]; done), by repeat (first | exact Drawn0.refl _ | apply Drawn0.step)⟩
 rw [if_neg c3] at H; have c3b0 : ((l0.length : Int) == (l1.length : Int)) = false := beq_eq_false_iff_ne.mpr c3; have c3b1 : ((l0.length : Int) != (l1.length : Int)) = true := bne_iff_ne.mpr c3; have c3b2 : (l0.length == l1.length) = false := by first | simpa using c3 | (simp at c3 ⊢; omega)
 obtain rfl := oI H
 go_enter Try.func55, Try.ntmps55
 go_wp2
 repeat (go_quiet (fail); try go_wp2)
 go_ret; exact ⟨by first | rfl | (simp; done) | (simp [*]; done), by repeat (first | exact Drawn0.refl _ | apply Drawn0.step)⟩

/-! ### laws_eqEntry: function 77 -/
def laws_eqEntry.f (a0_0 : ByteArray) (a0_1 : Int) (a0_2 : Int) (a0_3 : Bool) (a1_0 : ByteArray) (a1_1 : Int) (a1_2 : Int) (a1_3 : Bool) : Option (Bool) := if a0_0.toList = a1_0.toList then (if a0_1 = a1_1 then (if a0_2 = a1_2 then (if (a0_3 != a1_3) = true then (some false) else (some true)) else (some false)) else (some false)) else (some false)
set_option maxHeartbeats 8000000 in
set_option maxRecDepth 100000 in
theorem laws_eqEntry.calls (a0_0 : ByteArray) (a0_1 : Int) (a0_2 : Int) (a0_3 : Bool) (a1_0 : ByteArray) (a1_1 : Int) (a1_2 : Int) (a1_3 : Bool) (r : Bool) (w : World) (h : laws_eqEntry.f a0_0 a0_1 a0_2 a0_3 a1_0 a1_1 a1_2 a1_3 = some r) :
 Calls Try.prog 77 #[.agg #[.string a0_0, .int .i64 a0_1, .int .i64 a0_2, .bool a0_3], .agg #[.string a1_0, .int .i64 a1_1, .int .i64 a1_2, .bool a1_3]] w fun e w' => e = .returned (.bool r) ∧ Below w.heap.size w w' := by
 have hu56 := Try.underlying56; have HB := aS (Below.refl w.heap.size w); have H : (if a0_0.toList = a1_0.toList then (if a0_1 = a1_1 then (if a0_2 = a1_2 then (if (a0_3 != a1_3) = true then (some false) else (some true)) else (some false)) else (some false)) else (some false)) = some r := h; clear h; by_cases c3 : a0_0.toList = a1_0.toList
 · rw [if_pos c3] at H; have c3b0 : (a0_0.toList == a1_0.toList) = true := beq_iff_eq.mpr c3; have c3b1 : (a0_0.toList != a1_0.toList) = false := bne_eq_false_iff_eq.mpr c3; clear c3; by_cases c4 : a0_1 = a1_1
   · rw [if_pos c4] at H; have c4b0 : (a0_1 == a1_1) = true := beq_iff_eq.mpr c4; have c4b1 : (a0_1 != a1_1) = false := bne_eq_false_iff_eq.mpr c4; clear c4; by_cases c5 : a0_2 = a1_2
     · rw [if_pos c5] at H; have c5b0 : (a0_2 == a1_2) = true := beq_iff_eq.mpr c5; have c5b1 : (a0_2 != a1_2) = false := bne_eq_false_iff_eq.mpr c5; clear c5; by_cases c6 : (a0_3 != a1_3) = true
       · rw [if_pos c6] at H; have c6b0 : (a0_3 != a1_3) = true := c6
         (try (have c6b1 : decide (a0_3 = a1_3) = false := by simpa using c6))
         (try (have c6b2 : (a0_3 == a1_3) = false := by simpa using c6))
         (try (have c6b3 : ¬ (a0_3 = a1_3) := by simpa using c6))
         clear c6; obtain rfl := oI H
         go_enter Try.func77, Try.ntmps77
         go_wp2_with (first | ((with_reducible refine gD 2 ?_); refine boxS (N := 2) (cs := #[.string a0_0, .int .i64 a0_1, .int .i64 a0_2, .bool a0_3]) (t := 56) ?_; intro gb321 hg w7 hbox hb; have BK321 := aS (hbox); have GW321 := gW (w := w) hg tB; have GE321 := GW321; replace HB := aS (below_step tB hb); clear hb hbox hg) | ((with_reducible refine gD 3 ?_); refine boxS (N := 3) (cs := #[.string a1_0, .int .i64 a1_1, .int .i64 a1_2, .bool a1_3]) (t := 56) ?_; intro gb322 hg w8 hbox hb; have BK322 := aS (hbox); have GW322 := gW (w := w) hg tB; have GE322 := GW322; have NB321_322 := nL hg BK321; have NB322_321 := nR hg BK321; replace BK321 := bB BK321 hb; replace HB := aS (below_step tB hb); clear hb hbox hg; obtain ⟨hnb9, hnc9⟩ := bO NB321_322 NB322_321; obtain ⟨hcz10_0, hcz10_1, hcz10_2, hcz10_3, hfz10_0, hfz10_1, hfz10_2, hfz10_3⟩ := c4 BK321; have hcz11_0 := cA BK322 0; have hcz11_1 := cA BK322 1; have hcz11_2 := cA BK322 2; have hcz11_3 := cA BK322 3; have hfz11_0 := bF BK322 0; have hfz11_1 := bF BK322 1; have hfz11_2 := bF BK322 2; have hfz11_3 := bF BK322 3))
         go_ret; exact ⟨tE, tB⟩
       rw [if_neg c6] at H; have c6b0 : (a0_3 != a1_3) = false := by simpa using c6
       (try (have c6b1 : decide (a0_3 = a1_3) = true := by simpa using c6))
       (try (have c6b2 : (a0_3 == a1_3) = true := by simpa using c6))
       clear c6; obtain rfl := oI H
       go_enter Try.func77, Try.ntmps77
       go_wp2_with (first | ((with_reducible refine gD 2 ?_); refine boxS (N := 2) (cs := #[.string a0_0, .int .i64 a0_1, .int .i64 a0_2, .bool a0_3]) (t := 56) ?_; intro gb321 hg w12 hbox hb; have BK321 := aS (hbox); have GW321 := gW (w := w) hg tB; have GE321 := GW321; replace HB := aS (below_step tB hb); clear hb hbox hg) | ((with_reducible refine gD 3 ?_); refine boxS (N := 3) (cs := #[.string a1_0, .int .i64 a1_1, .int .i64 a1_2, .bool a1_3]) (t := 56) ?_; intro gb322 hg w13 hbox hb; have BK322 := aS (hbox); have GW322 := gW (w := w) hg tB; have GE322 := GW322; have NB321_322 := nL hg BK321; have NB322_321 := nR hg BK321; replace BK321 := bB BK321 hb; replace HB := aS (below_step tB hb); clear hb hbox hg; obtain ⟨hnb14, hnc14⟩ := bO NB321_322 NB322_321; obtain ⟨hcz15_0, hcz15_1, hcz15_2, hcz15_3, hfz15_0, hfz15_1, hfz15_2, hfz15_3⟩ := c4 BK321; have hcz16_0 := cA BK322 0; have hcz16_1 := cA BK322 1; have hcz16_2 := cA BK322 2; have hcz16_3 := cA BK322 3; have hfz16_0 := bF BK322 0; have hfz16_1 := bF BK322 1; have hfz16_2 := bF BK322 2; have hfz16_3 := bF BK322 3))
       go_ret; exact ⟨tE, tB⟩
     rw [if_neg c5] at H; have c5b0 : (a0_2 == a1_2) = false := beq_eq_false_iff_ne.mpr c5; have c5b1 : (a0_2 != a1_2) = true := bne_iff_ne.mpr c5; obtain rfl := oI H
     go_enter Try.func77, Try.ntmps77
     go_wp2_with (first | ((with_reducible refine gD 2 ?_); refine boxS (N := 2) (cs := #[.string a0_0, .int .i64 a0_1, .int .i64 a0_2, .bool a0_3]) (t := 56) ?_; intro gb321 hg w17 hbox hb; have BK321 := aS (hbox); have GW321 := gW (w := w) hg tB; have GE321 := GW321; replace HB := aS (below_step tB hb); clear hb hbox hg) | ((with_reducible refine gD 3 ?_); refine boxS (N := 3) (cs := #[.string a1_0, .int .i64 a1_1, .int .i64 a1_2, .bool a1_3]) (t := 56) ?_; intro gb322 hg w18 hbox hb; have BK322 := aS (hbox); have GW322 := gW (w := w) hg tB; have GE322 := GW322; have NB321_322 := nL hg BK321; have NB322_321 := nR hg BK321; replace BK321 := bB BK321 hb; replace HB := aS (below_step tB hb); clear hb hbox hg; obtain ⟨hnb19, hnc19⟩ := bO NB321_322 NB322_321; obtain ⟨hcz20_0, hcz20_1, hcz20_2, hcz20_3, hfz20_0, hfz20_1, hfz20_2, hfz20_3⟩ := c4 BK321; have hcz21_0 := cA BK322 0; have hcz21_1 := cA BK322 1; have hcz21_2 := cA BK322 2; have hcz21_3 := cA BK322 3; have hfz21_0 := bF BK322 0; have hfz21_1 := bF BK322 1; have hfz21_2 := bF BK322 2; have hfz21_3 := bF BK322 3))
     go_ret; exact ⟨tE, tB⟩
   rw [if_neg c4] at H; have c4b0 : (a0_1 == a1_1) = false := beq_eq_false_iff_ne.mpr c4; have c4b1 : (a0_1 != a1_1) = true := bne_iff_ne.mpr c4; clear c4; obtain rfl := oI H
   go_enter Try.func77, Try.ntmps77
   go_wp2_with (first | ((with_reducible refine gD 2 ?_); refine boxS (N := 2) (cs := #[.string a0_0, .int .i64 a0_1, .int .i64 a0_2, .bool a0_3]) (t := 56) ?_; intro gb321 hg w22 hbox hb; have BK321 := aS (hbox); have GW321 := gW (w := w) hg tB; have GE321 := GW321; replace HB := aS (below_step tB hb); clear hb hbox hg) | ((with_reducible refine gD 3 ?_); refine boxS (N := 3) (cs := #[.string a1_0, .int .i64 a1_1, .int .i64 a1_2, .bool a1_3]) (t := 56) ?_; intro gb322 hg w23 hbox hb; have BK322 := aS (hbox); have GW322 := gW (w := w) hg tB; have GE322 := GW322; have NB321_322 := nL hg BK321; have NB322_321 := nR hg BK321; replace BK321 := bB BK321 hb; replace HB := aS (below_step tB hb); clear hb hbox hg; obtain ⟨hnb24, hnc24⟩ := bO NB321_322 NB322_321; obtain ⟨hcz25_0, hcz25_1, hcz25_2, hcz25_3, hfz25_0, hfz25_1, hfz25_2, hfz25_3⟩ := c4 BK321; have hcz26_0 := cA BK322 0; have hcz26_1 := cA BK322 1; have hcz26_2 := cA BK322 2; have hcz26_3 := cA BK322 3; have hfz26_0 := bF BK322 0; have hfz26_1 := bF BK322 1; have hfz26_2 := bF BK322 2; have hfz26_3 := bF BK322 3))
   go_ret; exact ⟨tE, tB⟩
 rw [if_neg c3] at H; have c3b0 : (a0_0.toList == a1_0.toList) = false := beq_eq_false_iff_ne.mpr c3; have c3b1 : (a0_0.toList != a1_0.toList) = true := bne_iff_ne.mpr c3; obtain rfl := oI H
 go_enter Try.func77, Try.ntmps77
 go_wp2_with (first | ((with_reducible refine gD 2 ?_); refine boxS (N := 2) (cs := #[.string a0_0, .int .i64 a0_1, .int .i64 a0_2, .bool a0_3]) (t := 56) ?_; intro gb321 hg w27 hbox hb; have BK321 := aS (hbox); have GW321 := gW (w := w) hg tB; have GE321 := GW321; replace HB := aS (below_step tB hb); clear hb hbox hg) | ((with_reducible refine gD 3 ?_); refine boxS (N := 3) (cs := #[.string a1_0, .int .i64 a1_1, .int .i64 a1_2, .bool a1_3]) (t := 56) ?_; intro gb322 hg w28 hbox hb; have BK322 := aS (hbox); have GW322 := gW (w := w) hg tB; have GE322 := GW322; have NB321_322 := nL hg BK321; have NB322_321 := nR hg BK321; replace BK321 := bB BK321 hb; replace HB := aS (below_step tB hb); clear hb hbox hg; obtain ⟨hnb29, hnc29⟩ := bO NB321_322 NB322_321; obtain ⟨hcz30_0, hcz30_1, hcz30_2, hcz30_3, hfz30_0, hfz30_1, hfz30_2, hfz30_3⟩ := c4 BK321; have hcz31_0 := cA BK322 0; have hcz31_1 := cA BK322 1; have hcz31_2 := cA BK322 2; have hcz31_3 := cA BK322 3; have hfz31_0 := bF BK322 0; have hfz31_1 := bF BK322 1; have hfz31_2 := bF BK322 2; have hfz31_3 := bF BK322 3))
 go_ret; exact ⟨tE, tB⟩

end Go.Proofs.Ytihcollncjcpgaa.E
