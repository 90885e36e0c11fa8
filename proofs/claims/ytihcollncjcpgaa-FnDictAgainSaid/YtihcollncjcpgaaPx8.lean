/- Contracts of the Go functions that the seat's laws reach, one after the other: the machine's call comes to what the plain Lean function beside it says; no conditions but those that each contract names. Laid by this session's program wip/pp.py, which drives the kit's printer. -/
import Derived.Test.YtihcollncjcpgaaPx0
import Derived.Test.YtihcollncjcpgaaPx2
import Derived.Test.YtihcollncjcpgaaPx4
import Derived.Test.YtihcollncjcpgaaPx5
import Derived.Test.YtihcollncjcpgaaPx7
namespace Go.Proofs.Ytihcollncjcpgaa.P
open Go.RowKit Go.Proofs.YtihcollncjcpgaaW.PrintWords Go.Proofs.YtihcollncjcpgaaW.PrintLast Go.Proofs.YtihcollncjcpgaaW.PrintMore
attribute [local go_sem] max2_int min2_int max_two min_two max_three min_three max_four min_four   -- for this text's walks alone
set_option linter.unusedVariables false
set_option linter.unusedSimpArgs false

/-! ### spec_DictSet: function 17 -/
mutual
def spec_DictSet.j0 : Nat → ByteArray → Int → Bool → List Int → List (S56) → Option (List Int × (List (S56)) × Bool)
 | 0, _, _, _, _, _ => none
 | k + 1, x1, x2, x20, x229000, x229001 => if x20 = true then (some (([] : List Int), ([] : List (S56)), false)) else ((spec_slotOf.f k x229000 x229001 x1).bind fun t233 => (if 0 ≤ t233 then (if t233 < (x229000.length : Int) then (if (rd x229000 t233) < 0 then ((spec_liveEntries.f k x229000 x229001).bind fun t235 => (spec_DictSet.j1 k x1 x2 (decide (t235 ≥ 40)) x229000 x229001)) else (spec_DictSet.j1 k x1 x2 false x229000 x229001)) else (none)) else (none)))
def spec_DictSet.j1 : Nat → ByteArray → Int → Bool → List Int → List (S56) → Option (List Int × (List (S56)) × Bool)
 | 0, _, _, _, _, _ => none
 | k + 1, x1, x2, x34, x229000, x229001 => if x34 = true then ((spec_copyDict.f x229000 x229001).bind fun bt236 => (some (bt236.1, bt236.2, false))) else ((spec_setKey.f k x229000 x229001 x1 x2).bind fun bt242 => (some (bt242.1, bt242.2, true)))
end
def spec_DictSet.f (k : Nat) (l0_0 : List Int) (l0_1 : List (S56)) (a1 : ByteArray) (a2 : Int) : Option (List Int × (List (S56)) × Bool) := (spec_validDict.f k l0_0 l0_1).bind fun t230 => (if t230 = true then ((spec_validKey.f a1).bind fun t231 => (if t231 = true then ((spec_inRange.f a2 (-1000000) 1000000).bind fun t232 => (spec_DictSet.j0 k a1 a2 (!t232) l0_0 l0_1)) else (spec_DictSet.j0 k a1 a2 true l0_0 l0_1))) else (spec_DictSet.j0 k a1 a2 true l0_0 l0_1))
theorem spec_DictSet.mono_l : ∀ k, (∀ y0 y1 y2 y3 y4, LeO (spec_DictSet.j0 k y0 y1 y2 y3 y4) (spec_DictSet.j0 (k + 1) y0 y1 y2 y3 y4)) ∧ (∀ y0 y1 y2 y3 y4, LeO (spec_DictSet.j1 k y0 y1 y2 y3 y4) (spec_DictSet.j1 (k + 1) y0 y1 y2 y3 y4))
 | 0 => ⟨fun _ _ _ _ _ r h => by simp [spec_DictSet.j0] at h, fun _ _ _ _ _ r h => by simp [spec_DictSet.j1] at h⟩
 | k + 1 => by
  obtain ⟨ih0, ih1⟩ := spec_DictSet.mono_l k; refine ⟨?_, ?_⟩
  · intro y0 y1 y2 y3 y4
    unfold spec_DictSet.j0
    have m0_ := @spec_liveEntries.mono; have m1_ := @spec_setKey.mono; have m2_ := @spec_slotOf.mono; have m3_ := @spec_validDict.mono; exact tM
  intro y0 y1 y2 y3 y4
  unfold spec_DictSet.j1
  have m0_ := @spec_liveEntries.mono; have m1_ := @spec_setKey.mono; have m2_ := @spec_slotOf.mono; have m3_ := @spec_validDict.mono; exact tM
theorem spec_DictSet.mono : ∀ a0 a1 a2 a3 k, LeO (spec_DictSet.f k a0 a1 a2 a3) (spec_DictSet.f (k + 1) a0 a1 a2 a3) := by
 intro a0 a1 a2 a3 k; obtain ⟨ih0, ih1⟩ := spec_DictSet.mono_l k
 unfold spec_DictSet.f
 have m0_ := @spec_liveEntries.mono; have m1_ := @spec_setKey.mono; have m2_ := @spec_slotOf.mono; have m3_ := @spec_validDict.mono; exact tM
def spec_DictSet.T3 : Bool × List (List Nat × List Nat) := (true, [([], []), ([0], [0]), ([], []), ([], []), ([2, 3], [2, 3]), ([1, 4], [1, 4]), ([5], [5]), ([6], [6]), ([7, 4], [7]), ([8], [8]), ([9, 8, 8], [8, 9]), ([10, 8], [8, 10]), ([8, 11], [8, 11])])
def spec_DictSet.B3 : List Nat := [0, 1, 0, 0, 12, 31, 63, 127, 255, 511, 1023, 2047, 4095]
theorem spec_DictSet.tab3 : rtab .any (opsOf Try.f17 3) = spec_DictSet.T3 := by kernel_rfl
theorem spec_DictSet.bits3 : waitsOk spec_DictSet.T3.2 spec_DictSet.B3 = true := by kernel_rfl
set_option maxHeartbeats 8000000 in
set_option maxRecDepth 100000 in
theorem spec_DictSet.calls (k : Nat) (A0_0 : Option Addr) (c0_0 : Nat) (l0_0 : List Int) (A0_1 : Option Addr) (c0_1 : Nat) (l0_1 : List (S56)) (a1 : ByteArray) (a2 : Int) (r1 : List Int) (r2 : List (S56)) (r3 : Bool) (w : World) (hr0_0 : Kd.C (Kd.int .i64) w A0_0 l0_0.length l0_0) (hc0_0 : l0_0.length ≤ c0_0) (hr0_1 : Kd.C k56 w A0_1 l0_1.length l0_1) (hc0_1 : l0_1.length ≤ c0_1) (h : spec_DictSet.f k l0_0 l0_1 a1 a2 = some (r1, r2, r3)) :
 Calls Try.prog 17 #[.agg #[.slice A0_0 l0_0.length c0_0, .slice A0_1 l0_1.length c0_1], .string a1, .int .i64 a2] w fun e w' => ∃ v0_ v1_ : Value, e = .returned (.tuple #[.agg #[v0_, v1_], .bool r3]) ∧ Kd.R (Kd.int .i64) 3 w' w.heap.size (fun _ => True) v0_ r1 ∧ Kd.R k56 56 w' w.heap.size (fun _ => True) v1_ r2 ∧ Below w.heap.size w w' := by
 have hu26 := Try.underlying26; have HR0_0 := aS hr0_0; have HC0_0 := aS hc0_0; clear hr0_0 hc0_0; have HR0_1 := aS hr0_1; have HC0_1 := aS hc0_1; clear hr0_1 hc0_1; have HB := aS (Below.refl w.heap.size w); have H : ((spec_validDict.f k l0_0 l0_1).bind fun t230 => (if t230 = true then ((spec_validKey.f a1).bind fun t231 => (if t231 = true then ((spec_inRange.f a2 (-1000000) 1000000).bind fun t232 => (spec_DictSet.j0 k a1 a2 (!t232) l0_0 l0_1)) else (spec_DictSet.j0 k a1 a2 true l0_0 l0_1))) else (spec_DictSet.j0 k a1 a2 true l0_0 l0_1))) = some (r1, r2, r3) := h; clear h; have HC4 := aS H; clear H
 go_enter Try.func17, Try.ntmps17
 go_upto_region 1 with (first | ((with_reducible refine gD 3 ?_); refine boxS (N := 3) (cs := #[.slice A0_0 l0_0.length c0_0, .slice A0_1 l0_1.length c0_1]) (t := 26) ?_; intro gb228 hg w5 hbox hb; have BK228 := aS (hbox); have GW228 := gW (w := w) hg tB; have GE228 := GW228; replace HB := aS (below_step tB hb); clear hb hbox hg) | ((with_reducible refine gD 6 ?_); refine boxS (N := 6) (cs := #[.slice none 0 0, .slice none 0 0]) (t := 26) ?_; intro gb229 hg w6 hbox hb; have BK229 := aS (hbox); have GW229 := gW (w := w) hg tB; have GE229 := GW229; have NB228_229 := nL hg BK228; have NB229_228 := nR hg BK228; replace BK228 := bB BK228 hb; replace HB := aS (below_step tB hb); clear hb hbox hg))
 (try simp only [Act.put, List.setIfInBounds_toArray, List.set_cons_zero, List.set_cons_succ])
 go_cut [20] (fun v20 wc => ∃ (kq : Nat) (x20_3 : Bool), v20 = .bool x20_3 ∧ Aside0 (spec_DictSet.j0 kq a1 a2 x20_3 l0_0 l0_1 = some (r1, r2, r3)) ∧ Aside0 (kq ≤ k) ∧ Aside0 (wc.heap[gb228]? = some (.cells #[(.slice A0_0 l0_0.length c0_0), (.slice A0_1 l0_1.length c0_1)] 26 (0, 0))) ∧ Aside0 (wc.heap[gb229]? = some (.cells #[(.slice none 0 0), (.slice none 0 0)] 26 (0, 0))) ∧ Aside0 (Below w.heap.size w wc))
 case first =>
  have H := HC4.out; clear HC4; replace H := oB H; obtain ⟨t230, A70, H⟩ := H; replace H : (if t230 = true then ((spec_validKey.f a1).bind fun t231 => (if t231 = true then ((spec_inRange.f a2 (-1000000) 1000000).bind fun t232 => (spec_DictSet.j0 k a1 a2 (!t232) l0_0 l0_1)) else (spec_DictSet.j0 k a1 a2 true l0_0 l0_1))) else (spec_DictSet.j0 k a1 a2 true l0_0 l0_1)) = some (r1, r2, r3) := H; have A7 := aS A70; clear A70; by_cases c8 : t230 = true
  · subst c8; have H1 : ((spec_validKey.f a1).bind fun t231 => (if t231 = true then ((spec_inRange.f a2 (-1000000) 1000000).bind fun t232 => (spec_DictSet.j0 k a1 a2 (!t232) l0_0 l0_1)) else (spec_DictSet.j0 k a1 a2 true l0_0 l0_1))) = some (r1, r2, r3) := by rw [if_pos rfl] at H; exact H
    clear H; have H := H1; clear H1; replace H := oB H; obtain ⟨t231, A90, H⟩ := H; replace H : (if t231 = true then ((spec_inRange.f a2 (-1000000) 1000000).bind fun t232 => (spec_DictSet.j0 k a1 a2 (!t232) l0_0 l0_1)) else (spec_DictSet.j0 k a1 a2 true l0_0 l0_1)) = some (r1, r2, r3) := H; have A9 := aS A90; clear A90; by_cases c10 : t231 = true
    · subst c10; have H1 : ((spec_inRange.f a2 (-1000000) 1000000).bind fun t232 => (spec_DictSet.j0 k a1 a2 (!t232) l0_0 l0_1)) = some (r1, r2, r3) := by rw [if_pos rfl] at H; exact H
      clear H; have H := H1; clear H1; replace H := oB H; obtain ⟨t232, A110, H⟩ := H; replace H : (spec_DictSet.j0 k a1 a2 (!t232) l0_0 l0_1) = some (r1, r2, r3) := H; have A11 := aS A110; clear A110; have H' := aS H; clear H; obtain ⟨hnb12, hnc12⟩ := bO NB228_229 NB229_228; obtain ⟨hcz13_0, hcz13_1, hfz13_0, hfz13_1⟩ := c2 BK228
      go_wp2_with (first | ((with_reducible refine gC 31 ?_); refine goS (some 9) Try.func31 #[.agg #[.slice A0_0 l0_0.length c0_0, .slice A0_1 l0_1.length c0_1]] ?_; (with_reducible refine (spec_validDict.calls k _ _ l0_0 _ _ l0_1 true _ ?side1 ?side2 ?side3 ?side4 A7.out).mono ?_); (case side1 => exact tC (Kd.C_below HR0_0.out HB.out)); (case side2 => exact HC0_0.out); (case side3 => exact tC (Kd.C_below HR0_1.out HB.out)); (case side4 => exact HC0_1.out); rintro e w14 ⟨rfl, hb⟩; refine ⟨_, rfl, ?_⟩; replace BK228 := bB BK228 hb; replace BK229 := bB BK229 hb; replace HB := aS (below_step tB hb); clear hb) | (go_at_call 32; (with_reducible refine (spec_validKey.calls a1 true _ A9.out).mono ?_); rintro e w' ⟨rfl, ⟨nd, rfl⟩⟩) | (go_at_call 46; (with_reducible refine (spec_inRange.calls a2 (-1000000) 1000000 t232 _ A11.out).mono ?_); rintro e w' ⟨rfl, ⟨nd, rfl⟩⟩))
      go_meet
      case rel => exact ⟨_, (!t232), tX, H', ⟨by first | omega | exact Nat.le_refl _⟩, ⟨tZ⟩, ⟨tZ⟩, ⟨tB⟩⟩
    replace c10 := Bool.eq_false_iff.mpr c10; subst c10; have H1 : (spec_DictSet.j0 k a1 a2 true l0_0 l0_1) = some (r1, r2, r3) := by rw [if_neg (show ¬ (false = true) by decide)] at H; exact H
    clear H; have H := H1; clear H1; have H' := aS H; clear H; obtain ⟨hnb15, hnc15⟩ := bO NB228_229 NB229_228; obtain ⟨hcz16_0, hcz16_1, hfz16_0, hfz16_1⟩ := c2 BK228
    go_wp2_with (first | ((with_reducible refine gC 31 ?_); refine goS (some 9) Try.func31 #[.agg #[.slice A0_0 l0_0.length c0_0, .slice A0_1 l0_1.length c0_1]] ?_; (with_reducible refine (spec_validDict.calls k _ _ l0_0 _ _ l0_1 true _ ?side1 ?side2 ?side3 ?side4 A7.out).mono ?_); (case side1 => exact tC (Kd.C_below HR0_0.out HB.out)); (case side2 => exact HC0_0.out); (case side3 => exact tC (Kd.C_below HR0_1.out HB.out)); (case side4 => exact HC0_1.out); rintro e w17 ⟨rfl, hb⟩; refine ⟨_, rfl, ?_⟩; replace BK228 := bB BK228 hb; replace BK229 := bB BK229 hb; replace HB := aS (below_step tB hb); clear hb) | (go_at_call 32; (with_reducible refine (spec_validKey.calls a1 false _ A9.out).mono ?_); rintro e w' ⟨rfl, ⟨nd, rfl⟩⟩))
    go_meet
    case rel => exact ⟨_, (true), tX, H', ⟨by first | omega | exact Nat.le_refl _⟩, ⟨tZ⟩, ⟨tZ⟩, ⟨tB⟩⟩
  replace c8 := Bool.eq_false_iff.mpr c8; subst c8; have H1 : (spec_DictSet.j0 k a1 a2 true l0_0 l0_1) = some (r1, r2, r3) := by rw [if_neg (show ¬ (false = true) by decide)] at H; exact H
  clear H; have H := H1; clear H1; have H' := aS H; clear H; obtain ⟨hnb18, hnc18⟩ := bO NB228_229 NB229_228; obtain ⟨hcz19_0, hcz19_1, hfz19_0, hfz19_1⟩ := c2 BK228
  go_wp2_with (first | ((with_reducible refine gC 31 ?_); refine goS (some 9) Try.func31 #[.agg #[.slice A0_0 l0_0.length c0_0, .slice A0_1 l0_1.length c0_1]] ?_; (with_reducible refine (spec_validDict.calls k _ _ l0_0 _ _ l0_1 false _ ?side1 ?side2 ?side3 ?side4 A7.out).mono ?_); (case side1 => exact tC (Kd.C_below HR0_0.out HB.out)); (case side2 => exact HC0_0.out); (case side3 => exact tC (Kd.C_below HR0_1.out HB.out)); (case side4 => exact HC0_1.out); rintro e w20 ⟨rfl, hb⟩; refine ⟨_, rfl, ?_⟩; replace BK228 := bB BK228 hb; replace BK229 := bB BK229 hb; replace HB := aS (below_step tB hb); clear hb))
  go_meet
  case rel => exact ⟨_, (true), tX, H', ⟨by first | omega | exact Nat.le_refl _⟩, ⟨tZ⟩, ⟨tZ⟩, ⟨tB⟩⟩
 case rest =>
  clear HC4; obtain ⟨kq, x20_3, rfl, HA, HJ3, BK228, BK229, HB⟩ := hcut
  cases kq with
  | zero => exact absurd HA.out (by simp [spec_DictSet.j0])
  | succ kj3 =>
   have H := HA.out; clear HA; simp only [spec_DictSet.j0] at H; by_cases c21 : x20_3 = true
   · subst c21; have H1 : (some (([] : List Int), ([] : List (S56)), false)) = some (r1, r2, r3) := by rw [if_pos rfl] at H; exact H
     clear H; have H := H1; clear H1; simp only [Option.some.injEq, Prod.mk.injEq] at H; obtain ⟨rfl, rfl, rfl⟩ := H; obtain ⟨hnb22, hnc22⟩ := bO NB229_228 NB228_229; obtain ⟨hcz23_0, hcz23_1, hfz23_0, hfz23_1⟩ := c2 BK229; go_wp2; refine bodyPost_ret (results_ct rfl _ _ gb229 26 #[.slice none 0 0, .slice none 0 0] (0, 0) _ rfl tZ Try.underlying26 rfl (by kernel_rfl)) rfl ?_; exact ⟨_, _, tE, by first | exact Kd.R_nil _ _ _ _ _ | exact Kd.N_nil _ _ _ _ _ | exact Kd.V_nil _ _ _ _ _ | exact Kd.Q_nil _ _ _ _ _ | exact Kd.S_nil _ _ _ _ _, by first | exact Kd.R_nil _ _ _ _ _ | exact Kd.N_nil _ _ _ _ _ | exact Kd.V_nil _ _ _ _ _ | exact Kd.Q_nil _ _ _ _ _ | exact Kd.S_nil _ _ _ _ _, tB⟩
   replace c21 := Bool.eq_false_iff.mpr c21; subst c21; have H1 : ((spec_slotOf.f kj3 l0_0 l0_1 a1).bind fun t233 => (if 0 ≤ t233 then (if t233 < (l0_0.length : Int) then (if (rd l0_0 t233) < 0 then ((spec_liveEntries.f kj3 l0_0 l0_1).bind fun t235 => (spec_DictSet.j1 kj3 a1 a2 (decide (t235 ≥ 40)) l0_0 l0_1)) else (spec_DictSet.j1 kj3 a1 a2 false l0_0 l0_1)) else (none)) else (none))) = some (r1, r2, r3) := by rw [if_neg (show ¬ (false = true) by decide)] at H; exact H
   clear H; have H := H1; clear H1; have HC24 := aS H; clear H
   go_upto_region 3 with (fail)
   go_cut [34] (fun v34 wc => ∃ (kq : Nat) (x34_23 : Bool), v34 = .bool x34_23 ∧ Aside0 (spec_DictSet.j1 kq a1 a2 x34_23 l0_0 l0_1 = some (r1, r2, r3)) ∧ Aside0 (kq ≤ kj3) ∧ Aside0 (wc.heap[gb228]? = some (.cells #[(.slice A0_0 l0_0.length c0_0), (.slice A0_1 l0_1.length c0_1)] 26 (0, 0))) ∧ Aside0 (wc.heap[gb229]? = some (.cells #[(.slice none 0 0), (.slice none 0 0)] 26 (0, 0))) ∧ Aside0 (Below w.heap.size w wc))
   case first =>
    have H := HC24.out; clear HC24; replace H := oB H; obtain ⟨t233, A250, H⟩ := H; replace H : (if 0 ≤ t233 then (if t233 < (l0_0.length : Int) then (if (rd l0_0 t233) < 0 then ((spec_liveEntries.f kj3 l0_0 l0_1).bind fun t235 => (spec_DictSet.j1 kj3 a1 a2 (decide (t235 ≥ 40)) l0_0 l0_1)) else (spec_DictSet.j1 kj3 a1 a2 false l0_0 l0_1)) else (none)) else (none)) = some (r1, r2, r3) := H; have A25 := aS A250; clear A250; by_cases c26 : 0 ≤ t233
    case neg =>
     rw [if_neg c26] at H; exact nS H
    rw [if_pos c26] at H; have c26b0 : decide (0 ≤ t233) = true := decide_eq_true c26; clear c26
    (first | rw [c26b0] | (simp only [i64_w, i32_w]; rw [c26b0]) | skip)
    by_cases c27 : t233 < (l0_0.length : Int)
    case neg =>
     rw [if_neg c27] at H; exact nS H
    rw [if_pos c27] at H; have c27b0 : decide (t233 < (l0_0.length : Int)) = true := decide_eq_true c27; clear c27; by_cases c28 : (rd l0_0 t233) < 0
    · rw [if_pos c28] at H; have c28b0 : decide ((rd l0_0 t233) < 0) = true := decide_eq_true c28; clear c28; replace H := oB H; obtain ⟨t235, A290, H⟩ := H; replace H : (spec_DictSet.j1 kj3 a1 a2 (decide (t235 ≥ 40)) l0_0 l0_1) = some (r1, r2, r3) := H; have A29 := aS A290; clear A290; have H' := aS H; clear H
      try go_wp2
      have n0_ := aS (blk_drew BK228.out); have n1_ := aS (blk_drew BK229.out); have n2_ := aS (below_drew1 HB.out); clear BK228; clear BK229; clear HB; have BK228 := n0_; have BK229 := n1_; have HB := n2_; clear n0_ n1_ n2_; have p234 : 0 ≤ (t233 : Int) := of_decide_eq_true tP; have q234 : t233 < (l0_0.length : Int) := of_decide_eq_true tP; obtain ⟨ad234, e234, hx234_0⟩ := Kd.at_int HR0_0.out t233 p234 q234; have hw234_0 := hx234_0; cases e234; replace hx234_0 := cB HB hx234_0; replace p234 := eq_true p234; replace q234 := eq_true q234; refine start_ (n := 13) (S := fun w' => w'.cell? ⟨gb228, 0, none⟩ = some (.slice (some ad234) l0_0.length c0_0) ∧ w'.cell? ⟨gb228, 1, none⟩ = some (.slice A0_1 l0_1.length c0_1) ∧ w'.cell? (ad234.add (t233).toNat) = some (.int .i64 (rd l0_0 t233))) (ds := []) (.replicate 13 false) (by kernel_rfl) rfl rfl ⟨(blk_cell BK228.out 0).trans rfl, (blk_cell BK228.out 1).trans rfl, ((HB.out.cell (World.block_lt_of_cell? w _ hw234_0)).trans hw234_0)⟩ (fun hHeld => ?_); refine with_tabW spec_DictSet.tab3 spec_DictSet.bits3 (fun HT_ HW_ => ?_); generalize wc.drew = w30 at BK228 BK229 HB hx234_0 hHeld ⊢; refine pN 0 22 ?_; refine pN 3 25 ?_; refine tN 1 23 ?_; refine tN 2 24 ?_; refine oN 4 26 (fun K hK => ?_); refine goes_ Try.func34 (by kernel_rfl) rfl #[.agg #[.slice (some ad234) l0_0.length c0_0, .slice A0_1 l0_1.length c0_1], .string a1] (by rfl) rfl rfl tA ?_
      with_reducible refine (spec_slotOf.calls kj3 _ _ l0_0 _ _ l0_1 a1 t233 _ ?side1 ?side2 ?side3 ?side4 A25.out).mono ?_
      (case side1 => exact tC (Kd.C_below HR0_0.out HB.out))
      (case side2 => exact HC0_0.out)
      (case side3 => exact tC (Kd.C_below HR0_1.out HB.out))
      (case side4 => exact HC0_1.out)
      rintro e w31 ⟨rfl, hb⟩; refine ⟨_, rfl, ?_⟩; have n0_ := bB BK228 hb; have n1_ := bB BK229 hb; have n2_ := aS (below_step tB hb); clear BK228; clear BK229; clear HB; have BK228 := n0_; have BK229 := n1_; have HB := n2_; clear n0_ n1_ n2_
      try clear hb
      refine hK.out _ _ ⟨(blk_cell BK228.out 0).trans rfl, (blk_cell BK228.out 1).trans rfl, ((HB.out.cell (World.block_lt_of_cell? w _ hw234_0)).trans hw234_0)⟩ (fun hHeld => ?_); clear hK K; refine norm_ (a' := ?_) ?_ ?_
      rotate_left
      · show Act.put _ (some 26) _ = _
        simp only [Act.put, List.setIfInBounds_toArray, List.set_cons_zero, List.set_cons_succ, i64_w, i32_w]
        rfl
      refine pN 5 27 ?_; refine tN 6 28 ?_; refine pN 7 29 ?_; refine pN 8 30 ?_; refine tN 9 31 ?_; refine oN 10 32 (fun K hK => ?_); refine goes_ Try.func47 (by kernel_rfl) rfl #[.agg #[.slice (some ad234) l0_0.length c0_0, .slice A0_1 l0_1.length c0_1]] (by rfl) rfl rfl tA ?_
      with_reducible refine (spec_liveEntries.calls kj3 _ _ l0_0 _ _ l0_1 t235 _ ?side1 ?side2 ?side3 ?side4 A29.out).mono ?_
      (case side1 => exact tC (Kd.C_below HR0_0.out HB.out))
      (case side2 => exact HC0_0.out)
      (case side3 => exact tC (Kd.C_below HR0_1.out HB.out))
      (case side4 => exact HC0_1.out)
      rintro e w32 ⟨rfl, hb⟩; refine ⟨_, rfl, ?_⟩; have n0_ := bB BK228 hb; have n1_ := bB BK229 hb; have n2_ := aS (below_step tB hb); clear BK228; clear BK229; clear HB; have BK228 := n0_; have BK229 := n1_; have HB := n2_; clear n0_ n1_ n2_
      try clear hb
      refine hK.out _ _ ⟨(blk_cell BK228.out 0).trans rfl, (blk_cell BK228.out 1).trans rfl, ((HB.out.cell (World.block_lt_of_cell? w _ hw234_0)).trans hw234_0)⟩ (fun hHeld => ?_); clear hK K; refine norm_ (a' := ?_) ?_ ?_
      rotate_left
      · show Act.put _ (some 32) _ = _
        simp only [Act.put, List.setIfInBounds_toArray, List.set_cons_zero, List.set_cons_succ, i64_w, i32_w]
        rfl
      refine pN 11 33 ?_; refine pN 12 34 ?_; refine dN ?_
      try go_wp2
      go_meet
      case rel => exact ⟨_, (decide (t235 ≥ 40)), tX, H', ⟨by have := HJ3.out; first | omega | exact Nat.le_refl _⟩, ⟨tZ⟩, ⟨tZ⟩, ⟨tB⟩⟩
    rw [if_neg c28] at H; have c28b0 : decide ((rd l0_0 t233) < 0) = false := decide_eq_false c28; clear c28; have H' := aS H; clear H
    try go_wp2
    have n0_ := aS (blk_drew BK228.out); have n1_ := aS (blk_drew BK229.out); have n2_ := aS (below_drew1 HB.out); clear BK228; clear BK229; clear HB; have BK228 := n0_; have BK229 := n1_; have HB := n2_; clear n0_ n1_ n2_; have p234 : 0 ≤ (t233 : Int) := of_decide_eq_true tP; have q234 : t233 < (l0_0.length : Int) := of_decide_eq_true tP; obtain ⟨ad234, e234, hx234_0⟩ := Kd.at_int HR0_0.out t233 p234 q234; have hw234_0 := hx234_0; cases e234; replace hx234_0 := cB HB hx234_0; replace p234 := eq_true p234; replace q234 := eq_true q234; refine start_ (n := 13) (S := fun w' => w'.cell? ⟨gb228, 0, none⟩ = some (.slice (some ad234) l0_0.length c0_0) ∧ w'.cell? ⟨gb228, 1, none⟩ = some (.slice A0_1 l0_1.length c0_1) ∧ w'.cell? (ad234.add (t233).toNat) = some (.int .i64 (rd l0_0 t233))) (ds := []) (.replicate 13 false) (by kernel_rfl) rfl rfl ⟨(blk_cell BK228.out 0).trans rfl, (blk_cell BK228.out 1).trans rfl, ((HB.out.cell (World.block_lt_of_cell? w _ hw234_0)).trans hw234_0)⟩ (fun hHeld => ?_); refine with_tabW spec_DictSet.tab3 spec_DictSet.bits3 (fun HT_ HW_ => ?_); generalize wc.drew = w33 at BK228 BK229 HB hx234_0 hHeld ⊢; refine pN 0 22 ?_; refine pN 3 25 ?_; refine tN 1 23 ?_; refine tN 2 24 ?_; refine oN 4 26 (fun K hK => ?_); refine goes_ Try.func34 (by kernel_rfl) rfl #[.agg #[.slice (some ad234) l0_0.length c0_0, .slice A0_1 l0_1.length c0_1], .string a1] (by rfl) rfl rfl tA ?_
    with_reducible refine (spec_slotOf.calls kj3 _ _ l0_0 _ _ l0_1 a1 t233 _ ?side1 ?side2 ?side3 ?side4 A25.out).mono ?_
    (case side1 => exact tC (Kd.C_below HR0_0.out HB.out))
    (case side2 => exact HC0_0.out)
    (case side3 => exact tC (Kd.C_below HR0_1.out HB.out))
    (case side4 => exact HC0_1.out)
    rintro e w34 ⟨rfl, hb⟩; refine ⟨_, rfl, ?_⟩; have n0_ := bB BK228 hb; have n1_ := bB BK229 hb; have n2_ := aS (below_step tB hb); clear BK228; clear BK229; clear HB; have BK228 := n0_; have BK229 := n1_; have HB := n2_; clear n0_ n1_ n2_
    try clear hb
    refine hK.out _ _ ⟨(blk_cell BK228.out 0).trans rfl, (blk_cell BK228.out 1).trans rfl, ((HB.out.cell (World.block_lt_of_cell? w _ hw234_0)).trans hw234_0)⟩ (fun hHeld => ?_); clear hK K; refine norm_ (a' := ?_) ?_ ?_
    rotate_left
    · show Act.put _ (some 26) _ = _
      simp only [Act.put, List.setIfInBounds_toArray, List.set_cons_zero, List.set_cons_succ, i64_w, i32_w]
      rfl
    refine pN 5 27 ?_; refine tN 6 28 ?_; refine pN 7 29 ?_; refine pN 8 30 ?_; refine uN 9 31 ?_; refine uN 10 32 ?_; refine uN 11 33 ?_; refine pN 12 34 ?_; refine dN ?_
    try go_wp2
    go_meet
    case rel => exact ⟨_, (false), tX, H', ⟨by have := HJ3.out; first | omega | exact Nat.le_refl _⟩, ⟨tZ⟩, ⟨tZ⟩, ⟨tB⟩⟩
   case rest =>
    clear HC24; obtain ⟨kq, x34_23, rfl, HA, HJ23, BK228, BK229, HB⟩ := hcut
    cases kq with
    | zero => exact absurd HA.out (by simp [spec_DictSet.j1])
    | succ kj23 =>
     have H := HA.out; clear HA; simp only [spec_DictSet.j1] at H; by_cases c35 : x34_23 = true
     · subst c35; have H1 : ((spec_copyDict.f l0_0 l0_1).bind fun bt236 => (some (bt236.1, bt236.2, false))) = some (r1, r2, r3) := by rw [if_pos rfl] at H; exact H
       clear H; have H := H1; clear H1; replace H := oB H; obtain ⟨⟨t236, t239⟩, A360, H⟩ := H; replace H : (some (t236, t239, false)) = some (r1, r2, r3) := H; have A36 := aS A360; clear A360; simp only [Option.some.injEq, Prod.mk.injEq] at H; obtain ⟨rfl, rfl, rfl⟩ := H; obtain ⟨hnb37, hnc37⟩ := bO NB228_229 NB229_228; obtain ⟨hcz38_0, hcz38_1, hfz38_0, hfz38_1⟩ := c2 BK228
       go_wp2_with (first | ((with_reducible refine gC 33 ?_); refine goS (some 36) Try.func33 #[.agg #[.slice A0_0 l0_0.length c0_0, .slice A0_1 l0_1.length c0_1]] ?_; (with_reducible refine (spec_copyDict.calls _ _ l0_0 _ _ l0_1 t236 t239 _ ?side1 ?side2 ?side3 ?side4 A36.out).mono ?_); (case side1 => exact tC (Kd.C_below HR0_0.out HB.out)); (case side2 => exact HC0_0.out); (case side3 => exact tC (Kd.C_below HR0_1.out HB.out)); (case side4 => exact HC0_1.out); rintro e w39 ⟨v237, v240, rfl, ho0, ho1, hb⟩; refine ⟨_, rfl, ?_⟩; have HO238 := aS (Kd.R_lower ho0 (below_size tB)); have HO241 := aS (Kd.R_lower ho1 (below_size tB)); replace BK228 := bB BK228 hb; replace BK229 := bB BK229 hb; replace HB := aS (below_step tB hb); obtain ⟨Ao40, co40, eo40⟩ := Kd.R_slice HO238.out; subst eo40; obtain ⟨hcz41_0, hcz41_1, hfz41_0, hfz41_1⟩ := c2 BK229; obtain ⟨Ao42, co42, eo42⟩ := Kd.R_slice HO241.out; subst eo42; clear ho0 ho1 hb))
       refine bodyPost_ret (results_ct rfl _ _ gb229 26 #[.slice Ao40 t236.length co40, .slice Ao42 t239.length co42] (0, 0) _ rfl tZ Try.underlying26 rfl (by kernel_rfl)) rfl ?_; exact ⟨_, _, tE, by (with_reducible repeat (first | apply Kd.R_alloc | apply Kd.R_drewN | apply Kd.R_drew)); exact Kd.R_mono (Kd.R_far (p := ⟨gb229, 1, none⟩) (Kd.R_far (p := ⟨gb229, 0, none⟩) (Kd.R_types HO238.out BK229.out (by decide)) (fun _ hk => hk.2) (.slice Ao40 t236.length co40)) (fun _ hk => hk.2) (.slice Ao42 t239.length co42)) (fun _ hk => trivial), by (with_reducible repeat (first | apply Kd.R_alloc | apply Kd.R_drewN | apply Kd.R_drew)); exact Kd.R_mono (Kd.R_far (p := ⟨gb229, 1, none⟩) (Kd.R_far (p := ⟨gb229, 0, none⟩) (Kd.R_types HO241.out BK229.out (by decide)) (fun _ hk => hk.2) (.slice Ao40 t236.length co40)) (fun _ hk => hk.2) (.slice Ao42 t239.length co42)) (fun _ hk => trivial), tB⟩
     replace c35 := Bool.eq_false_iff.mpr c35; subst c35; have H1 : ((spec_setKey.f kj23 l0_0 l0_1 a1 a2).bind fun bt242 => (some (bt242.1, bt242.2, true))) = some (r1, r2, r3) := by rw [if_neg (show ¬ (false = true) by decide)] at H; exact H
     clear H; have H := H1; clear H1; replace H := oB H; obtain ⟨⟨t242, t245⟩, A430, H⟩ := H; replace H : (some (t242, t245, true)) = some (r1, r2, r3) := H; have A43 := aS A430; clear A430; simp only [Option.some.injEq, Prod.mk.injEq] at H; obtain ⟨rfl, rfl, rfl⟩ := H; obtain ⟨hnb44, hnc44⟩ := bO NB228_229 NB229_228; obtain ⟨hcz45_0, hcz45_1, hfz45_0, hfz45_1⟩ := c2 BK228
     go_wp2_with (first | ((with_reducible refine gC 48 ?_); refine goS (some 40) Try.func48 #[.agg #[.slice A0_0 l0_0.length c0_0, .slice A0_1 l0_1.length c0_1], .string a1, .int .i64 a2] ?_; (with_reducible refine (spec_setKey.calls kj23 _ _ l0_0 _ _ l0_1 a1 a2 t242 t245 _ ?side1 ?side2 ?side3 ?side4 A43.out).mono ?_); (case side1 => exact tC (Kd.C_below HR0_0.out HB.out)); (case side2 => exact HC0_0.out); (case side3 => exact tC (Kd.C_below HR0_1.out HB.out)); (case side4 => exact HC0_1.out); rintro e w46 ⟨v243, v246, rfl, ho0, ho1, hb⟩; refine ⟨_, rfl, ?_⟩; have HO244 := aS (Kd.R_lower ho0 (below_size tB)); have HO247 := aS (Kd.R_lower ho1 (below_size tB)); replace BK228 := bB BK228 hb; replace BK229 := bB BK229 hb; replace HB := aS (below_step tB hb); obtain ⟨Ao47, co47, eo47⟩ := Kd.R_slice HO244.out; subst eo47; obtain ⟨hcz48_0, hcz48_1, hfz48_0, hfz48_1⟩ := c2 BK229; obtain ⟨Ao49, co49, eo49⟩ := Kd.R_slice HO247.out; subst eo49; clear ho0 ho1 hb))
     refine bodyPost_ret (results_ct rfl _ _ gb229 26 #[.slice Ao47 t242.length co47, .slice Ao49 t245.length co49] (0, 0) _ rfl tZ Try.underlying26 rfl (by kernel_rfl)) rfl ?_; exact ⟨_, _, tE, by (with_reducible repeat (first | apply Kd.R_alloc | apply Kd.R_drewN | apply Kd.R_drew)); exact Kd.R_mono (Kd.R_far (p := ⟨gb229, 1, none⟩) (Kd.R_far (p := ⟨gb229, 0, none⟩) (Kd.R_types HO244.out BK229.out (by decide)) (fun _ hk => hk.2) (.slice Ao47 t242.length co47)) (fun _ hk => hk.2) (.slice Ao49 t245.length co49)) (fun _ hk => trivial), by (with_reducible repeat (first | apply Kd.R_alloc | apply Kd.R_drewN | apply Kd.R_drew)); exact Kd.R_mono (Kd.R_far (p := ⟨gb229, 1, none⟩) (Kd.R_far (p := ⟨gb229, 0, none⟩) (Kd.R_types HO247.out BK229.out (by decide)) (fun _ hk => hk.2) (.slice Ao47 t242.length co47)) (fun _ hk => hk.2) (.slice Ao49 t245.length co49)) (fun _ hk => trivial), tB⟩

/-! ### spec_rnd_pick: function 45 -/
def spec_rnd_pick.f (s0_0 : List Int) (s0_1 : Int) (a1 : Int) : Option (Int × Int) := if a1 < 2 then (some (0, s0_1)) else (if (s0_0.length : Int) > 0 then (if (s0_0.length : Int) = 0 then (none) else (if 0 ≤ (Int.tmod s0_1 (s0_0.length : Int)) then (if (Int.tmod s0_1 (s0_0.length : Int)) < (s0_0.length : Int) then (if a1 > 256 then (if 0 ≤ (Int.tmod (wrap64 ((wrap64 (s0_1 * 7)) + 3)) (s0_0.length : Int)) then (if (Int.tmod (wrap64 ((wrap64 (s0_1 * 7)) + 3)) (s0_0.length : Int)) < (s0_0.length : Int) then (if a1 = 0 then (none) else (some (Int.tmod (Go.bits .xor .i64 (wrap64 ((wrap64 ((wrap64 ((wrap64 ((wrap64 (rd s0_0 (Int.tmod s0_1 (s0_0.length : Int)))) * 131)) + (wrap64 ((wrap64 (rd s0_0 (Int.tmod (wrap64 ((wrap64 (s0_1 * 7)) + 3)) (s0_0.length : Int)))) * 1117)))) + (wrap64 (s0_1 * 29)))) + (wrap64 ((wrap64 (Int.tdiv s0_1 (s0_0.length : Int))) * 53)))) (wrap64 (Int.tdiv (wrap64 ((wrap64 ((wrap64 ((wrap64 ((wrap64 (rd s0_0 (Int.tmod s0_1 (s0_0.length : Int)))) * 131)) + (wrap64 ((wrap64 (rd s0_0 (Int.tmod (wrap64 ((wrap64 (s0_1 * 7)) + 3)) (s0_0.length : Int)))) * 1117)))) + (wrap64 (s0_1 * 29)))) + (wrap64 ((wrap64 (Int.tdiv s0_1 (s0_0.length : Int))) * 53)))) 64))) a1, wrap64 (s0_1 + 1)))) else (none)) else (none)) else (if s0_1 ≥ (s0_0.length : Int) then (if 0 ≤ (Int.tmod (wrap64 ((wrap64 (s0_1 * 7)) + 3)) (s0_0.length : Int)) then (if (Int.tmod (wrap64 ((wrap64 (s0_1 * 7)) + 3)) (s0_0.length : Int)) < (s0_0.length : Int) then (if a1 = 0 then (none) else (some (Int.tmod (Go.bits .xor .i64 (wrap64 ((wrap64 ((wrap64 ((wrap64 ((wrap64 (rd s0_0 (Int.tmod s0_1 (s0_0.length : Int)))) * 131)) + (wrap64 ((wrap64 (rd s0_0 (Int.tmod (wrap64 ((wrap64 (s0_1 * 7)) + 3)) (s0_0.length : Int)))) * 1117)))) + (wrap64 (s0_1 * 29)))) + (wrap64 ((wrap64 (Int.tdiv s0_1 (s0_0.length : Int))) * 53)))) (wrap64 (Int.tdiv (wrap64 ((wrap64 ((wrap64 ((wrap64 ((wrap64 (rd s0_0 (Int.tmod s0_1 (s0_0.length : Int)))) * 131)) + (wrap64 ((wrap64 (rd s0_0 (Int.tmod (wrap64 ((wrap64 (s0_1 * 7)) + 3)) (s0_0.length : Int)))) * 1117)))) + (wrap64 (s0_1 * 29)))) + (wrap64 ((wrap64 (Int.tdiv s0_1 (s0_0.length : Int))) * 53)))) 64))) a1, wrap64 (s0_1 + 1)))) else (none)) else (none)) else (if a1 = 0 then (none) else (some (Int.tmod (wrap64 (rd s0_0 (Int.tmod s0_1 (s0_0.length : Int)))) a1, wrap64 (s0_1 + 1)))))) else (none)) else (none))) else (if a1 = 0 then (none) else (some ((0 : Int) % a1, wrap64 (s0_1 + 1)))))
set_option maxHeartbeats 8000000 in
set_option maxRecDepth 100000 in
theorem spec_rnd_pick.calls (g : Nat) (s0_0 : List Int) (s0_1 : Int) (a1 : Int) (r1 : Int) (r2 : Int) (w0 w : World) (hI : IsS77 w0 w g s0_0 s0_1) (hB : Below w0.heap.size w0 w) (h : spec_rnd_pick.f s0_0 s0_1 a1 = some (r1, r2)) :
 Calls Try.prog 45 #[.pointer (some ⟨g, 0, none⟩), .int .i64 a1] w fun e w' => e = .returned (.int .i64 r1) ∧ IsS77 w0 w' g s0_0 r2 ∧ Below w0.heap.size w0 w' ∧ KeepBut w w' g none := by
 have HI0 := aS hI; have HK := aS (KeepBut.refl w g none); have HL := aS hB.size; clear hI; have HW0 := aS hB.size; have HB := aS hB; clear hB; have H : (if a1 < 2 then (some (0, s0_1)) else (if (s0_0.length : Int) > 0 then (if (s0_0.length : Int) = 0 then (none) else (if 0 ≤ (Int.tmod s0_1 (s0_0.length : Int)) then (if (Int.tmod s0_1 (s0_0.length : Int)) < (s0_0.length : Int) then (if a1 > 256 then (if 0 ≤ (Int.tmod (wrap64 ((wrap64 (s0_1 * 7)) + 3)) (s0_0.length : Int)) then (if (Int.tmod (wrap64 ((wrap64 (s0_1 * 7)) + 3)) (s0_0.length : Int)) < (s0_0.length : Int) then (if a1 = 0 then (none) else (some (Int.tmod (Go.bits .xor .i64 (wrap64 ((wrap64 ((wrap64 ((wrap64 ((wrap64 (rd s0_0 (Int.tmod s0_1 (s0_0.length : Int)))) * 131)) + (wrap64 ((wrap64 (rd s0_0 (Int.tmod (wrap64 ((wrap64 (s0_1 * 7)) + 3)) (s0_0.length : Int)))) * 1117)))) + (wrap64 (s0_1 * 29)))) + (wrap64 ((wrap64 (Int.tdiv s0_1 (s0_0.length : Int))) * 53)))) (wrap64 (Int.tdiv (wrap64 ((wrap64 ((wrap64 ((wrap64 ((wrap64 (rd s0_0 (Int.tmod s0_1 (s0_0.length : Int)))) * 131)) + (wrap64 ((wrap64 (rd s0_0 (Int.tmod (wrap64 ((wrap64 (s0_1 * 7)) + 3)) (s0_0.length : Int)))) * 1117)))) + (wrap64 (s0_1 * 29)))) + (wrap64 ((wrap64 (Int.tdiv s0_1 (s0_0.length : Int))) * 53)))) 64))) a1, wrap64 (s0_1 + 1)))) else (none)) else (none)) else (if s0_1 ≥ (s0_0.length : Int) then (if 0 ≤ (Int.tmod (wrap64 ((wrap64 (s0_1 * 7)) + 3)) (s0_0.length : Int)) then (if (Int.tmod (wrap64 ((wrap64 (s0_1 * 7)) + 3)) (s0_0.length : Int)) < (s0_0.length : Int) then (if a1 = 0 then (none) else (some (Int.tmod (Go.bits .xor .i64 (wrap64 ((wrap64 ((wrap64 ((wrap64 ((wrap64 (rd s0_0 (Int.tmod s0_1 (s0_0.length : Int)))) * 131)) + (wrap64 ((wrap64 (rd s0_0 (Int.tmod (wrap64 ((wrap64 (s0_1 * 7)) + 3)) (s0_0.length : Int)))) * 1117)))) + (wrap64 (s0_1 * 29)))) + (wrap64 ((wrap64 (Int.tdiv s0_1 (s0_0.length : Int))) * 53)))) (wrap64 (Int.tdiv (wrap64 ((wrap64 ((wrap64 ((wrap64 ((wrap64 (rd s0_0 (Int.tmod s0_1 (s0_0.length : Int)))) * 131)) + (wrap64 ((wrap64 (rd s0_0 (Int.tmod (wrap64 ((wrap64 (s0_1 * 7)) + 3)) (s0_0.length : Int)))) * 1117)))) + (wrap64 (s0_1 * 29)))) + (wrap64 ((wrap64 (Int.tdiv s0_1 (s0_0.length : Int))) * 53)))) 64))) a1, wrap64 (s0_1 + 1)))) else (none)) else (none)) else (if a1 = 0 then (none) else (some (Int.tmod (wrap64 (rd s0_0 (Int.tmod s0_1 (s0_0.length : Int)))) a1, wrap64 (s0_1 + 1)))))) else (none)) else (none))) else (if a1 = 0 then (none) else (some ((0 : Int) % a1, wrap64 (s0_1 + 1)))))) = some (r1, r2) := h; clear h; by_cases c3 : a1 < 2
 · rw [if_pos c3] at H; have c3b0 : decide (a1 < 2) = true := decide_eq_true c3; clear c3; simp only [Option.some.injEq, Prod.mk.injEq] at H; obtain ⟨rfl, rfl⟩ := H
   go_enter Try.func45, Try.ntmps45
   go_wp2
   repeat (go_quiet (fail); try go_wp2)
   go_ret; exact ⟨tE, by repeat (first | (with_reducible first | exact HI0.out | apply IsS77.alloc | apply IsS77.drewN | apply IsS77.drew | apply IsS77.set_1) | exact HI0.out), tB77, tH⟩
 rw [if_neg c3] at H; have c3b0 : decide (a1 < 2) = false := decide_eq_false c3; clear c3; by_cases c4 : (s0_0.length : Int) > 0
 · rw [if_pos c4] at H; have c4b0 : decide (0 < (s0_0.length : Int)) = true := decide_eq_true c4; have c4b1 : decide (0 < s0_0.length) = true := decide_eq_true (by omega); clear c4; by_cases c5 : (s0_0.length : Int) = 0
   · rw [if_pos c5] at H; exact nS H
   rw [if_neg c5] at H; have c5b0 : ((s0_0.length : Int) == 0) = false := beq_eq_false_iff_ne.mpr c5; have c5b1 : ((s0_0.length : Int) != 0) = true := bne_iff_ne.mpr c5; have c5b2 : ¬ (s0_0 = []) := fun h_ => c5 (by rw [h_]; rfl)
   obtain ⟨ji6, hji6⟩ : ∃ j_ : Int, (Int.tmod s0_1 (s0_0.length : Int)) = j_ := ⟨_, rfl⟩
   replace H : (if 0 ≤ (ji6) then (if (ji6) < (s0_0.length : Int) then (if a1 > 256 then (if 0 ≤ (Int.tmod (wrap64 ((wrap64 (s0_1 * 7)) + 3)) (s0_0.length : Int)) then (if (Int.tmod (wrap64 ((wrap64 (s0_1 * 7)) + 3)) (s0_0.length : Int)) < (s0_0.length : Int) then (if a1 = 0 then (none) else (some (Int.tmod (Go.bits .xor .i64 (wrap64 ((wrap64 ((wrap64 ((wrap64 ((wrap64 (rd s0_0 (ji6))) * 131)) + (wrap64 ((wrap64 (rd s0_0 (Int.tmod (wrap64 ((wrap64 (s0_1 * 7)) + 3)) (s0_0.length : Int)))) * 1117)))) + (wrap64 (s0_1 * 29)))) + (wrap64 ((wrap64 (Int.tdiv s0_1 (s0_0.length : Int))) * 53)))) (wrap64 (Int.tdiv (wrap64 ((wrap64 ((wrap64 ((wrap64 ((wrap64 (rd s0_0 (ji6))) * 131)) + (wrap64 ((wrap64 (rd s0_0 (Int.tmod (wrap64 ((wrap64 (s0_1 * 7)) + 3)) (s0_0.length : Int)))) * 1117)))) + (wrap64 (s0_1 * 29)))) + (wrap64 ((wrap64 (Int.tdiv s0_1 (s0_0.length : Int))) * 53)))) 64))) a1, wrap64 (s0_1 + 1)))) else (none)) else (none)) else (if s0_1 ≥ (s0_0.length : Int) then (if 0 ≤ (Int.tmod (wrap64 ((wrap64 (s0_1 * 7)) + 3)) (s0_0.length : Int)) then (if (Int.tmod (wrap64 ((wrap64 (s0_1 * 7)) + 3)) (s0_0.length : Int)) < (s0_0.length : Int) then (if a1 = 0 then (none) else (some (Int.tmod (Go.bits .xor .i64 (wrap64 ((wrap64 ((wrap64 ((wrap64 ((wrap64 (rd s0_0 (ji6))) * 131)) + (wrap64 ((wrap64 (rd s0_0 (Int.tmod (wrap64 ((wrap64 (s0_1 * 7)) + 3)) (s0_0.length : Int)))) * 1117)))) + (wrap64 (s0_1 * 29)))) + (wrap64 ((wrap64 (Int.tdiv s0_1 (s0_0.length : Int))) * 53)))) (wrap64 (Int.tdiv (wrap64 ((wrap64 ((wrap64 ((wrap64 ((wrap64 (rd s0_0 (ji6))) * 131)) + (wrap64 ((wrap64 (rd s0_0 (Int.tmod (wrap64 ((wrap64 (s0_1 * 7)) + 3)) (s0_0.length : Int)))) * 1117)))) + (wrap64 (s0_1 * 29)))) + (wrap64 ((wrap64 (Int.tdiv s0_1 (s0_0.length : Int))) * 53)))) 64))) a1, wrap64 (s0_1 + 1)))) else (none)) else (none)) else (if a1 = 0 then (none) else (some (Int.tmod (wrap64 (rd s0_0 (ji6))) a1, wrap64 (s0_1 + 1)))))) else (none)) else (none)) = some (r1, r2) := by first | (rw [hji6] at H; exact H) | (simp only [hji6] at H ⊢; exact H)
   by_cases c7 : 0 ≤ (ji6)
   case neg =>
    rw [if_neg c7] at H; exact nS H
   rw [if_pos c7] at H; have c7b0 : decide (0 ≤ (ji6)) = true := decide_eq_true c7; clear c7; by_cases c8 : (ji6) < (s0_0.length : Int)
   case neg =>
    rw [if_neg c8] at H; exact nS H
   rw [if_pos c8] at H; have c8b0 : decide ((ji6) < (s0_0.length : Int)) = true := decide_eq_true c8; clear c8; by_cases c9 : a1 > 256
   · rw [if_pos c9] at H; have c9b0 : decide (256 < a1) = true := decide_eq_true c9; clear c9; obtain ⟨ji10, hji10⟩ : ∃ j_ : Int, (Int.tmod (wrap64 ((wrap64 (s0_1 * 7)) + 3)) (s0_0.length : Int)) = j_ := ⟨_, rfl⟩
     replace H : (if 0 ≤ (ji10) then (if (ji10) < (s0_0.length : Int) then (if a1 = 0 then (none) else (some (Int.tmod (Go.bits .xor .i64 (wrap64 ((wrap64 ((wrap64 ((wrap64 ((wrap64 (rd s0_0 (ji6))) * 131)) + (wrap64 ((wrap64 (rd s0_0 (ji10))) * 1117)))) + (wrap64 (s0_1 * 29)))) + (wrap64 ((wrap64 (Int.tdiv s0_1 (s0_0.length : Int))) * 53)))) (wrap64 (Int.tdiv (wrap64 ((wrap64 ((wrap64 ((wrap64 ((wrap64 (rd s0_0 (ji6))) * 131)) + (wrap64 ((wrap64 (rd s0_0 (ji10))) * 1117)))) + (wrap64 (s0_1 * 29)))) + (wrap64 ((wrap64 (Int.tdiv s0_1 (s0_0.length : Int))) * 53)))) 64))) a1, wrap64 (s0_1 + 1)))) else (none)) else (none)) = some (r1, r2) := by first | (rw [hji10] at H; exact H) | (simp only [hji10] at H ⊢; exact H)
     by_cases c11 : 0 ≤ (ji10)
     case neg =>
      rw [if_neg c11] at H; exact nS H
     rw [if_pos c11] at H; have c11b0 : decide (0 ≤ (ji10)) = true := decide_eq_true c11; clear c11; by_cases c12 : (ji10) < (s0_0.length : Int)
     case neg =>
      rw [if_neg c12] at H; exact nS H
     rw [if_pos c12] at H; have c12b0 : decide ((ji10) < (s0_0.length : Int)) = true := decide_eq_true c12; clear c12; by_cases c13 : a1 = 0
     · rw [if_pos c13] at H; exact nS H
     rw [if_neg c13] at H; have c13b0 : (a1 == 0) = false := beq_eq_false_iff_ne.mpr c13; have c13b1 : (a1 != 0) = true := bne_iff_ne.mpr c13; simp only [Option.some.injEq, Prod.mk.injEq] at H; obtain ⟨rfl, rfl⟩ := H; obtain ⟨ASz14_0, cSz14_0, HGz14, hgz14, HSz14_0⟩ := HI0.out; have hcz14_0 := cellS77_0 HGz14; have hcz14_1 := cellS77_1 HGz14; have hfz14_1 := blk_frozen HGz14 1; clear HGz14 hgz14; have p248 : 0 ≤ ((ji6) : Int) := of_decide_eq_true tP; have q248 : (ji6) < (s0_0.length : Int) := of_decide_eq_true tP; obtain ⟨ad248, e248, hx248_0⟩ := Kd.at_int HSz14_0 (ji6) p248 q248; cases e248; replace hx248_0 := pw_cell_below HB.out hx248_0; replace p248 := eq_true p248; replace q248 := eq_true q248; have p249 : 0 ≤ ((ji10) : Int) := of_decide_eq_true tP; have q249 : (ji10) < (s0_0.length : Int) := of_decide_eq_true tP; obtain ⟨ad249, e249, hx249_0⟩ := Kd.at_int HSz14_0 (ji10) p249 q249; obtain rfl : ad248 = ad249 := (by injection e249); replace hx249_0 := pw_cell_below HB.out hx249_0; replace p249 := eq_true p249; replace q249 := eq_true q249
     go_enter Try.func45, Try.ntmps45
     go_wp2
     repeat (go_quiet (fail); try go_wp2)
     go_ret; exact ⟨by first | rfl | (simp [errW_none, errW_some] <;> rfl) | (simp only [← hji6, ← hji10]; first | rfl | (simp [errW_none, errW_some] <;> rfl)) | (simp [*, errW_none, errW_some] <;> rfl), by repeat (first | (with_reducible first | exact HI0.out | apply IsS77.alloc | apply IsS77.drewN | apply IsS77.drew | apply IsS77.set_1) | exact HI0.out), tB77, tH⟩
   rw [if_neg c9] at H; have c9b0 : decide (256 < a1) = false := decide_eq_false c9; clear c9; by_cases c15 : s0_1 ≥ (s0_0.length : Int)
   · rw [if_pos c15] at H; have c15b0 : decide ((s0_0.length : Int) ≤ s0_1) = true := decide_eq_true c15; clear c15; obtain ⟨ji16, hji16⟩ : ∃ j_ : Int, (Int.tmod (wrap64 ((wrap64 (s0_1 * 7)) + 3)) (s0_0.length : Int)) = j_ := ⟨_, rfl⟩
     replace H : (if 0 ≤ (ji16) then (if (ji16) < (s0_0.length : Int) then (if a1 = 0 then (none) else (some (Int.tmod (Go.bits .xor .i64 (wrap64 ((wrap64 ((wrap64 ((wrap64 ((wrap64 (rd s0_0 (ji6))) * 131)) + (wrap64 ((wrap64 (rd s0_0 (ji16))) * 1117)))) + (wrap64 (s0_1 * 29)))) + (wrap64 ((wrap64 (Int.tdiv s0_1 (s0_0.length : Int))) * 53)))) (wrap64 (Int.tdiv (wrap64 ((wrap64 ((wrap64 ((wrap64 ((wrap64 (rd s0_0 (ji6))) * 131)) + (wrap64 ((wrap64 (rd s0_0 (ji16))) * 1117)))) + (wrap64 (s0_1 * 29)))) + (wrap64 ((wrap64 (Int.tdiv s0_1 (s0_0.length : Int))) * 53)))) 64))) a1, wrap64 (s0_1 + 1)))) else (none)) else (none)) = some (r1, r2) := by first | (rw [hji16] at H; exact H) | (simp only [hji16] at H ⊢; exact H)
     by_cases c17 : 0 ≤ (ji16)
     case neg =>
      rw [if_neg c17] at H; exact nS H
     rw [if_pos c17] at H; have c17b0 : decide (0 ≤ (ji16)) = true := decide_eq_true c17; clear c17; by_cases c18 : (ji16) < (s0_0.length : Int)
     case neg =>
      rw [if_neg c18] at H; exact nS H
     rw [if_pos c18] at H; have c18b0 : decide ((ji16) < (s0_0.length : Int)) = true := decide_eq_true c18; clear c18; by_cases c19 : a1 = 0
     · rw [if_pos c19] at H; exact nS H
     rw [if_neg c19] at H; have c19b0 : (a1 == 0) = false := beq_eq_false_iff_ne.mpr c19; have c19b1 : (a1 != 0) = true := bne_iff_ne.mpr c19; simp only [Option.some.injEq, Prod.mk.injEq] at H; obtain ⟨rfl, rfl⟩ := H; obtain ⟨ASz20_0, cSz20_0, HGz20, hgz20, HSz20_0⟩ := HI0.out; have hcz20_0 := cellS77_0 HGz20; have hcz20_1 := cellS77_1 HGz20; have hfz20_1 := blk_frozen HGz20 1; clear HGz20 hgz20; have p248 : 0 ≤ ((ji6) : Int) := of_decide_eq_true tP; have q248 : (ji6) < (s0_0.length : Int) := of_decide_eq_true tP; obtain ⟨ad248, e248, hx248_0⟩ := Kd.at_int HSz20_0 (ji6) p248 q248; cases e248; replace hx248_0 := pw_cell_below HB.out hx248_0; replace p248 := eq_true p248; replace q248 := eq_true q248; have p250 : 0 ≤ ((ji16) : Int) := of_decide_eq_true tP; have q250 : (ji16) < (s0_0.length : Int) := of_decide_eq_true tP; obtain ⟨ad250, e250, hx250_0⟩ := Kd.at_int HSz20_0 (ji16) p250 q250; obtain rfl : ad248 = ad250 := (by injection e250); replace hx250_0 := pw_cell_below HB.out hx250_0; replace p250 := eq_true p250; replace q250 := eq_true q250
     go_enter Try.func45, Try.ntmps45
     go_wp2
     repeat (go_quiet (fail); try go_wp2)
     go_ret; exact ⟨by first | rfl | (simp [errW_none, errW_some] <;> rfl) | (simp only [← hji6, ← hji16]; first | rfl | (simp [errW_none, errW_some] <;> rfl)) | (simp [*, errW_none, errW_some] <;> rfl), by repeat (first | (with_reducible first | exact HI0.out | apply IsS77.alloc | apply IsS77.drewN | apply IsS77.drew | apply IsS77.set_1) | exact HI0.out), tB77, tH⟩
   rw [if_neg c15] at H; have c15b0 : decide ((s0_0.length : Int) ≤ s0_1) = false := decide_eq_false c15; clear c15; by_cases c21 : a1 = 0
   · rw [if_pos c21] at H; exact nS H
   rw [if_neg c21] at H; have c21b0 : (a1 == 0) = false := beq_eq_false_iff_ne.mpr c21; have c21b1 : (a1 != 0) = true := bne_iff_ne.mpr c21; simp only [Option.some.injEq, Prod.mk.injEq] at H; obtain ⟨rfl, rfl⟩ := H; obtain ⟨ASz22_0, cSz22_0, HGz22, hgz22, HSz22_0⟩ := HI0.out; have hcz22_0 := cellS77_0 HGz22; have hcz22_1 := cellS77_1 HGz22; have hfz22_1 := blk_frozen HGz22 1; clear HGz22 hgz22; have p248 : 0 ≤ ((ji6) : Int) := of_decide_eq_true tP; have q248 : (ji6) < (s0_0.length : Int) := of_decide_eq_true tP; obtain ⟨ad248, e248, hx248_0⟩ := Kd.at_int HSz22_0 (ji6) p248 q248; cases e248; replace hx248_0 := pw_cell_below HB.out hx248_0; replace p248 := eq_true p248; replace q248 := eq_true q248
   go_enter Try.func45, Try.ntmps45
   go_wp2
   repeat (go_quiet (fail); try go_wp2)
   go_ret; exact ⟨by first | rfl | (simp [errW_none, errW_some] <;> rfl) | (simp only [← hji6]; first | rfl | (simp [errW_none, errW_some] <;> rfl)) | (simp [*, errW_none, errW_some] <;> rfl), by repeat (first | (with_reducible first | exact HI0.out | apply IsS77.alloc | apply IsS77.drewN | apply IsS77.drew | apply IsS77.set_1) | exact HI0.out), tB77, tH⟩
 rw [if_neg c4] at H; have c4b0 : decide (0 < (s0_0.length : Int)) = false := decide_eq_false c4; have c4b1 : decide (0 < s0_0.length) = false := decide_eq_false (by omega); clear c4; by_cases c23 : a1 = 0
 · rw [if_pos c23] at H; exact nS H
 rw [if_neg c23] at H; have c23b0 : (a1 == 0) = false := beq_eq_false_iff_ne.mpr c23; have c23b1 : (a1 != 0) = true := bne_iff_ne.mpr c23; simp only [Option.some.injEq, Prod.mk.injEq] at H; obtain ⟨rfl, rfl⟩ := H; obtain ⟨ASz24_0, cSz24_0, HGz24, hgz24, HSz24_0⟩ := HI0.out; have hcz24_0 := cellS77_0 HGz24; have hcz24_1 := cellS77_1 HGz24; have hfz24_1 := blk_frozen HGz24 1; clear HGz24 hgz24
 go_enter Try.func45, Try.ntmps45
 go_wp2
 repeat (go_quiet (fail); try go_wp2)
 go_ret; exact ⟨tE, by repeat (first | (with_reducible first | exact HI0.out | apply IsS77.alloc | apply IsS77.drewN | apply IsS77.drew | apply IsS77.set_1) | exact HI0.out), tB77, tH⟩

end Go.Proofs.Ytihcollncjcpgaa.P
