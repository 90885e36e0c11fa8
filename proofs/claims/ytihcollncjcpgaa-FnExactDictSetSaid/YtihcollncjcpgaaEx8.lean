/- Contracts of the Go functions that the seat's laws reach, one after the other: the machine's call comes to what the plain Lean function beside it says; no conditions but those that each contract names. Laid by this session's program wip/pp.py, which drives the kit's printer. -/
import Derived.Test.YtihcollncjcpgaaEx0
import Derived.Test.YtihcollncjcpgaaEx2
import Derived.Test.YtihcollncjcpgaaEx4
import Derived.Test.YtihcollncjcpgaaEx5
import Derived.Test.YtihcollncjcpgaaEx7
namespace Go.Proofs.Ytihcollncjcpgaa.E
open Go.RowKit Go.Proofs.YtihcollncjcpgaaW.PrintWords Go.Proofs.YtihcollncjcpgaaW.PrintLast Go.Proofs.YtihcollncjcpgaaW.PrintMore
attribute [local go_sem] max2_int min2_int max_two min_two max_three min_three max_four min_four   -- for this text's walks alone
set_option linter.unusedVariables false
set_option linter.unusedSimpArgs false

/-! ### spec_DictSet: function 17 -/
mutual
def spec_DictSet.j0 : Nat → ByteArray → Int → Bool → List Int → List (S56) → Option (List Int × (List (S56)) × Bool)
 | 0, _, _, _, _, _ => none
 | k + 1, x1, x2, x20, x212000, x212001 => if x20 = true then (some (([] : List Int), ([] : List (S56)), false)) else ((spec_slotOf.f k x212000 x212001 x1).bind fun t216 => (if 0 ≤ t216 then (if t216 < (x212000.length : Int) then (if (rd x212000 t216) < 0 then ((spec_liveEntries.f k x212000 x212001).bind fun t218 => (spec_DictSet.j1 k x1 x2 (decide (t218 ≥ 40)) x212000 x212001)) else (spec_DictSet.j1 k x1 x2 false x212000 x212001)) else (none)) else (none)))
def spec_DictSet.j1 : Nat → ByteArray → Int → Bool → List Int → List (S56) → Option (List Int × (List (S56)) × Bool)
 | 0, _, _, _, _, _ => none
 | k + 1, x1, x2, x34, x212000, x212001 => if x34 = true then ((spec_copyDict.f x212000 x212001).bind fun bt219 => (some (bt219.1, bt219.2, false))) else ((spec_setKey.f k x212000 x212001 x1 x2).bind fun bt225 => (some (bt225.1, bt225.2, true)))
end
def spec_DictSet.f (k : Nat) (l0_0 : List Int) (l0_1 : List (S56)) (a1 : ByteArray) (a2 : Int) : Option (List Int × (List (S56)) × Bool) := (spec_validDict.f k l0_0 l0_1).bind fun t213 => (if t213 = true then ((spec_validKey.f a1).bind fun t214 => (if t214 = true then ((spec_inRange.f a2 (-1000000) 1000000).bind fun t215 => (spec_DictSet.j0 k a1 a2 (!t215) l0_0 l0_1)) else (spec_DictSet.j0 k a1 a2 true l0_0 l0_1))) else (spec_DictSet.j0 k a1 a2 true l0_0 l0_1))
theorem spec_DictSet.mono_l : ∀ k, (∀ y0 y1 y2 y3 y4, LeO (spec_DictSet.j0 k y0 y1 y2 y3 y4) (spec_DictSet.j0 (k + 1) y0 y1 y2 y3 y4)) ∧ (∀ y0 y1 y2 y3 y4, LeO (spec_DictSet.j1 k y0 y1 y2 y3 y4) (spec_DictSet.j1 (k + 1) y0 y1 y2 y3 y4))
 | 0 => ⟨fun _ _ _ _ _ r h => by simp [spec_DictSet.j0] at h, fun _ _ _ _ _ r h => by simp [spec_DictSet.j1] at h⟩
 | k + 1 => by
  obtain ⟨ih0, ih1⟩ := spec_DictSet.mono_l k; refine ⟨?_, ?_⟩
  · intro y0 y1 y2 y3 y4
    unfold spec_DictSet.j0
    have m0_ := @spec_liveEntries.mono; have m1_ := @spec_setKey.mono; have m2_ := @spec_slotOf.mono; have m3_ := @spec_validDict.mono; exact tM
  intro y0 y1 y2 y3 y4
  unfold spec_DictSet.j1
  have m0_ := @spec_liveEntries.mono; have m1_ := @spec_setKey.mono; have m2_ := @spec_slotOf.mono; have m3_ := @spec_validDict.mono; exact tM
theorem spec_DictSet.mono : ∀ a0 a1 a2 a3 k, LeO (spec_DictSet.f k a0 a1 a2 a3) (spec_DictSet.f (k + 1) a0 a1 a2 a3) := by
 intro a0 a1 a2 a3 k; obtain ⟨ih0, ih1⟩ := spec_DictSet.mono_l k
 unfold spec_DictSet.f
 have m0_ := @spec_liveEntries.mono; have m1_ := @spec_setKey.mono; have m2_ := @spec_slotOf.mono; have m3_ := @spec_validDict.mono; exact tM
def spec_DictSet.T3 : Bool × List (List Nat × List Nat) := (true, [([], []), ([0], [0]), ([], []), ([], []), ([2, 3], [2, 3]), ([1, 4], [1, 4]), ([5], [5]), ([6], [6]), ([7, 4], [7]), ([8], [8]), ([9, 8, 8], [8, 9]), ([10, 8], [8, 10]), ([8, 11], [8, 11])])
def spec_DictSet.B3 : List Nat := [0, 1, 0, 0, 12, 31, 63, 127, 255, 511, 1023, 2047, 4095]
theorem spec_DictSet.tab3 : rtab .any (opsOf Try.f17 3) = spec_DictSet.T3 := by kernel_rfl
theorem spec_DictSet.bits3 : waitsOk spec_DictSet.T3.2 spec_DictSet.B3 = true := by kernel_rfl
set_option maxHeartbeats 8000000 in
set_option maxRecDepth 100000 in
theorem spec_DictSet.calls (k : Nat) (A0_0 : Option Addr) (c0_0 : Nat) (l0_0 : List Int) (A0_1 : Option Addr) (c0_1 : Nat) (l0_1 : List (S56)) (a1 : ByteArray) (a2 : Int) (r1 : List Int) (r2 : List (S56)) (r3 : Bool) (w : World) (hr0_0 : Kd.C (Kd.int .i64) w A0_0 l0_0.length l0_0) (hc0_0 : l0_0.length ≤ c0_0) (hr0_1 : Kd.C k56 w A0_1 l0_1.length l0_1) (hc0_1 : l0_1.length ≤ c0_1) (h : spec_DictSet.f k l0_0 l0_1 a1 a2 = some (r1, r2, r3)) :
 Calls Try.prog 17 #[.agg #[.slice A0_0 l0_0.length c0_0, .slice A0_1 l0_1.length c0_1], .string a1, .int .i64 a2] w fun e w' => ∃ v0_ v1_ : Value, e = .returned (.tuple #[.agg #[v0_, v1_], .bool r3]) ∧ Kd.R (Kd.int .i64) 3 w' w.heap.size (fun _ => True) v0_ r1 ∧ Kd.R k56 56 w' w.heap.size (fun _ => True) v1_ r2 ∧ Below w.heap.size w w' := by
 have hu26 := Try.underlying26; have HR0_0 := aS hr0_0; have HC0_0 := aS hc0_0; clear hr0_0 hc0_0; have HR0_1 := aS hr0_1; have HC0_1 := aS hc0_1; clear hr0_1 hc0_1; have HB := aS (Below.refl w.heap.size w); have H : ((spec_validDict.f k l0_0 l0_1).bind fun t213 => (if t213 = true then ((spec_validKey.f a1).bind fun t214 => (if t214 = true then ((spec_inRange.f a2 (-1000000) 1000000).bind fun t215 => (spec_DictSet.j0 k a1 a2 (!t215) l0_0 l0_1)) else (spec_DictSet.j0 k a1 a2 true l0_0 l0_1))) else (spec_DictSet.j0 k a1 a2 true l0_0 l0_1))) = some (r1, r2, r3) := h; clear h; have HC4 := aS H; clear H
 go_enter Try.func17, Try.ntmps17
 go_upto_region 1 with (first | ((with_reducible refine gD 3 ?_); refine boxS (N := 3) (cs := #[.slice A0_0 l0_0.length c0_0, .slice A0_1 l0_1.length c0_1]) (t := 26) ?_; intro gb211 hg w5 hbox hb; have BK211 := aS (hbox); have GW211 := gW (w := w) hg tB; have GE211 := GW211; replace HB := aS (below_step tB hb); clear hb hbox hg) | ((with_reducible refine gD 6 ?_); refine boxS (N := 6) (cs := #[.slice none 0 0, .slice none 0 0]) (t := 26) ?_; intro gb212 hg w6 hbox hb; have BK212 := aS (hbox); have GW212 := gW (w := w) hg tB; have GE212 := GW212; have NB211_212 := nL hg BK211; have NB212_211 := nR hg BK211; replace BK211 := bB BK211 hb; replace HB := aS (below_step tB hb); clear hb hbox hg))
 (try simp only [Act.put, List.setIfInBounds_toArray, List.set_cons_zero, List.set_cons_succ])
 go_cut [20] (fun v20 wc => ∃ (kq : Nat) (x20_3 : Bool), v20 = .bool x20_3 ∧ Aside0 (spec_DictSet.j0 kq a1 a2 x20_3 l0_0 l0_1 = some (r1, r2, r3)) ∧ Aside0 (kq ≤ k) ∧ Aside0 (wc.heap[gb211]? = some (.cells #[(.slice A0_0 l0_0.length c0_0), (.slice A0_1 l0_1.length c0_1)] 26 (0, 0))) ∧ Aside0 (wc.heap[gb212]? = some (.cells #[(.slice none 0 0), (.slice none 0 0)] 26 (0, 0))) ∧ Aside0 (Below w.heap.size w wc))
 case first =>
  have H := HC4.out; clear HC4; replace H := oB H; obtain ⟨t213, A70, H⟩ := H; replace H : (if t213 = true then ((spec_validKey.f a1).bind fun t214 => (if t214 = true then ((spec_inRange.f a2 (-1000000) 1000000).bind fun t215 => (spec_DictSet.j0 k a1 a2 (!t215) l0_0 l0_1)) else (spec_DictSet.j0 k a1 a2 true l0_0 l0_1))) else (spec_DictSet.j0 k a1 a2 true l0_0 l0_1)) = some (r1, r2, r3) := H; have A7 := aS A70; clear A70; by_cases c8 : t213 = true
  · subst c8; have H1 : ((spec_validKey.f a1).bind fun t214 => (if t214 = true then ((spec_inRange.f a2 (-1000000) 1000000).bind fun t215 => (spec_DictSet.j0 k a1 a2 (!t215) l0_0 l0_1)) else (spec_DictSet.j0 k a1 a2 true l0_0 l0_1))) = some (r1, r2, r3) := by rw [if_pos rfl] at H; exact H
    clear H; have H := H1; clear H1; replace H := oB H; obtain ⟨t214, A90, H⟩ := H; replace H : (if t214 = true then ((spec_inRange.f a2 (-1000000) 1000000).bind fun t215 => (spec_DictSet.j0 k a1 a2 (!t215) l0_0 l0_1)) else (spec_DictSet.j0 k a1 a2 true l0_0 l0_1)) = some (r1, r2, r3) := H; have A9 := aS A90; clear A90; by_cases c10 : t214 = true
    · subst c10; have H1 : ((spec_inRange.f a2 (-1000000) 1000000).bind fun t215 => (spec_DictSet.j0 k a1 a2 (!t215) l0_0 l0_1)) = some (r1, r2, r3) := by rw [if_pos rfl] at H; exact H
      clear H; have H := H1; clear H1; replace H := oB H; obtain ⟨t215, A110, H⟩ := H; replace H : (spec_DictSet.j0 k a1 a2 (!t215) l0_0 l0_1) = some (r1, r2, r3) := H; have A11 := aS A110; clear A110; have H' := aS H; clear H; obtain ⟨hnb12, hnc12⟩ := bO NB211_212 NB212_211; obtain ⟨hcz13_0, hcz13_1, hfz13_0, hfz13_1⟩ := c2 BK211
      go_wp2_with (first | ((with_reducible refine gC 31 ?_); refine goS (some 9) Try.func31 #[.agg #[.slice A0_0 l0_0.length c0_0, .slice A0_1 l0_1.length c0_1]] ?_; (with_reducible refine (spec_validDict.calls k _ _ l0_0 _ _ l0_1 true _ ?side1 ?side2 ?side3 ?side4 A7.out).mono ?_); (case side1 => exact tC (Kd.C_below HR0_0.out HB.out)); (case side2 => exact HC0_0.out); (case side3 => exact tC (Kd.C_below HR0_1.out HB.out)); (case side4 => exact HC0_1.out); rintro e w14 ⟨rfl, hb⟩; refine ⟨_, rfl, ?_⟩; replace BK211 := bB BK211 hb; replace BK212 := bB BK212 hb; replace HB := aS (below_step tB hb); clear hb) | (go_at_call 32; (with_reducible refine (spec_validKey.calls a1 true _ A9.out).mono ?_); rintro e w' ⟨rfl, ⟨nd, rfl⟩⟩) | (go_at_call 46; (with_reducible refine (spec_inRange.calls a2 (-1000000) 1000000 t215 _ A11.out).mono ?_); rintro e w' ⟨rfl, ⟨nd, rfl⟩⟩))
      go_meet
      case rel => exact ⟨_, (!t215), tX, H', ⟨by first | omega | exact Nat.le_refl _⟩, ⟨tZ⟩, ⟨tZ⟩, ⟨tB⟩⟩
    replace c10 := Bool.eq_false_iff.mpr c10; subst c10; have H1 : (spec_DictSet.j0 k a1 a2 true l0_0 l0_1) = some (r1, r2, r3) := by rw [if_neg (show ¬ (false = true) by decide)] at H; exact H
    clear H; have H := H1; clear H1; have H' := aS H; clear H; obtain ⟨hnb15, hnc15⟩ := bO NB211_212 NB212_211; obtain ⟨hcz16_0, hcz16_1, hfz16_0, hfz16_1⟩ := c2 BK211
    go_wp2_with (first | ((with_reducible refine gC 31 ?_); refine goS (some 9) Try.func31 #[.agg #[.slice A0_0 l0_0.length c0_0, .slice A0_1 l0_1.length c0_1]] ?_; (with_reducible refine (spec_validDict.calls k _ _ l0_0 _ _ l0_1 true _ ?side1 ?side2 ?side3 ?side4 A7.out).mono ?_); (case side1 => exact tC (Kd.C_below HR0_0.out HB.out)); (case side2 => exact HC0_0.out); (case side3 => exact tC (Kd.C_below HR0_1.out HB.out)); (case side4 => exact HC0_1.out); rintro e w17 ⟨rfl, hb⟩; refine ⟨_, rfl, ?_⟩; replace BK211 := bB BK211 hb; replace BK212 := bB BK212 hb; replace HB := aS (below_step tB hb); clear hb) | (go_at_call 32; (with_reducible refine (spec_validKey.calls a1 false _ A9.out).mono ?_); rintro e w' ⟨rfl, ⟨nd, rfl⟩⟩))
    go_meet
    case rel => exact ⟨_, (true), tX, H', ⟨by first | omega | exact Nat.le_refl _⟩, ⟨tZ⟩, ⟨tZ⟩, ⟨tB⟩⟩
  replace c8 := Bool.eq_false_iff.mpr c8; subst c8; have H1 : (spec_DictSet.j0 k a1 a2 true l0_0 l0_1) = some (r1, r2, r3) := by rw [if_neg (show ¬ (false = true) by decide)] at H; exact H
  clear H; have H := H1; clear H1; have H' := aS H; clear H; obtain ⟨hnb18, hnc18⟩ := bO NB211_212 NB212_211; obtain ⟨hcz19_0, hcz19_1, hfz19_0, hfz19_1⟩ := c2 BK211
  go_wp2_with (first | ((with_reducible refine gC 31 ?_); refine goS (some 9) Try.func31 #[.agg #[.slice A0_0 l0_0.length c0_0, .slice A0_1 l0_1.length c0_1]] ?_; (with_reducible refine (spec_validDict.calls k _ _ l0_0 _ _ l0_1 false _ ?side1 ?side2 ?side3 ?side4 A7.out).mono ?_); (case side1 => exact tC (Kd.C_below HR0_0.out HB.out)); (case side2 => exact HC0_0.out); (case side3 => exact tC (Kd.C_below HR0_1.out HB.out)); (case side4 => exact HC0_1.out); rintro e w20 ⟨rfl, hb⟩; refine ⟨_, rfl, ?_⟩; replace BK211 := bB BK211 hb; replace BK212 := bB BK212 hb; replace HB := aS (below_step tB hb); clear hb))
  go_meet
  case rel => exact ⟨_, (true), tX, H', ⟨by first | omega | exact Nat.le_refl _⟩, ⟨tZ⟩, ⟨tZ⟩, ⟨tB⟩⟩
 case rest =>
  clear HC4; obtain ⟨kq, x20_3, rfl, HA, HJ3, BK211, BK212, HB⟩ := hcut
  cases kq with
  | zero => exact absurd HA.out (by simp [spec_DictSet.j0])
  | succ kj3 =>
   have H := HA.out; clear HA; simp only [spec_DictSet.j0] at H; by_cases c21 : x20_3 = true
   · subst c21; have H1 : (some (([] : List Int), ([] : List (S56)), false)) = some (r1, r2, r3) := by rw [if_pos rfl] at H; exact H
     clear H; have H := H1; clear H1; simp only [Option.some.injEq, Prod.mk.injEq] at H; obtain ⟨rfl, rfl, rfl⟩ := H; obtain ⟨hnb22, hnc22⟩ := bO NB212_211 NB211_212; obtain ⟨hcz23_0, hcz23_1, hfz23_0, hfz23_1⟩ := c2 BK212; go_wp2; refine bodyPost_ret (results_ct rfl _ _ gb212 26 #[.slice none 0 0, .slice none 0 0] (0, 0) _ rfl tZ Try.underlying26 rfl (by kernel_rfl)) rfl ?_; exact ⟨_, _, tE, by first | exact Kd.R_nil _ _ _ _ _ | exact Kd.N_nil _ _ _ _ _ | exact Kd.V_nil _ _ _ _ _ | exact Kd.Q_nil _ _ _ _ _ | exact Kd.S_nil _ _ _ _ _, by first | exact Kd.R_nil _ _ _ _ _ | exact Kd.N_nil _ _ _ _ _ | exact Kd.V_nil _ _ _ _ _ | exact Kd.Q_nil _ _ _ _ _ | exact Kd.S_nil _ _ _ _ _, tB⟩
   replace c21 := Bool.eq_false_iff.mpr c21; subst c21; have H1 : ((spec_slotOf.f kj3 l0_0 l0_1 a1).bind fun t216 => (if 0 ≤ t216 then (if t216 < (l0_0.length : Int) then (if (rd l0_0 t216) < 0 then ((spec_liveEntries.f kj3 l0_0 l0_1).bind fun t218 => (spec_DictSet.j1 kj3 a1 a2 (decide (t218 ≥ 40)) l0_0 l0_1)) else (spec_DictSet.j1 kj3 a1 a2 false l0_0 l0_1)) else (none)) else (none))) = some (r1, r2, r3) := by rw [if_neg (show ¬ (false = true) by decide)] at H; exact H
   clear H; have H := H1; clear H1; have HC24 := aS H; clear H
   go_upto_region 3 with (fail)
   go_cut [34] (fun v34 wc => ∃ (kq : Nat) (x34_23 : Bool), v34 = .bool x34_23 ∧ Aside0 (spec_DictSet.j1 kq a1 a2 x34_23 l0_0 l0_1 = some (r1, r2, r3)) ∧ Aside0 (kq ≤ kj3) ∧ Aside0 (wc.heap[gb211]? = some (.cells #[(.slice A0_0 l0_0.length c0_0), (.slice A0_1 l0_1.length c0_1)] 26 (0, 0))) ∧ Aside0 (wc.heap[gb212]? = some (.cells #[(.slice none 0 0), (.slice none 0 0)] 26 (0, 0))) ∧ Aside0 (Below w.heap.size w wc))
   case first =>
    have H := HC24.out; clear HC24; replace H := oB H; obtain ⟨t216, A250, H⟩ := H; replace H : (if 0 ≤ t216 then (if t216 < (l0_0.length : Int) then (if (rd l0_0 t216) < 0 then ((spec_liveEntries.f kj3 l0_0 l0_1).bind fun t218 => (spec_DictSet.j1 kj3 a1 a2 (decide (t218 ≥ 40)) l0_0 l0_1)) else (spec_DictSet.j1 kj3 a1 a2 false l0_0 l0_1)) else (none)) else (none)) = some (r1, r2, r3) := H; have A25 := aS A250; clear A250; by_cases c26 : 0 ≤ t216
    case neg =>
     rw [if_neg c26] at H; exact nS H
    rw [if_pos c26] at H; have c26b0 : decide (0 ≤ t216) = true := decide_eq_true c26; clear c26
    (first | rw [c26b0] | (simp only [i64_w, i32_w]; rw [c26b0]) | skip)
    by_cases c27 : t216 < (l0_0.length : Int)
    case neg =>
     rw [if_neg c27] at H; exact nS H
    rw [if_pos c27] at H; have c27b0 : decide (t216 < (l0_0.length : Int)) = true := decide_eq_true c27; clear c27; by_cases c28 : (rd l0_0 t216) < 0
    · rw [if_pos c28] at H; have c28b0 : decide ((rd l0_0 t216) < 0) = true := decide_eq_true c28; clear c28; replace H := oB H; obtain ⟨t218, A290, H⟩ := H; replace H : (spec_DictSet.j1 kj3 a1 a2 (decide (t218 ≥ 40)) l0_0 l0_1) = some (r1, r2, r3) := H; have A29 := aS A290; clear A290; have H' := aS H; clear H
      try go_wp2
      have n0_ := aS (blk_drew BK211.out); have n1_ := aS (blk_drew BK212.out); have n2_ := aS (below_drew1 HB.out); clear BK211; clear BK212; clear HB; have BK211 := n0_; have BK212 := n1_; have HB := n2_; clear n0_ n1_ n2_; have p217 : 0 ≤ (t216 : Int) := of_decide_eq_true tP; have q217 : t216 < (l0_0.length : Int) := of_decide_eq_true tP; obtain ⟨ad217, e217, hx217_0⟩ := Kd.at_int HR0_0.out t216 p217 q217; have hw217_0 := hx217_0; cases e217; replace hx217_0 := cB HB hx217_0; replace p217 := eq_true p217; replace q217 := eq_true q217; refine start_ (n := 13) (S := fun w' => w'.cell? ⟨gb211, 0, none⟩ = some (.slice (some ad217) l0_0.length c0_0) ∧ w'.cell? ⟨gb211, 1, none⟩ = some (.slice A0_1 l0_1.length c0_1) ∧ w'.cell? (ad217.add (t216).toNat) = some (.int .i64 (rd l0_0 t216))) (ds := []) (.replicate 13 false) (by kernel_rfl) rfl rfl ⟨(blk_cell BK211.out 0).trans rfl, (blk_cell BK211.out 1).trans rfl, ((HB.out.cell (World.block_lt_of_cell? w _ hw217_0)).trans hw217_0)⟩ (fun hHeld => ?_); refine with_tabW spec_DictSet.tab3 spec_DictSet.bits3 (fun HT_ HW_ => ?_); generalize wc.drew = w30 at BK211 BK212 HB hx217_0 hHeld ⊢; refine pN 0 22 ?_; refine pN 3 25 ?_; refine tN 1 23 ?_; refine tN 2 24 ?_; refine oN 4 26 (fun K hK => ?_); refine goes_ Try.func34 (by kernel_rfl) rfl #[.agg #[.slice (some ad217) l0_0.length c0_0, .slice A0_1 l0_1.length c0_1], .string a1] (by rfl) rfl rfl tA ?_
      with_reducible refine (spec_slotOf.calls kj3 _ _ l0_0 _ _ l0_1 a1 t216 _ ?side1 ?side2 ?side3 ?side4 A25.out).mono ?_
      (case side1 => exact tC (Kd.C_below HR0_0.out HB.out))
      (case side2 => exact HC0_0.out)
      (case side3 => exact tC (Kd.C_below HR0_1.out HB.out))
      (case side4 => exact HC0_1.out)
      rintro e w31 ⟨rfl, hb⟩; refine ⟨_, rfl, ?_⟩; have n0_ := bB BK211 hb; have n1_ := bB BK212 hb; have n2_ := aS (below_step tB hb); clear BK211; clear BK212; clear HB; have BK211 := n0_; have BK212 := n1_; have HB := n2_; clear n0_ n1_ n2_
      try clear hb
      refine hK.out _ _ ⟨(blk_cell BK211.out 0).trans rfl, (blk_cell BK211.out 1).trans rfl, ((HB.out.cell (World.block_lt_of_cell? w _ hw217_0)).trans hw217_0)⟩ (fun hHeld => ?_); clear hK K; refine norm_ (a' := ?_) ?_ ?_
      rotate_left
      · show Act.put _ (some 26) _ = _
        simp only [Act.put, List.setIfInBounds_toArray, List.set_cons_zero, List.set_cons_succ, i64_w, i32_w]
        rfl
      refine pN 5 27 ?_; refine tN 6 28 ?_; refine pN 7 29 ?_; refine pN 8 30 ?_; refine tN 9 31 ?_; refine oN 10 32 (fun K hK => ?_); refine goes_ Try.func47 (by kernel_rfl) rfl #[.agg #[.slice (some ad217) l0_0.length c0_0, .slice A0_1 l0_1.length c0_1]] (by rfl) rfl rfl tA ?_
      with_reducible refine (spec_liveEntries.calls kj3 _ _ l0_0 _ _ l0_1 t218 _ ?side1 ?side2 ?side3 ?side4 A29.out).mono ?_
      (case side1 => exact tC (Kd.C_below HR0_0.out HB.out))
      (case side2 => exact HC0_0.out)
      (case side3 => exact tC (Kd.C_below HR0_1.out HB.out))
      (case side4 => exact HC0_1.out)
      rintro e w32 ⟨rfl, hb⟩; refine ⟨_, rfl, ?_⟩; have n0_ := bB BK211 hb; have n1_ := bB BK212 hb; have n2_ := aS (below_step tB hb); clear BK211; clear BK212; clear HB; have BK211 := n0_; have BK212 := n1_; have HB := n2_; clear n0_ n1_ n2_
      try clear hb
      refine hK.out _ _ ⟨(blk_cell BK211.out 0).trans rfl, (blk_cell BK211.out 1).trans rfl, ((HB.out.cell (World.block_lt_of_cell? w _ hw217_0)).trans hw217_0)⟩ (fun hHeld => ?_); clear hK K; refine norm_ (a' := ?_) ?_ ?_
      rotate_left
      · show Act.put _ (some 32) _ = _
        simp only [Act.put, List.setIfInBounds_toArray, List.set_cons_zero, List.set_cons_succ, i64_w, i32_w]
        rfl
      refine pN 11 33 ?_; refine pN 12 34 ?_; refine dN ?_
      try go_wp2
      go_meet
      case rel => exact ⟨_, (decide (t218 ≥ 40)), tX, H', ⟨by have := HJ3.out; first | omega | exact Nat.le_refl _⟩, ⟨tZ⟩, ⟨tZ⟩, ⟨tB⟩⟩
    rw [if_neg c28] at H; have c28b0 : decide ((rd l0_0 t216) < 0) = false := decide_eq_false c28; clear c28; have H' := aS H; clear H
    try go_wp2
    have n0_ := aS (blk_drew BK211.out); have n1_ := aS (blk_drew BK212.out); have n2_ := aS (below_drew1 HB.out); clear BK211; clear BK212; clear HB; have BK211 := n0_; have BK212 := n1_; have HB := n2_; clear n0_ n1_ n2_; have p217 : 0 ≤ (t216 : Int) := of_decide_eq_true tP; have q217 : t216 < (l0_0.length : Int) := of_decide_eq_true tP; obtain ⟨ad217, e217, hx217_0⟩ := Kd.at_int HR0_0.out t216 p217 q217; have hw217_0 := hx217_0; cases e217; replace hx217_0 := cB HB hx217_0; replace p217 := eq_true p217; replace q217 := eq_true q217; refine start_ (n := 13) (S := fun w' => w'.cell? ⟨gb211, 0, none⟩ = some (.slice (some ad217) l0_0.length c0_0) ∧ w'.cell? ⟨gb211, 1, none⟩ = some (.slice A0_1 l0_1.length c0_1) ∧ w'.cell? (ad217.add (t216).toNat) = some (.int .i64 (rd l0_0 t216))) (ds := []) (.replicate 13 false) (by kernel_rfl) rfl rfl ⟨(blk_cell BK211.out 0).trans rfl, (blk_cell BK211.out 1).trans rfl, ((HB.out.cell (World.block_lt_of_cell? w _ hw217_0)).trans hw217_0)⟩ (fun hHeld => ?_); refine with_tabW spec_DictSet.tab3 spec_DictSet.bits3 (fun HT_ HW_ => ?_); generalize wc.drew = w33 at BK211 BK212 HB hx217_0 hHeld ⊢; refine pN 0 22 ?_; refine pN 3 25 ?_; refine tN 1 23 ?_; refine tN 2 24 ?_; refine oN 4 26 (fun K hK => ?_); refine goes_ Try.func34 (by kernel_rfl) rfl #[.agg #[.slice (some ad217) l0_0.length c0_0, .slice A0_1 l0_1.length c0_1], .string a1] (by rfl) rfl rfl tA ?_
    with_reducible refine (spec_slotOf.calls kj3 _ _ l0_0 _ _ l0_1 a1 t216 _ ?side1 ?side2 ?side3 ?side4 A25.out).mono ?_
    (case side1 => exact tC (Kd.C_below HR0_0.out HB.out))
    (case side2 => exact HC0_0.out)
    (case side3 => exact tC (Kd.C_below HR0_1.out HB.out))
    (case side4 => exact HC0_1.out)
    rintro e w34 ⟨rfl, hb⟩; refine ⟨_, rfl, ?_⟩; have n0_ := bB BK211 hb; have n1_ := bB BK212 hb; have n2_ := aS (below_step tB hb); clear BK211; clear BK212; clear HB; have BK211 := n0_; have BK212 := n1_; have HB := n2_; clear n0_ n1_ n2_
    try clear hb
    refine hK.out _ _ ⟨(blk_cell BK211.out 0).trans rfl, (blk_cell BK211.out 1).trans rfl, ((HB.out.cell (World.block_lt_of_cell? w _ hw217_0)).trans hw217_0)⟩ (fun hHeld => ?_); clear hK K; refine norm_ (a' := ?_) ?_ ?_
    rotate_left
    · show Act.put _ (some 26) _ = _
      simp only [Act.put, List.setIfInBounds_toArray, List.set_cons_zero, List.set_cons_succ, i64_w, i32_w]
      rfl
    refine pN 5 27 ?_; refine tN 6 28 ?_; refine pN 7 29 ?_; refine pN 8 30 ?_; refine uN 9 31 ?_; refine uN 10 32 ?_; refine uN 11 33 ?_; refine pN 12 34 ?_; refine dN ?_
    try go_wp2
    go_meet
    case rel => exact ⟨_, (false), tX, H', ⟨by have := HJ3.out; first | omega | exact Nat.le_refl _⟩, ⟨tZ⟩, ⟨tZ⟩, ⟨tB⟩⟩
   case rest =>
    clear HC24; obtain ⟨kq, x34_23, rfl, HA, HJ23, BK211, BK212, HB⟩ := hcut
    cases kq with
    | zero => exact absurd HA.out (by simp [spec_DictSet.j1])
    | succ kj23 =>
     have H := HA.out; clear HA; simp only [spec_DictSet.j1] at H; by_cases c35 : x34_23 = true
     · subst c35; have H1 : ((spec_copyDict.f l0_0 l0_1).bind fun bt219 => (some (bt219.1, bt219.2, false))) = some (r1, r2, r3) := by rw [if_pos rfl] at H; exact H
       clear H; have H := H1; clear H1; replace H := oB H; obtain ⟨⟨t219, t222⟩, A360, H⟩ := H; replace H : (some (t219, t222, false)) = some (r1, r2, r3) := H; have A36 := aS A360; clear A360; simp only [Option.some.injEq, Prod.mk.injEq] at H; obtain ⟨rfl, rfl, rfl⟩ := H; obtain ⟨hnb37, hnc37⟩ := bO NB211_212 NB212_211; obtain ⟨hcz38_0, hcz38_1, hfz38_0, hfz38_1⟩ := c2 BK211
       go_wp2_with (first | ((with_reducible refine gC 33 ?_); refine goS (some 36) Try.func33 #[.agg #[.slice A0_0 l0_0.length c0_0, .slice A0_1 l0_1.length c0_1]] ?_; (with_reducible refine (spec_copyDict.calls _ _ l0_0 _ _ l0_1 t219 t222 _ ?side1 ?side2 ?side3 ?side4 A36.out).mono ?_); (case side1 => exact tC (Kd.C_below HR0_0.out HB.out)); (case side2 => exact HC0_0.out); (case side3 => exact tC (Kd.C_below HR0_1.out HB.out)); (case side4 => exact HC0_1.out); rintro e w39 ⟨v220, v223, rfl, ho0, ho1, hb⟩; refine ⟨_, rfl, ?_⟩; have HO221 := aS (Kd.R_lower ho0 (below_size tB)); have HO224 := aS (Kd.R_lower ho1 (below_size tB)); replace BK211 := bB BK211 hb; replace BK212 := bB BK212 hb; replace HB := aS (below_step tB hb); obtain ⟨Ao40, co40, eo40⟩ := Kd.R_slice HO221.out; subst eo40; obtain ⟨hcz41_0, hcz41_1, hfz41_0, hfz41_1⟩ := c2 BK212; obtain ⟨Ao42, co42, eo42⟩ := Kd.R_slice HO224.out; subst eo42; clear ho0 ho1 hb))
       refine bodyPost_ret (results_ct rfl _ _ gb212 26 #[.slice Ao40 t219.length co40, .slice Ao42 t222.length co42] (0, 0) _ rfl tZ Try.underlying26 rfl (by kernel_rfl)) rfl ?_; exact ⟨_, _, tE, by (with_reducible repeat (first | apply Kd.R_alloc | apply Kd.R_drewN | apply Kd.R_drew)); exact Kd.R_mono (Kd.R_far (p := ⟨gb212, 1, none⟩) (Kd.R_far (p := ⟨gb212, 0, none⟩) (Kd.R_types HO221.out BK212.out (by decide)) (fun _ hk => hk.2) (.slice Ao40 t219.length co40)) (fun _ hk => hk.2) (.slice Ao42 t222.length co42)) (fun _ hk => trivial), by (with_reducible repeat (first | apply Kd.R_alloc | apply Kd.R_drewN | apply Kd.R_drew)); exact Kd.R_mono (Kd.R_far (p := ⟨gb212, 1, none⟩) (Kd.R_far (p := ⟨gb212, 0, none⟩) (Kd.R_types HO224.out BK212.out (by decide)) (fun _ hk => hk.2) (.slice Ao40 t219.length co40)) (fun _ hk => hk.2) (.slice Ao42 t222.length co42)) (fun _ hk => trivial), tB⟩
     replace c35 := Bool.eq_false_iff.mpr c35; subst c35; have H1 : ((spec_setKey.f kj23 l0_0 l0_1 a1 a2).bind fun bt225 => (some (bt225.1, bt225.2, true))) = some (r1, r2, r3) := by rw [if_neg (show ¬ (false = true) by decide)] at H; exact H
     clear H; have H := H1; clear H1; replace H := oB H; obtain ⟨⟨t225, t228⟩, A430, H⟩ := H; replace H : (some (t225, t228, true)) = some (r1, r2, r3) := H; have A43 := aS A430; clear A430; simp only [Option.some.injEq, Prod.mk.injEq] at H; obtain ⟨rfl, rfl, rfl⟩ := H; obtain ⟨hnb44, hnc44⟩ := bO NB211_212 NB212_211; obtain ⟨hcz45_0, hcz45_1, hfz45_0, hfz45_1⟩ := c2 BK211
     go_wp2_with (first | ((with_reducible refine gC 48 ?_); refine goS (some 40) Try.func48 #[.agg #[.slice A0_0 l0_0.length c0_0, .slice A0_1 l0_1.length c0_1], .string a1, .int .i64 a2] ?_; (with_reducible refine (spec_setKey.calls kj23 _ _ l0_0 _ _ l0_1 a1 a2 t225 t228 _ ?side1 ?side2 ?side3 ?side4 A43.out).mono ?_); (case side1 => exact tC (Kd.C_below HR0_0.out HB.out)); (case side2 => exact HC0_0.out); (case side3 => exact tC (Kd.C_below HR0_1.out HB.out)); (case side4 => exact HC0_1.out); rintro e w46 ⟨v226, v229, rfl, ho0, ho1, hb⟩; refine ⟨_, rfl, ?_⟩; have HO227 := aS (Kd.R_lower ho0 (below_size tB)); have HO230 := aS (Kd.R_lower ho1 (below_size tB)); replace BK211 := bB BK211 hb; replace BK212 := bB BK212 hb; replace HB := aS (below_step tB hb); obtain ⟨Ao47, co47, eo47⟩ := Kd.R_slice HO227.out; subst eo47; obtain ⟨hcz48_0, hcz48_1, hfz48_0, hfz48_1⟩ := c2 BK212; obtain ⟨Ao49, co49, eo49⟩ := Kd.R_slice HO230.out; subst eo49; clear ho0 ho1 hb))
     refine bodyPost_ret (results_ct rfl _ _ gb212 26 #[.slice Ao47 t225.length co47, .slice Ao49 t228.length co49] (0, 0) _ rfl tZ Try.underlying26 rfl (by kernel_rfl)) rfl ?_; exact ⟨_, _, tE, by (with_reducible repeat (first | apply Kd.R_alloc | apply Kd.R_drewN | apply Kd.R_drew)); exact Kd.R_mono (Kd.R_far (p := ⟨gb212, 1, none⟩) (Kd.R_far (p := ⟨gb212, 0, none⟩) (Kd.R_types HO227.out BK212.out (by decide)) (fun _ hk => hk.2) (.slice Ao47 t225.length co47)) (fun _ hk => hk.2) (.slice Ao49 t228.length co49)) (fun _ hk => trivial), by (with_reducible repeat (first | apply Kd.R_alloc | apply Kd.R_drewN | apply Kd.R_drew)); exact Kd.R_mono (Kd.R_far (p := ⟨gb212, 1, none⟩) (Kd.R_far (p := ⟨gb212, 0, none⟩) (Kd.R_types HO230.out BK212.out (by decide)) (fun _ hk => hk.2) (.slice Ao47 t225.length co47)) (fun _ hk => hk.2) (.slice Ao49 t228.length co49)) (fun _ hk => trivial), tB⟩

/-! ### impl_DictHash: function 43 -/
def impl_DictHash.l0 : Nat → ByteArray → Int → Int → Int → Option (Int)
 | 0, _, _, _, _ => none
 | k + 1, x0, x3, x9, x10 => if x10 < x9 then (if 0 ≤ x10 then (if x10 < (x0.size : Int) then (impl_DictHash.l0 k x0 (Int.tmod (wrap64 ((wrap64 (x3 * 31)) + (wrap64 (bt x0 x10)))) 65536) x9 (wrap64 (x10 + 1))) else (none)) else (none)) else (some x3)
def impl_DictHash.f (k : Nat) (a0 : ByteArray) : Option (Int) := if (a0.size : Int) > 20 then (some (-1)) else (impl_DictHash.l0 k a0 7 (a0.size : Int) 0)
theorem impl_DictHash.mono_l : ∀ k, (∀ y0 y1 y2 y3, LeO (impl_DictHash.l0 k y0 y1 y2 y3) (impl_DictHash.l0 (k + 1) y0 y1 y2 y3))
 | 0 => fun _ _ _ _ r h => by simp [impl_DictHash.l0] at h
 | k + 1 => by
  have ih0 := impl_DictHash.mono_l k; intro y0 y1 y2 y3
  unfold impl_DictHash.l0
  exact tM
theorem impl_DictHash.mono : ∀ a0 k, LeO (impl_DictHash.f k a0) (impl_DictHash.f (k + 1) a0) := by
 intro a0 k; have ih0 := impl_DictHash.mono_l k
 unfold impl_DictHash.f
 exact tM
set_option maxHeartbeats 8000000 in
set_option maxRecDepth 100000 in
theorem impl_DictHash.calls (k : Nat) (a0 : ByteArray) (r : Int) (w : World) (h : impl_DictHash.f k a0 = some r) :
 Calls Try.prog 43 #[.string a0] w fun e w' => e = .returned (.int .i64 r) ∧ Drawn0 w w' := by
 have H : (if (a0.size : Int) > 20 then (some (-1)) else (impl_DictHash.l0 k a0 7 (a0.size : Int) 0)) = some r := h; clear h; by_cases c2 : (a0.size : Int) > 20
 · rw [if_pos c2] at H; have c2b0 : decide (20 < (a0.size : Int)) = true := decide_eq_true c2; have c2b1 : decide (20 < a0.size) = true := decide_eq_true (by omega); clear c2; obtain rfl := oI H
   go_enter Try.func43, Try.ntmps43
   go_wp2; go_ret; exact ⟨by first | rfl | (simp; done) | (simp [*]; done), by repeat (first | exact Drawn0.refl _ | apply Drawn0.step)⟩
 rw [if_neg c2] at H; have c2b0 : decide (20 < (a0.size : Int)) = false := decide_eq_false c2; have c2b1 : decide (20 < a0.size) = false := decide_eq_false (by omega); clear c2; have H' := aS H; clear H
 go_enter Try.func43, Try.ntmps43
 go_wp2
 go_loopg [3, 10] k (fun kq v3 v10 w' => ∃ (x3_1 : Int) (x10_1 : Int), v3 = .int .i64 x3_1 ∧ v10 = .int .i64 x10_1 ∧ Aside0 (impl_DictHash.l0 kq a0 x3_1 (a0.size : Int) x10_1 = some r) ∧ Aside0 (kq ≤ k) ∧ Drawn0 w w')
 case atStart => exact ⟨(7), (0), tX, tX, H', ⟨Nat.le_refl _⟩, by repeat (first | exact Drawn0.refl _ | apply Drawn0.step)⟩
 case round =>
  clear H'; clear c2b0 c2b1; obtain ⟨x3_1, x10_1, rfl, rfl, HA, HK1, ⟨m1, rfl⟩⟩ := hrel
  cases gk with
  | zero => exact absurd HA.out (by simp [impl_DictHash.l0])
  | succ k1 =>
   have H := HA.out; clear HA; simp only [impl_DictHash.l0] at H; by_cases c3 : x10_1 < (a0.size : Int)
   · rw [if_pos c3] at H; have c3b0 : decide (x10_1 < (a0.size : Int)) = true := decide_eq_true c3; clear c3; by_cases c4 : 0 ≤ x10_1
     case neg =>
      rw [if_neg c4] at H; exact nS H
     rw [if_pos c4] at H; have c4b0 : decide (0 ≤ x10_1) = true := decide_eq_true c4; clear c4; by_cases c5 : x10_1 < (a0.size : Int)
     case neg =>
      rw [if_neg c5] at H; exact nS H
     rw [if_pos c5] at H; have c5b0 : decide (x10_1 < (a0.size : Int)) = true := decide_eq_true c5; clear c5; have H' := aS H; clear H; have p6 : 0 ≤ (x10_1 : Int) := of_decide_eq_true tP; have q6 : x10_1 < (a0.size : Int) := of_decide_eq_true tP; have hx6 := bt_at a0 x10_1; replace p6 := eq_true p6; replace q6 := eq_true q6; go_wp2; go_roundg k1
     case measure => have := HK1.out; omega
     case rel => exact ⟨(Int.tmod (wrap64 ((wrap64 (x3_1 * 31)) + (wrap64 (bt a0 x10_1)))) 65536), (wrap64 (x10_1 + 1)), tX, tX, H', ⟨by have := HK1.out; omega⟩, by repeat (first | exact Drawn0.refl _ | apply Drawn0.step)⟩
   rw [if_neg c3] at H; have c3b0 : decide (x10_1 < (a0.size : Int)) = false := decide_eq_false c3; clear c3; obtain rfl := oI H; go_wp2; go_ret; exact ⟨by first | rfl | (simp; done) | (simp [*]; done), by repeat (first | exact Drawn0.refl _ | apply Drawn0.step)⟩

end Go.Proofs.Ytihcollncjcpgaa.E
