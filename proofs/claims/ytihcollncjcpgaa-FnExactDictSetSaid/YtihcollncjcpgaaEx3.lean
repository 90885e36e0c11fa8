/- Contracts of the Go functions that the seat's laws reach, one after the other: the machine's call comes to what the plain Lean function beside it says; no conditions but those that each contract names. Laid by this session's program wip/pp.py, which drives the kit's printer. -/
import Derived.Test.YtihcollncjcpgaaEx0
import Derived.Test.YtihcollncjcpgaaEx2
namespace Go.Proofs.Ytihcollncjcpgaa.E
open Go.RowKit Go.Proofs.YtihcollncjcpgaaW.PrintWords Go.Proofs.YtihcollncjcpgaaW.PrintLast Go.Proofs.YtihcollncjcpgaaW.PrintMore
attribute [local go_sem] max2_int min2_int max_two min_two max_three min_three max_four min_four   -- for this text's walks alone
set_option linter.unusedVariables false
set_option linter.unusedSimpArgs false

/-! ### spec_validSlots: function 69 -/
mutual
def spec_validSlots.l0 : Nat → List Bool → Int → Int → List Int → List (S56) → Option (Bool)
 | 0, _, _, _, _, _ => none
 | k + 1, x3, x4, x5, x119000, x119001 => if x5 < (x119000.length : Int) then (if 0 ≤ x5 then (if (rd x119000 x5) = (-2) then (spec_validSlots.j1 k x3 (wrap64 (x4 + 1)) x5 (rd x119000 x5) x119000 x119001) else (spec_validSlots.j1 k x3 x4 x5 (rd x119000 x5) x119000 x119001)) else (none)) else (spec_validSlots.l1 k x3 x4 0 x119000 x119001)
def spec_validSlots.j1 : Nat → List Bool → Int → Int → Int → List Int → List (S56) → Option (Bool)
 | 0, _, _, _, _, _, _ => none
 | k + 1, x3, x4, x5, x6, x119000, x119001 => if x6 < (-2) then (spec_validSlots.j2 k x3 x4 x5 x6 true x119000 x119001) else (if x6 ≥ (x119001.length : Int) then (spec_validSlots.j2 k x3 x4 x5 x6 true x119000 x119001) else (if x6 ≥ 0 then (if 0 ≤ x6 then (if x6 < (x3.length : Int) then (if rdOf false x3 x6 = true then (spec_validSlots.j2 k x3 x4 x5 x6 true x119000 x119001) else (if x6 < (x119001.length : Int) then (spec_validSlots.j2 k x3 x4 x5 x6 (!((rd_T56 x119001 x6).f3)) x119000 x119001) else (none))) else (none)) else (none)) else (spec_validSlots.j2 k x3 x4 x5 x6 false x119000 x119001)))
def spec_validSlots.j2 : Nat → List Bool → Int → Int → Int → Bool → List Int → List (S56) → Option (Bool)
 | 0, _, _, _, _, _, _, _ => none
 | k + 1, x3, x4, x5, x6, x55, x119000, x119001 => if x55 = true then (some false) else (if x6 ≥ 0 then (if 0 ≤ x6 then (if x6 < (x3.length : Int) then (spec_validSlots.l0 k (x3.set (x6 : Int).toNat true) x4 (wrap64 (x5 + 1)) x119000 x119001) else (none)) else (none)) else (spec_validSlots.l0 k x3 x4 (wrap64 (x5 + 1)) x119000 x119001))
def spec_validSlots.l1 : Nat → List Bool → Int → Int → List Int → List (S56) → Option (Bool)
 | 0, _, _, _, _, _ => none
 | k + 1, x3, x4, x7, x119000, x119001 => if x7 < (x3.length : Int) then (if 0 ≤ x7 then (if x7 < (x119001.length : Int) then (if ((rdOf false x3 x7) != ((rd_T56 x119001 x7).f3)) = true then (some false) else (spec_validSlots.l1 k x3 x4 (wrap64 (x7 + 1)) x119000 x119001)) else (none)) else (none)) else ((spec_liveEntries.f k x119000 x119001).bind fun t128 => (some (x4 == (wrap64 ((x119001.length : Int) - t128)))))
end
def spec_validSlots.f (k : Nat) (l0_0 : List Int) (l0_1 : List (S56)) : Option (Bool) := if 0 ≤ (l0_1.length : Int) then (if ((l0_1.length : Int) : Int).toNat ≤ 281474976710656 then (spec_validSlots.l0 k (List.replicate ((l0_1.length : Int) : Int).toNat false) 0 0 l0_0 l0_1) else (none)) else (none)
theorem spec_validSlots.mono_l : ∀ k, (∀ y0 y1 y2 y3 y4, LeO (spec_validSlots.l0 k y0 y1 y2 y3 y4) (spec_validSlots.l0 (k + 1) y0 y1 y2 y3 y4)) ∧ (∀ y0 y1 y2 y3 y4 y5, LeO (spec_validSlots.j1 k y0 y1 y2 y3 y4 y5) (spec_validSlots.j1 (k + 1) y0 y1 y2 y3 y4 y5)) ∧ (∀ y0 y1 y2 y3 y4 y5 y6, LeO (spec_validSlots.j2 k y0 y1 y2 y3 y4 y5 y6) (spec_validSlots.j2 (k + 1) y0 y1 y2 y3 y4 y5 y6)) ∧ (∀ y0 y1 y2 y3 y4, LeO (spec_validSlots.l1 k y0 y1 y2 y3 y4) (spec_validSlots.l1 (k + 1) y0 y1 y2 y3 y4))
 | 0 => ⟨fun _ _ _ _ _ r h => by simp [spec_validSlots.l0] at h, fun _ _ _ _ _ _ r h => by simp [spec_validSlots.j1] at h, fun _ _ _ _ _ _ _ r h => by simp [spec_validSlots.j2] at h, fun _ _ _ _ _ r h => by simp [spec_validSlots.l1] at h⟩
 | k + 1 => by
  obtain ⟨ih0, ih1, ih2, ih3⟩ := spec_validSlots.mono_l k; refine ⟨?_, ?_, ?_, ?_⟩
  · intro y0 y1 y2 y3 y4
    unfold spec_validSlots.l0
    have m0_ := @spec_liveEntries.mono; exact tM
  · intro y0 y1 y2 y3 y4 y5
    unfold spec_validSlots.j1
    have m0_ := @spec_liveEntries.mono; exact tM
  · intro y0 y1 y2 y3 y4 y5 y6
    unfold spec_validSlots.j2
    have m0_ := @spec_liveEntries.mono; exact tM
  intro y0 y1 y2 y3 y4
  unfold spec_validSlots.l1
  have m0_ := @spec_liveEntries.mono; exact tM
theorem spec_validSlots.mono : ∀ a0 a1 k, LeO (spec_validSlots.f k a0 a1) (spec_validSlots.f (k + 1) a0 a1) := by
 intro a0 a1 k; obtain ⟨ih0, ih1, ih2, ih3⟩ := spec_validSlots.mono_l k
 unfold spec_validSlots.f
 have m0_ := @spec_liveEntries.mono; exact tM
def spec_validSlots.T16 : Bool × List (List Nat × List Nat) := (true, [([], []), ([], []), ([0, 1], [0, 1]), ([2], [2]), ([], []), ([4], [4]), ([], []), ([5, 6], [5, 6]), ([7], [7]), ([8], [8]), ([3, 9], [3, 9])])
def spec_validSlots.B16 : List Nat := [0, 0, 3, 7, 0, 16, 0, 112, 240, 496, 1023]
theorem spec_validSlots.tab16 : rtab .any (opsOf Try.f69 16) = spec_validSlots.T16 := by kernel_rfl
theorem spec_validSlots.bits16 : waitsOk spec_validSlots.T16.2 spec_validSlots.B16 = true := by kernel_rfl
def spec_validSlots.T18 : Bool × List (List Nat × List Nat) := (true, [([], []), ([], []), ([1], [1]), ([2], [2]), ([], []), ([4], [4]), ([3, 5], [3, 5]), ([0, 6], [0, 6]), ([7, 5, 0, 1, 2, 3, 4, 5, 6, 7], [7])])
def spec_validSlots.B18 : List Nat := [0, 0, 2, 6, 0, 16, 62, 127, 255]
theorem spec_validSlots.tab18 : rtab .any (opsOf Try.f69 18) = spec_validSlots.T18 := by kernel_rfl
theorem spec_validSlots.bits18 : waitsOk spec_validSlots.T18.2 spec_validSlots.B18 = true := by kernel_rfl
set_option maxHeartbeats 8000000 in
set_option maxRecDepth 100000 in
theorem spec_validSlots.calls (k : Nat) (A0_0 : Option Addr) (c0_0 : Nat) (l0_0 : List Int) (A0_1 : Option Addr) (c0_1 : Nat) (l0_1 : List (S56)) (r : Bool) (w : World) (hr0_0 : Kd.C (Kd.int .i64) w A0_0 l0_0.length l0_0) (hc0_0 : l0_0.length ≤ c0_0) (hr0_1 : Kd.C k56 w A0_1 l0_1.length l0_1) (hc0_1 : l0_1.length ≤ c0_1) (h : spec_validSlots.f k l0_0 l0_1 = some r) :
 Calls Try.prog 69 #[.agg #[.slice A0_0 l0_0.length c0_0, .slice A0_1 l0_1.length c0_1]] w fun e w' => e = .returned (.bool r) ∧ Below w.heap.size w w' := by
 have hu26 := Try.underlying26; have HR0_0 := aS hr0_0; have HC0_0 := aS hc0_0; clear hr0_0 hc0_0; have HR0_1 := aS hr0_1; have HC0_1 := aS hc0_1; clear hr0_1 hc0_1; have HB := aS (Below.refl w.heap.size w); have H : (if 0 ≤ (l0_1.length : Int) then (if ((l0_1.length : Int) : Int).toNat ≤ 281474976710656 then (spec_validSlots.l0 k (List.replicate ((l0_1.length : Int) : Int).toNat false) 0 0 l0_0 l0_1) else (none)) else (none)) = some r := h; clear h; by_cases c2 : 0 ≤ (l0_1.length : Int)
 · rw [if_pos c2] at H; have c2b0 := eq_true c2; have c2b1 : decide (0 ≤ (l0_1.length : Int)) = true := decide_eq_true c2; clear c2; by_cases c3 : ((l0_1.length : Int) : Int).toNat ≤ 281474976710656
   case neg =>
    rw [if_neg c3] at H; exact nS H
   rw [if_pos c3] at H; have c3b0 := eq_true c3; have c3b1 : decide (((l0_1.length : Int) : Int).toNat ≤ 281474976710656) = true := decide_eq_true c3; clear c3; obtain ⟨y119, hy119⟩ : ∃ y_ : List Bool, y_ = (List.replicate ((l0_1.length : Int) : Int).toNat false) := ⟨_, rfl⟩
   replace H : (spec_validSlots.l0 k y119 0 0 l0_0 l0_1) = some r := by first | (rw [hy119]; with_reducible exact H) | (have H2_ := (Option.bind_some _ _).symm.trans H; rw [hy119]; with_reducible exact H2_) | (have H2_ := (Option.bind_some _ _).symm.trans H; with_reducible exact H2_) | with_reducible exact H | (rw [hy119]; exact H) | exact H
   have Ny119 := aS hy119; clear hy119; have H' := aS H; clear H
   go_enter Try.func69, Try.ntmps69
   go_wp2_with (first | ((with_reducible refine gD 1 ?_); refine boxS (N := 1) (cs := #[.slice A0_0 l0_0.length c0_0, .slice A0_1 l0_1.length c0_1]) (t := 26) ?_; intro gb118 hg w4 hbox hb; have BK118 := aS (hbox); have GW118 := gW (w := w) hg tB; have GE118 := GW118; replace HB := aS (below_step tB hb); clear hb hbox hg; have hcz5_0 := cA BK118 0; have hcz5_1 := cA BK118 1; have hfz5_0 := bF BK118 0; have hfz5_1 := bF BK118 1) | ((with_reducible refine gD 11 ?_); refine Kd.R_make Kd.bool _ 4 rfl (N := 11) rfl 90 _ _ rfl (l0_1.length : Int) rfl rfl Try.underlying90 (.bool false) 1 info4 rfl (by decide) (by omega) false (ok := fun _ => True) (okp := fun _ => True) rfl (fun _ hk => hk) trivial (of_decide_eq_true tP) (Nat.le_trans (Nat.mul_le_mul_right _ (of_decide_eq_true tP : (l0_1.length : Int).toNat ≤ 281474976710656)) (by omega)) (Below.refl _ _) (Nat.le_refl _) ?_; intro v120 w6 ho7 hb hg_ hnew_; clear hg_ hnew_; (first | rw [← Ny119.out] at ho7 | (simp only [Int.reduceToNat] at ho7; rw [← Ny119.out] at ho7)); have HO121 := aS (Kd.R_lower ho7 (below_size tB)); replace BK118 := bB BK118 hb; replace HB := aS (below_step tB hb); clear hb ho7))
   go_loopg [4, 5] k (fun kq v4 v5 w' => ∃ (x3_1 : List Bool) (x4_1 : Int) (x5_1 : Int), v4 = .int .i64 x4_1 ∧ v5 = .int .i64 x5_1 ∧ Aside0 (spec_validSlots.l0 kq x3_1 x4_1 x5_1 l0_0 l0_1 = some r) ∧ Aside0 (kq ≤ k) ∧ Aside0 (Kd.R Kd.bool 4 w' w.heap.size (fun _ => True) v120 x3_1) ∧ Aside0 (w'.heap[gb118]? = some (.cells #[(.slice A0_0 l0_0.length c0_0), (.slice A0_1 l0_1.length c0_1)] 26 (0, 0))) ∧ Aside0 (Below w.heap.size w w'))
   case atStart => exact ⟨(y119), (0), (0), tX, tX, H', ⟨Nat.le_refl _⟩, ⟨tR HO121.out⟩, ⟨tZ⟩, ⟨tB⟩⟩
   case round =>
    clear H'; clear c2b0 c2b1 c3b0 c3b1 hcz5_0 hcz5_1 hfz5_0 hfz5_1; obtain ⟨x3_1, x4_1, x5_1, rfl, rfl, HA, HK1, HO_3, BK118, HB⟩ := hrel
    cases gk with
    | zero => exact absurd HA.out (by simp [spec_validSlots.l0])
    | succ k1 =>
     have H := HA.out; clear HA; simp only [spec_validSlots.l0] at H; by_cases c8 : x5_1 < (l0_0.length : Int)
     · rw [if_pos c8] at H; have c8b0 : decide (x5_1 < (l0_0.length : Int)) = true := decide_eq_true c8; clear c8; by_cases c9 : 0 ≤ x5_1
       case neg =>
        rw [if_neg c9] at H; exact nS H
       rw [if_pos c9] at H; have c9b0 : decide (0 ≤ x5_1) = true := decide_eq_true c9; clear c9; have HC10 := aS H; clear H; obtain ⟨hcz11_0, hcz11_1, hfz11_0, hfz11_1⟩ := c2 BK118; have p122 : 0 ≤ (x5_1 : Int) := of_decide_eq_true tP; have q122 : x5_1 < (l0_0.length : Int) := of_decide_eq_true tP; obtain ⟨ad122, e122, hx122_0⟩ := Kd.at_int HR0_0.out x5_1 p122 q122; cases e122; replace hx122_0 := cB HB hx122_0; replace p122 := eq_true p122; replace q122 := eq_true q122
       go_upto_if 25 with (fail)
       go_cut [4] (fun v4 wc => ∃ (kq : Nat) (x4_9 : Int), v4 = .int .i64 x4_9 ∧ Aside0 (spec_validSlots.j1 kq x3_1 x4_9 x5_1 (rd l0_0 x5_1) l0_0 l0_1 = some r) ∧ Aside0 (kq ≤ k1) ∧ Aside0 (Kd.R Kd.bool 4 wc w.heap.size (fun _ => True) v120 x3_1) ∧ Aside0 (wc.heap[gb118]? = some (.cells #[(.slice (some ad122) l0_0.length c0_0), (.slice A0_1 l0_1.length c0_1)] 26 (0, 0))) ∧ Aside0 (Below w.heap.size w wc))
       case first =>
        have H := HC10.out; clear HC10; by_cases c12 : (rd l0_0 x5_1) = (-2)
        · rw [if_pos c12] at H; have c12b0 : ((rd l0_0 x5_1) == (-2)) = true := beq_iff_eq.mpr c12; have c12b1 : ((rd l0_0 x5_1) != (-2)) = false := bne_eq_false_iff_eq.mpr c12; clear c12
          (first | rw [c12b0] | (simp only [i64_w, i32_w]; rw [c12b0]) | skip)
          have H' := aS H; clear H; go_wp2; go_meet
          case rel => exact ⟨_, (wrap64 (x4_1 + 1)), tX, H', ⟨by have := HK1.out; first | omega | exact Nat.le_refl _⟩, ⟨tR HO_3.out⟩, ⟨tZ⟩, ⟨tB⟩⟩
        rw [if_neg c12] at H; have c12b0 : ((rd l0_0 x5_1) == (-2)) = false := beq_eq_false_iff_ne.mpr c12; have c12b1 : ((rd l0_0 x5_1) != (-2)) = true := bne_iff_ne.mpr c12
        (first | rw [c12b0] | (simp only [i64_w, i32_w]; rw [c12b0]) | skip)
        have H' := aS H; clear H; go_wp2; go_meet
        case rel => exact ⟨_, (x4_1), tX, H', ⟨by have := HK1.out; first | omega | exact Nat.le_refl _⟩, ⟨tR HO_3.out⟩, ⟨tZ⟩, ⟨tB⟩⟩
       case rest =>
        clear HC10; clear c8b0 c9b0 hcz11_0 hcz11_1 hfz11_0 hfz11_1 hx122_0 p122 q122; obtain ⟨kq, x4_9, rfl, HA, HJ9, HO_3, BK118, HB⟩ := hcut
        cases kq with
        | zero => exact absurd HA.out (by simp [spec_validSlots.j1])
        | succ kj9 =>
         have H := HA.out; clear HA; simp only [spec_validSlots.j1] at H; have HC13 := aS H; clear H
         go_upto_region 9 with (fail)
         go_cut [55] (fun v55 wc => ∃ (kq : Nat) (x55_12 : Bool), v55 = .bool x55_12 ∧ Aside0 (spec_validSlots.j2 kq x3_1 x4_9 x5_1 (rd l0_0 x5_1) x55_12 l0_0 l0_1 = some r) ∧ Aside0 (kq ≤ kj9) ∧ Aside0 (Kd.R Kd.bool 4 wc w.heap.size (fun _ => True) v120 x3_1) ∧ Aside0 (wc.heap[gb118]? = some (.cells #[(.slice (some ad122) l0_0.length c0_0), (.slice A0_1 l0_1.length c0_1)] 26 (0, 0))) ∧ Aside0 (Below w.heap.size w wc))
         case first =>
          have H := HC13.out; clear HC13; by_cases c14 : (rd l0_0 x5_1) < (-2)
          · rw [if_pos c14] at H; have c14b0 : decide ((rd l0_0 x5_1) < (-2)) = true := decide_eq_true c14; clear c14
            (first | rw [c14b0] | (simp only [i64_w, i32_w]; rw [c14b0]) | skip)
            have H' := aS H; clear H; go_wp2; go_meet
            case rel => exact ⟨_, (true), tX, H', ⟨by have := HK1.out; have := HJ9.out; first | omega | exact Nat.le_refl _⟩, ⟨tR HO_3.out⟩, ⟨tZ⟩, ⟨tB⟩⟩
          rw [if_neg c14] at H; have c14b0 : decide ((rd l0_0 x5_1) < (-2)) = false := decide_eq_false c14; clear c14
          (first | rw [c14b0] | (simp only [i64_w, i32_w]; rw [c14b0]) | skip)
          by_cases c15 : (rd l0_0 x5_1) ≥ (l0_1.length : Int)
          · rw [if_pos c15] at H; have c15b0 : decide ((l0_1.length : Int) ≤ (rd l0_0 x5_1)) = true := decide_eq_true c15; clear c15; have H' := aS H; clear H; obtain ⟨hcz16_0, hcz16_1, hfz16_0, hfz16_1⟩ := c2 BK118; go_wp2; go_meet
            case rel => exact ⟨_, (true), tX, H', ⟨by have := HK1.out; have := HJ9.out; first | omega | exact Nat.le_refl _⟩, ⟨tR HO_3.out⟩, ⟨tZ⟩, ⟨tB⟩⟩
          rw [if_neg c15] at H; have c15b0 : decide ((l0_1.length : Int) ≤ (rd l0_0 x5_1)) = false := decide_eq_false c15; clear c15; by_cases c17 : (rd l0_0 x5_1) ≥ 0
          · rw [if_pos c17] at H; have c17b0 : decide (0 ≤ (rd l0_0 x5_1)) = true := decide_eq_true c17; clear c17; by_cases c18 : 0 ≤ (rd l0_0 x5_1)
            case neg =>
             rw [if_neg c18] at H; exact nS H
            rw [if_pos c18] at H; have c18b0 : decide (0 ≤ (rd l0_0 x5_1)) = true := decide_eq_true c18; clear c18; by_cases c19 : (rd l0_0 x5_1) < (x3_1.length : Int)
            case neg =>
             rw [if_neg c19] at H; exact nS H
            rw [if_pos c19] at H; have c19b0 : decide ((rd l0_0 x5_1) < (x3_1.length : Int)) = true := decide_eq_true c19; clear c19; obtain ⟨bq20, hbq20⟩ : ∃ b_ : Bool, b_ = (rdOf false x3_1 (rd l0_0 x5_1)) := ⟨_, rfl⟩
            replace H : (if bq20 = true then (spec_validSlots.j2 kj9 x3_1 x4_9 x5_1 (rd l0_0 x5_1) true l0_0 l0_1) else (if (rd l0_0 x5_1) < (l0_1.length : Int) then (spec_validSlots.j2 kj9 x3_1 x4_9 x5_1 (rd l0_0 x5_1) (!((rd_T56 l0_1 (rd l0_0 x5_1)).f3)) l0_0 l0_1) else (none))) = some r := by rw [← hbq20] at H; exact H
            have Nbq20 := aS hbq20; clear hbq20; by_cases c21 : bq20 = true
            · subst c21; have H1 : (spec_validSlots.j2 kj9 x3_1 x4_9 x5_1 (rd l0_0 x5_1) true l0_0 l0_1) = some r := by rw [if_pos rfl] at H; exact H
              clear H; have H := H1; clear H1; have H' := aS H; clear H; obtain ⟨hcz22_0, hcz22_1, hfz22_0, hfz22_1⟩ := c2 BK118; obtain ⟨Ao23, co23, eo23⟩ := Kd.R_slice HO_3.out; subst eo23; have p123 : 0 ≤ ((rd l0_0 x5_1) : Int) := of_decide_eq_true tP; have q123 : (rd l0_0 x5_1) < (x3_1.length : Int) := of_decide_eq_true tP; obtain ⟨ad123, e123, hx123_0⟩ := Kd.at_bool (Kd.R_reads' HO_3.out).2.2 (rd l0_0 x5_1) p123 q123
              (try rw [← Nbq20.out] at hx123_0); (try rw [← Nbq20.out] at hw123_0)
              cases e123; replace p123 := eq_true p123; replace q123 := eq_true q123; go_wp2; go_meet
              case rel => exact ⟨_, (true), tX, H', ⟨by have := HK1.out; have := HJ9.out; first | omega | exact Nat.le_refl _⟩, ⟨tR HO_3.out⟩, ⟨tZ⟩, ⟨tB⟩⟩
            replace c21 := Bool.eq_false_iff.mpr c21; subst c21; have H1 : (if (rd l0_0 x5_1) < (l0_1.length : Int) then (spec_validSlots.j2 kj9 x3_1 x4_9 x5_1 (rd l0_0 x5_1) (!((rd_T56 l0_1 (rd l0_0 x5_1)).f3)) l0_0 l0_1) else (none)) = some r := by rw [if_neg (show ¬ (false = true) by decide)] at H; exact H
            clear H; have H := H1; clear H1; by_cases c24 : (rd l0_0 x5_1) < (l0_1.length : Int)
            case neg =>
             rw [if_neg c24] at H; exact nS H
            rw [if_pos c24] at H; have c24b0 : decide ((rd l0_0 x5_1) < (l0_1.length : Int)) = true := decide_eq_true c24; clear c24; have H' := aS H; clear H; obtain ⟨hcz25_0, hcz25_1, hfz25_0, hfz25_1⟩ := c2 BK118; obtain ⟨Ao26, co26, eo26⟩ := Kd.R_slice HO_3.out; subst eo26; have p123 : 0 ≤ ((rd l0_0 x5_1) : Int) := of_decide_eq_true tP; have q123 : (rd l0_0 x5_1) < (x3_1.length : Int) := of_decide_eq_true tP; obtain ⟨ad123, e123, hx123_0⟩ := Kd.at_bool (Kd.R_reads' HO_3.out).2.2 (rd l0_0 x5_1) p123 q123
            (try rw [← Nbq20.out] at hx123_0); (try rw [← Nbq20.out] at hw123_0)
            cases e123; replace p123 := eq_true p123; replace q123 := eq_true q123; have p124 : 0 ≤ ((rd l0_0 x5_1) : Int) := of_decide_eq_true tP; have q124 : (rd l0_0 x5_1) < (l0_1.length : Int) := of_decide_eq_true tP; obtain ⟨ad124, e124, hx124_0, hx124_1, hx124_2, hx124_3⟩ := at_T56 HR0_1.out (rd l0_0 x5_1) p124 q124
            (try rw [← Nbq20.out] at hx124_3); (try rw [← Nbq20.out] at hw124_3)
            cases e124; replace hx124_0 := cB HB hx124_0; replace hx124_1 := cB HB hx124_1; replace hx124_2 := cB HB hx124_2; replace hx124_3 := cB HB hx124_3; replace p124 := eq_true p124; replace q124 := eq_true q124; go_wp2; go_meet
            case rel => exact ⟨_, (!((rd_T56 l0_1 (rd l0_0 x5_1)).f3)), tX, H', ⟨by have := HK1.out; have := HJ9.out; first | omega | exact Nat.le_refl _⟩, ⟨tR HO_3.out⟩, ⟨tZ⟩, ⟨tB⟩⟩
          rw [if_neg c17] at H; have c17b0 : decide (0 ≤ (rd l0_0 x5_1)) = false := decide_eq_false c17; clear c17; have H' := aS H; clear H; obtain ⟨hcz27_0, hcz27_1, hfz27_0, hfz27_1⟩ := c2 BK118; go_wp2; go_meet
          case rel => exact ⟨_, (false), tX, H', ⟨by have := HK1.out; have := HJ9.out; first | omega | exact Nat.le_refl _⟩, ⟨tR HO_3.out⟩, ⟨tZ⟩, ⟨tB⟩⟩
         case rest =>
          clear HC13; obtain ⟨kq, x55_12, rfl, HA, HJ12, HO_3, BK118, HB⟩ := hcut
          cases kq with
          | zero => exact absurd HA.out (by simp [spec_validSlots.j2])
          | succ kj12 =>
           have H := HA.out; clear HA; simp only [spec_validSlots.j2] at H; by_cases c28 : x55_12 = true
           · subst c28; have H1 : (some false) = some r := by rw [if_pos rfl] at H; exact H
             clear H; have H := H1; clear H1; obtain rfl := oI H; go_wp2; go_ret; exact ⟨tE, tB⟩
           replace c28 := Bool.eq_false_iff.mpr c28; subst c28; have H1 : (if (rd l0_0 x5_1) ≥ 0 then (if 0 ≤ (rd l0_0 x5_1) then (if (rd l0_0 x5_1) < (x3_1.length : Int) then (spec_validSlots.l0 kj12 (x3_1.set ((rd l0_0 x5_1) : Int).toNat true) x4_9 (wrap64 (x5_1 + 1)) l0_0 l0_1) else (none)) else (none)) else (spec_validSlots.l0 kj12 x3_1 x4_9 (wrap64 (x5_1 + 1)) l0_0 l0_1)) = some r := by rw [if_neg (show ¬ (false = true) by decide)] at H; exact H
           clear H; have H := H1; clear H1; by_cases c29 : (rd l0_0 x5_1) ≥ 0
           · rw [if_pos c29] at H; have c29b0 : decide (0 ≤ (rd l0_0 x5_1)) = true := decide_eq_true c29; clear c29; by_cases c30 : 0 ≤ (rd l0_0 x5_1)
             case neg =>
              rw [if_neg c30] at H; exact nS H
             rw [if_pos c30] at H; have c30b0 : decide (0 ≤ (rd l0_0 x5_1)) = true := decide_eq_true c30; clear c30; by_cases c31 : (rd l0_0 x5_1) < (x3_1.length : Int)
             case neg =>
              rw [if_neg c31] at H; exact nS H
             rw [if_pos c31] at H; have c31b0 : decide ((rd l0_0 x5_1) < (x3_1.length : Int)) = true := decide_eq_true c31; clear c31; obtain ⟨y125, hy125⟩ : ∃ y_ : List Bool, y_ = (x3_1.set ((rd l0_0 x5_1) : Int).toNat true) := ⟨_, rfl⟩
             replace H : (spec_validSlots.l0 kj12 y125 x4_9 (wrap64 (x5_1 + 1)) l0_0 l0_1) = some r := by first | (rw [hy125]; with_reducible exact H) | (have H2_ := (Option.bind_some _ _).symm.trans H; rw [hy125]; with_reducible exact H2_) | (have H2_ := (Option.bind_some _ _).symm.trans H; with_reducible exact H2_) | with_reducible exact H | (rw [hy125]; exact H) | exact H
             have Ny125 := aS hy125; clear hy125; have H' := aS H; clear H; have p32 : 0 ≤ ((rd l0_0 x5_1) : Int) := of_decide_eq_true tP; have q32 : ((rd l0_0 x5_1) : Int) < ((x3_1.length : Int) : Int) := of_decide_eq_true tP; obtain ⟨go32, co32, eo32, gb32, gl32, cl32, HG32⟩ := Kd.R_form HO_3.out (by omega)
             (first | cases eo32 | (injection eo32 with ea_ en_ ec_; (first | subst ea_ | (injection ea_ with ea_; subst ea_)); subst ec_; clear en_))
             have GB32 := aS gb32; have GG32 := aS HG32; clear gb32 gl32 HG32; obtain ⟨hx32_0, hf32_0⟩ := Kd.R_celln false HO_3.out ((rd l0_0 x5_1) : Int) p32 q32; replace p32 := eq_true p32; replace q32 := eq_true q32; have HP33 := Kd.R_putg HO_3.out ((rd l0_0 x5_1) : Int) true
             go_wp2_with (first | ((with_reducible refine gate_store (t := 4) (p := 60) rfl ?_); refine store_event (t := 4) (p := 60) (v := ?vo_w34) (w1 := (wc.setCell ⟨go32, ((rd l0_0 x5_1) : Int).toNat, none⟩ (.bool true))) ?hg ?ho ?hn ?hr ?_; (case ho => rfl); (case hg => rfl); (case hn => rfl); (case hr => first | (go_simp; done) | (go_simp; rfl)); intro w34 hw; have hg : wc.grownBy w34 (some go32) := (by rw [hw]; exact HP33.2); have hp_ : Kd.R Kd.bool 4 w34 w.heap.size (fun _ => True) (.slice (some ⟨go32, 0, none⟩) x3_1.length co32) y125 := (by rw [hw, Ny125.out]; exact HP33.1); clear HP33; replace BK118 := aS (blk_grown (g := gb118) (o := .cells #[.slice (some ad122) l0_0.length c0_0, .slice A0_1 l0_1.length c0_1] 26 (0, 0)) (tK BK118.out) hg (Kd.R_ne HO_3.out BK118.out (by decide))); replace HO_3 := aS (hp_); replace HB := aS ((by rw [hw]; exact below_set (HB.out) GB32.out : Below w.heap.size w w34)); clear hg hw hp_))
             go_roundg kj12
             case measure => have := HK1.out; have := HJ9.out; have := HJ12.out; omega
             case rel => exact ⟨(y125), (x4_9), (wrap64 (x5_1 + 1)), tX, tX, H', ⟨by have := HK1.out; have := HJ9.out; have := HJ12.out; omega⟩, ⟨tR HO_3.out⟩, ⟨tZ⟩, ⟨tB⟩⟩
           rw [if_neg c29] at H; have c29b0 : decide (0 ≤ (rd l0_0 x5_1)) = false := decide_eq_false c29; clear c29; have H' := aS H; clear H; go_wp2; go_roundg kj12
           case measure => have := HK1.out; have := HJ9.out; have := HJ12.out; omega
           case rel => exact ⟨(x3_1), (x4_9), (wrap64 (x5_1 + 1)), tX, tX, H', ⟨by have := HK1.out; have := HJ9.out; have := HJ12.out; omega⟩, ⟨tR HO_3.out⟩, ⟨tZ⟩, ⟨tB⟩⟩
     rw [if_neg c8] at H; have c8b0 : decide (x5_1 < (l0_0.length : Int)) = false := decide_eq_false c8; clear c8; have H' := aS H; clear H; obtain ⟨hcz35_0, hcz35_1, hfz35_0, hfz35_1⟩ := c2 BK118; go_wp2
     go_loopg [7] k1 (fun kq v7 w' => ∃ (x7_2 : Int), v7 = .int .i64 x7_2 ∧ Aside0 (spec_validSlots.l1 kq x3_1 x4_1 x7_2 l0_0 l0_1 = some r) ∧ Aside0 (kq ≤ k1) ∧ Aside0 (Kd.R Kd.bool 4 w' w.heap.size (fun _ => True) v120 x3_1) ∧ Aside0 (w'.heap[gb118]? = some (.cells #[(.slice A0_0 l0_0.length c0_0), (.slice A0_1 l0_1.length c0_1)] 26 (0, 0))) ∧ Aside0 (Below w.heap.size w w'))
     case atStart => exact ⟨(0), tX, H', ⟨Nat.le_refl _⟩, ⟨tR HO_3.out⟩, ⟨tZ⟩, ⟨tB⟩⟩
     case round =>
      clear H'; clear c8b0 hcz35_0 hcz35_1 hfz35_0 hfz35_1; obtain ⟨x7_2, rfl, HA, HK2, HO_3, BK118, HB⟩ := hrel
      cases gk with
      | zero => exact absurd HA.out (by simp [spec_validSlots.l1])
      | succ k2 =>
       have H := HA.out; clear HA; simp only [spec_validSlots.l1] at H; by_cases c36 : x7_2 < (x3_1.length : Int)
       · rw [if_pos c36] at H; have c36b0 : decide (x7_2 < (x3_1.length : Int)) = true := decide_eq_true c36; clear c36; by_cases c37 : 0 ≤ x7_2
         case neg =>
          rw [if_neg c37] at H; exact nS H
         rw [if_pos c37] at H; have c37b0 : decide (0 ≤ x7_2) = true := decide_eq_true c37; clear c37; by_cases c38 : x7_2 < (l0_1.length : Int)
         case neg =>
          rw [if_neg c38] at H; exact nS H
         rw [if_pos c38] at H; have c38b0 : decide (x7_2 < (l0_1.length : Int)) = true := decide_eq_true c38; clear c38; by_cases c39 : ((rdOf false x3_1 x7_2) != ((rd_T56 l0_1 x7_2).f3)) = true
         · rw [if_pos c39] at H; have c39b0 : ((rdOf false x3_1 x7_2) != ((rd_T56 l0_1 x7_2).f3)) = true := c39
           (try (have c39b1 : decide ((rdOf false x3_1 x7_2) = ((rd_T56 l0_1 x7_2).f3)) = false := by simpa using c39))
           (try (have c39b2 : ((rdOf false x3_1 x7_2) == ((rd_T56 l0_1 x7_2).f3)) = false := by simpa using c39))
           (try (have c39b3 : ¬ ((rdOf false x3_1 x7_2) = ((rd_T56 l0_1 x7_2).f3)) := by simpa using c39))
           clear c39; obtain rfl := oI H; obtain ⟨Ao40, co40, eo40⟩ := Kd.R_slice HO_3.out; subst eo40
           try go_wp2
           have n0_ := aS (Kd.R_drew HO_3.out); have n1_ := aS (blk_drew BK118.out); have n2_ := aS (below_drew1 HB.out); clear HO_3; clear BK118; clear HB; have HO_3 := n0_; have BK118 := n1_; have HB := n2_; clear n0_ n1_ n2_; have p126 : 0 ≤ (x7_2 : Int) := of_decide_eq_true tP; have q126 : x7_2 < (x3_1.length : Int) := of_decide_eq_true tP; obtain ⟨ad126, e126, hx126_0⟩ := Kd.at_bool (Kd.R_reads' HO_3.out).2.2 x7_2 p126 q126; cases e126; replace p126 := eq_true p126; replace q126 := eq_true q126; have p127 : 0 ≤ (x7_2 : Int) := of_decide_eq_true tP; have q127 : x7_2 < (l0_1.length : Int) := of_decide_eq_true tP; obtain ⟨ad127, e127, hx127_0, hx127_1, hx127_2, hx127_3⟩ := at_T56 HR0_1.out x7_2 p127 q127; have hw127_3 := hx127_3; have hw127_2 := hx127_2; have hw127_1 := hx127_1; have hw127_0 := hx127_0; cases e127; replace hx127_0 := cB HB hx127_0; replace hx127_1 := cB HB hx127_1; replace hx127_2 := cB HB hx127_2; replace hx127_3 := cB HB hx127_3; replace p127 := eq_true p127; replace q127 := eq_true q127; refine start_ (n := 11) (S := fun w' => w'.cell? ⟨gb118, 0, none⟩ = some (.slice A0_0 l0_0.length c0_0) ∧ w'.cell? ⟨gb118, 1, none⟩ = some (.slice (some ad127) l0_1.length c0_1) ∧ w'.cell? (ad126.add (x7_2).toNat) = some (.bool (rdOf false x3_1 x7_2)) ∧ w'.cell? (ad127.add ((x7_2).toNat * 4)) = some (.string ((rd_T56 l0_1 x7_2).f0)) ∧ w'.cell? ⟨(ad127.add ((x7_2).toNat * 4)).block, (ad127.add ((x7_2).toNat * 4)).off + 1, none⟩ = some (.int .i64 ((rd_T56 l0_1 x7_2).f1)) ∧ w'.cell? ⟨(ad127.add ((x7_2).toNat * 4)).block, (ad127.add ((x7_2).toNat * 4)).off + 2, none⟩ = some (.int .i64 ((rd_T56 l0_1 x7_2).f2)) ∧ w'.cell? ⟨(ad127.add ((x7_2).toNat * 4)).block, (ad127.add ((x7_2).toNat * 4)).off + 3, none⟩ = some (.bool ((rd_T56 l0_1 x7_2).f3))) (ds := []) (.replicate 11 false) (by kernel_rfl) rfl rfl ⟨(blk_cell BK118.out 0).trans rfl, (blk_cell BK118.out 1).trans rfl, hx126_0, ((HB.out.cell (World.block_lt_of_cell? w _ hw127_0)).trans hw127_0), ((HB.out.cell (World.block_lt_of_cell? w _ hw127_1)).trans hw127_1), ((HB.out.cell (World.block_lt_of_cell? w _ hw127_2)).trans hw127_2), ((HB.out.cell (World.block_lt_of_cell? w _ hw127_3)).trans hw127_3)⟩ (fun hHeld => ?_); refine with_tabW spec_validSlots.tab16 spec_validSlots.bits16 (fun HT_ HW_ => ?_); generalize wr.drew = w41 at HO_3 BK118 HB hx126_0 hx127_0 hx127_1 hx127_2 hx127_3 hHeld ⊢; refine pN 0 67 ?_; refine pN 1 68 ?_; refine pN 2 69 ?_; refine pN 4 71 ?_; refine pN 6 73 ?_; refine tN 3 70 ?_; refine tN 5 72 ?_; refine pN 7 74 ?_; refine pN 8 75 ?_; refine tN 9 76 ?_; refine pN 10 77 ?_; refine dN ?_
           try go_wp2
           go_ret; exact ⟨tE, tB⟩
         rw [if_neg c39] at H; have c39b0 : ((rdOf false x3_1 x7_2) != ((rd_T56 l0_1 x7_2).f3)) = false := by simpa using c39
         (try (have c39b1 : decide ((rdOf false x3_1 x7_2) = ((rd_T56 l0_1 x7_2).f3)) = true := by simpa using c39))
         (try (have c39b2 : ((rdOf false x3_1 x7_2) == ((rd_T56 l0_1 x7_2).f3)) = true := by simpa using c39))
         clear c39; have H' := aS H; clear H; obtain ⟨Ao42, co42, eo42⟩ := Kd.R_slice HO_3.out; subst eo42
         try go_wp2
         have n0_ := aS (Kd.R_drew HO_3.out); have n1_ := aS (blk_drew BK118.out); have n2_ := aS (below_drew1 HB.out); clear HO_3; clear BK118; clear HB; have HO_3 := n0_; have BK118 := n1_; have HB := n2_; clear n0_ n1_ n2_; have p126 : 0 ≤ (x7_2 : Int) := of_decide_eq_true tP; have q126 : x7_2 < (x3_1.length : Int) := of_decide_eq_true tP; obtain ⟨ad126, e126, hx126_0⟩ := Kd.at_bool (Kd.R_reads' HO_3.out).2.2 x7_2 p126 q126; cases e126; replace p126 := eq_true p126; replace q126 := eq_true q126; have p127 : 0 ≤ (x7_2 : Int) := of_decide_eq_true tP; have q127 : x7_2 < (l0_1.length : Int) := of_decide_eq_true tP; obtain ⟨ad127, e127, hx127_0, hx127_1, hx127_2, hx127_3⟩ := at_T56 HR0_1.out x7_2 p127 q127; have hw127_3 := hx127_3; have hw127_2 := hx127_2; have hw127_1 := hx127_1; have hw127_0 := hx127_0; cases e127; replace hx127_0 := cB HB hx127_0; replace hx127_1 := cB HB hx127_1; replace hx127_2 := cB HB hx127_2; replace hx127_3 := cB HB hx127_3; replace p127 := eq_true p127; replace q127 := eq_true q127; refine start_ (n := 11) (S := fun w' => w'.cell? ⟨gb118, 0, none⟩ = some (.slice A0_0 l0_0.length c0_0) ∧ w'.cell? ⟨gb118, 1, none⟩ = some (.slice (some ad127) l0_1.length c0_1) ∧ w'.cell? (ad126.add (x7_2).toNat) = some (.bool (rdOf false x3_1 x7_2)) ∧ w'.cell? (ad127.add ((x7_2).toNat * 4)) = some (.string ((rd_T56 l0_1 x7_2).f0)) ∧ w'.cell? ⟨(ad127.add ((x7_2).toNat * 4)).block, (ad127.add ((x7_2).toNat * 4)).off + 1, none⟩ = some (.int .i64 ((rd_T56 l0_1 x7_2).f1)) ∧ w'.cell? ⟨(ad127.add ((x7_2).toNat * 4)).block, (ad127.add ((x7_2).toNat * 4)).off + 2, none⟩ = some (.int .i64 ((rd_T56 l0_1 x7_2).f2)) ∧ w'.cell? ⟨(ad127.add ((x7_2).toNat * 4)).block, (ad127.add ((x7_2).toNat * 4)).off + 3, none⟩ = some (.bool ((rd_T56 l0_1 x7_2).f3))) (ds := []) (.replicate 11 false) (by kernel_rfl) rfl rfl ⟨(blk_cell BK118.out 0).trans rfl, (blk_cell BK118.out 1).trans rfl, hx126_0, ((HB.out.cell (World.block_lt_of_cell? w _ hw127_0)).trans hw127_0), ((HB.out.cell (World.block_lt_of_cell? w _ hw127_1)).trans hw127_1), ((HB.out.cell (World.block_lt_of_cell? w _ hw127_2)).trans hw127_2), ((HB.out.cell (World.block_lt_of_cell? w _ hw127_3)).trans hw127_3)⟩ (fun hHeld => ?_); refine with_tabW spec_validSlots.tab16 spec_validSlots.bits16 (fun HT_ HW_ => ?_); generalize wr.drew = w43 at HO_3 BK118 HB hx126_0 hx127_0 hx127_1 hx127_2 hx127_3 hHeld ⊢; refine pN 0 67 ?_; refine pN 1 68 ?_; refine pN 2 69 ?_; refine pN 4 71 ?_; refine pN 6 73 ?_; refine tN 3 70 ?_; refine tN 5 72 ?_; refine pN 7 74 ?_; refine pN 8 75 ?_; refine tN 9 76 ?_; refine pN 10 77 ?_; refine dN ?_
         try go_wp2
         go_roundg k2
         case measure => have := HK1.out; have := HK2.out; omega
         case rel => exact ⟨(wrap64 (x7_2 + 1)), tX, H', ⟨by have := HK1.out; have := HK2.out; omega⟩, ⟨tR HO_3.out⟩, ⟨tZ⟩, ⟨tB⟩⟩
       rw [if_neg c36] at H; have c36b0 : decide (x7_2 < (x3_1.length : Int)) = false := decide_eq_false c36; clear c36; replace H := oB H; obtain ⟨t128, A440, H⟩ := H; replace H : (some (x4_1 == (wrap64 ((l0_1.length : Int) - t128)))) = some r := H; have A44 := aS A440; clear A440; obtain rfl := oI H; obtain ⟨Ao45, co45, eo45⟩ := Kd.R_slice HO_3.out; subst eo45
       try go_wp2
       have n0_ := aS (Kd.R_drew HO_3.out); have n1_ := aS (blk_drew BK118.out); have n2_ := aS (below_drew1 HB.out); clear HO_3; clear BK118; clear HB; have HO_3 := n0_; have BK118 := n1_; have HB := n2_; clear n0_ n1_ n2_; refine start_ (n := 9) (S := fun w' => w'.cell? ⟨gb118, 0, none⟩ = some (.slice A0_0 l0_0.length c0_0) ∧ w'.cell? ⟨gb118, 1, none⟩ = some (.slice A0_1 l0_1.length c0_1)) (ds := []) (.replicate 9 false) (by kernel_rfl) rfl rfl ⟨(blk_cell BK118.out 0).trans rfl, (blk_cell BK118.out 1).trans rfl⟩ (fun hHeld => ?_); refine with_tabW spec_validSlots.tab18 spec_validSlots.bits18 (fun HT_ HW_ => ?_); generalize wr.drew = w46 at HO_3 BK118 HB hHeld ⊢; refine pN 0 78 ?_; refine pN 1 79 ?_; refine tN 2 80 ?_; refine pN 3 81 ?_; refine tN 4 82 ?_; refine oN 5 83 (fun K hK => ?_); refine goes_ Try.func47 (by kernel_rfl) rfl #[.agg #[.slice A0_0 l0_0.length c0_0, .slice A0_1 l0_1.length c0_1]] (by rfl) rfl rfl tA ?_
       with_reducible refine (spec_liveEntries.calls k2 _ _ l0_0 _ _ l0_1 t128 _ ?side1 ?side2 ?side3 ?side4 A44.out).mono ?_
       (case side1 => exact tC (Kd.C_below HR0_0.out HB.out))
       (case side2 => exact HC0_0.out)
       (case side3 => exact tC (Kd.C_below HR0_1.out HB.out))
       (case side4 => exact HC0_1.out)
       rintro e w47 ⟨rfl, hb⟩; refine ⟨_, rfl, ?_⟩; have n0_ := rB HO_3 hb; have n1_ := bB BK118 hb; have n2_ := aS (below_step tB hb); clear HO_3; clear BK118; clear HB; have HO_3 := n0_; have BK118 := n1_; have HB := n2_; clear n0_ n1_ n2_
       try clear hb
       refine hK.out _ _ ⟨(blk_cell BK118.out 0).trans rfl, (blk_cell BK118.out 1).trans rfl⟩ (fun hHeld => ?_); clear hK K; refine norm_ (a' := ?_) ?_ ?_
       rotate_left
       · show Act.put _ (some 83) _ = _
         simp only [Act.put, List.setIfInBounds_toArray, List.set_cons_zero, List.set_cons_succ, i64_w, i32_w]
         rfl
       refine pN 6 84 ?_; refine pN 7 85 ?_; refine pN 8 2 ?_; refine dN ?_
       try go_wp2
       go_ret; exact ⟨tE, tB⟩
 rw [if_neg c2] at H; exact nS H

end Go.Proofs.Ytihcollncjcpgaa.E
