/- Contracts of the Go functions that the seat's laws reach, one after the other: the machine's call comes to what the plain Lean function beside it says; no conditions but those that each contract names. Laid by this session's program wip/pp.py, which drives the kit's printer. -/
import Derived.Test.YtihcollncjcpgaaEx0
namespace Go.Proofs.Ytihcollncjcpgaa.E
open Go.RowKit Go.Proofs.YtihcollncjcpgaaW.PrintWords Go.Proofs.YtihcollncjcpgaaW.PrintLast Go.Proofs.YtihcollncjcpgaaW.PrintMore
attribute [local go_sem] max2_int min2_int max_two min_two max_three min_three max_four min_four   -- for this text's walks alone
set_option linter.unusedVariables false
set_option linter.unusedSimpArgs false

/-! ### spec_validKey: function 32 -/
def spec_validKey.f (a0 : ByteArray) : Option (Bool) := some (decide ((a0.size : Int) ≤ 20))
set_option maxHeartbeats 8000000 in
set_option maxRecDepth 100000 in
theorem spec_validKey.calls (a0 : ByteArray) (r : Bool) (w : World) (h : spec_validKey.f a0 = some r) :
 Calls Try.prog 32 #[.string a0] w fun e w' => e = .returned (.bool r) ∧ Drawn0 w w' := by
 have H : (some (decide ((a0.size : Int) ≤ 20))) = some r := h; clear h; obtain rfl := oI H
 go_enter Try.func32, Try.ntmps32
 go_wp2; go_ret; exact ⟨by first | rfl | (simp; done) | (simp [*]; done), by repeat (first | exact Drawn0.refl _ | apply Drawn0.step)⟩

/-! ### spec_hashOf: function 68 -/
def spec_hashOf.l0 : Nat → ByteArray → Int → Int → Option (Int)
 | 0, _, _, _ => none
 | k + 1, x0, x3, x4 => if x4 < (x0.size : Int) then (if 0 ≤ x4 then (spec_hashOf.l0 k x0 (Int.tmod (wrap64 ((wrap64 (x3 * 31)) + (wrap64 (bt x0 x4)))) 65536) (wrap64 (x4 + 1))) else (none)) else (some x3)
def spec_hashOf.f (k : Nat) (a0 : ByteArray) : Option (Int) := spec_hashOf.l0 k a0 7 0
theorem spec_hashOf.mono_l : ∀ k, (∀ y0 y1 y2, LeO (spec_hashOf.l0 k y0 y1 y2) (spec_hashOf.l0 (k + 1) y0 y1 y2))
 | 0 => fun _ _ _ r h => by simp [spec_hashOf.l0] at h
 | k + 1 => by
  have ih0 := spec_hashOf.mono_l k; intro y0 y1 y2
  unfold spec_hashOf.l0
  exact tM
theorem spec_hashOf.mono : ∀ a0 k, LeO (spec_hashOf.f k a0) (spec_hashOf.f (k + 1) a0) := by
 intro a0 k; have ih0 := spec_hashOf.mono_l k
 unfold spec_hashOf.f
 exact tM
set_option maxHeartbeats 8000000 in
set_option maxRecDepth 100000 in
theorem spec_hashOf.calls (k : Nat) (a0 : ByteArray) (r : Int) (w : World) (h : spec_hashOf.f k a0 = some r) :
 Calls Try.prog 68 #[.string a0] w fun e w' => e = .returned (.int .i64 r) ∧ Drawn0 w w' := by
 have H : (spec_hashOf.l0 k a0 7 0) = some r := h; clear h; have H' := aS H; clear H
 go_enter Try.func68, Try.ntmps68
 go_wp2
 go_loopg [3, 4] k (fun kq v3 v4 w' => ∃ (x3_1 : Int) (x4_1 : Int), v3 = .int .i64 x3_1 ∧ v4 = .int .i64 x4_1 ∧ Aside0 (spec_hashOf.l0 kq a0 x3_1 x4_1 = some r) ∧ Aside0 (kq ≤ k) ∧ Drawn0 w w')
 case atStart => exact ⟨(7), (0), tX, tX, H', ⟨Nat.le_refl _⟩, by repeat (first | exact Drawn0.refl _ | apply Drawn0.step)⟩
 case round =>
  clear H'; obtain ⟨x3_1, x4_1, rfl, rfl, HA, HK1, ⟨m1, rfl⟩⟩ := hrel
  cases gk with
  | zero => exact absurd HA.out (by simp [spec_hashOf.l0])
  | succ k1 =>
   have H := HA.out; clear HA; simp only [spec_hashOf.l0] at H; by_cases c2 : x4_1 < (a0.size : Int)
   · rw [if_pos c2] at H; have c2b0 : decide (x4_1 < (a0.size : Int)) = true := decide_eq_true c2; clear c2; by_cases c3 : 0 ≤ x4_1
     case neg =>
      rw [if_neg c3] at H; exact nS H
     rw [if_pos c3] at H; have c3b0 : decide (0 ≤ x4_1) = true := decide_eq_true c3; clear c3; have H' := aS H; clear H; have p4 : 0 ≤ (x4_1 : Int) := of_decide_eq_true tP; have q4 : x4_1 < (a0.size : Int) := of_decide_eq_true tP; have hx4 := bt_at a0 x4_1; replace p4 := eq_true p4; replace q4 := eq_true q4; go_wp2; go_roundg k1
     case measure => have := HK1.out; omega
     case rel => exact ⟨(Int.tmod (wrap64 ((wrap64 (x3_1 * 31)) + (wrap64 (bt a0 x4_1)))) 65536), (wrap64 (x4_1 + 1)), tX, tX, H', ⟨by have := HK1.out; omega⟩, by repeat (first | exact Drawn0.refl _ | apply Drawn0.step)⟩
   rw [if_neg c2] at H; have c2b0 : decide (x4_1 < (a0.size : Int)) = false := decide_eq_false c2; clear c2; obtain rfl := oI H; go_wp2; go_ret; exact ⟨by first | rfl | (simp; done) | (simp [*]; done), by repeat (first | exact Drawn0.refl _ | apply Drawn0.step)⟩

/-! ### spec_probesOf: function 70 -/
def spec_probesOf.l0 : Nat → ByteArray → Int → Int → Int → List Int → List Int → List (S56) → Option (List Int)
 | 0, _, _, _, _, _, _, _ => none
 | k + 1, x1, x5, x6, x7, x8, x102000, x102001 => if x8.length < 17592186044416 then ((some (x8 ++ [x7] : List Int)).bind fun y106 => (if 0 ≤ x7 then (if x7 < (x102000.length : Int) then (if (rd x102000 x7) = (-1) then (some y106) else (if (rd x102000 x7) ≥ 0 then (if 0 ≤ (rd x102000 x7) then (if (rd x102000 x7) < (x102001.length : Int) then (if ((rd_T56 x102001 (rd x102000 x7)).f0).toList = x1.toList then (some y106) else (if x5 = 0 then (none) else (spec_probesOf.l0 k x1 x5 (wrap64 (Int.tdiv x6 8)) (Int.tmod (wrap64 ((wrap64 ((wrap64 (5 * x7)) + (wrap64 (Int.tdiv x6 8)))) + 1)) x5) y106 x102000 x102001))) else (none)) else (none)) else (if x5 = 0 then (none) else (spec_probesOf.l0 k x1 x5 (wrap64 (Int.tdiv x6 8)) (Int.tmod (wrap64 ((wrap64 ((wrap64 (5 * x7)) + (wrap64 (Int.tdiv x6 8)))) + 1)) x5) y106 x102000 x102001)))) else (none)) else (none))) else (none)
def spec_probesOf.f (k : Nat) (l0_0 : List Int) (l0_1 : List (S56)) (a1 : ByteArray) : Option (List Int) := (spec_hashOf.f k a1).bind fun t102 => (if (l0_0.length : Int) = 0 then (none) else (spec_probesOf.l0 k a1 (l0_0.length : Int) t102 (Int.tmod t102 (l0_0.length : Int)) (([] : List Int)) l0_0 l0_1))
theorem spec_probesOf.mono_l : ∀ k, (∀ y0 y1 y2 y3 y4 y5 y6, LeO (spec_probesOf.l0 k y0 y1 y2 y3 y4 y5 y6) (spec_probesOf.l0 (k + 1) y0 y1 y2 y3 y4 y5 y6))
 | 0 => fun _ _ _ _ _ _ _ r h => by simp [spec_probesOf.l0] at h
 | k + 1 => by
  have ih0 := spec_probesOf.mono_l k; intro y0 y1 y2 y3 y4 y5 y6
  unfold spec_probesOf.l0
  have m0_ := @spec_hashOf.mono; exact tM
theorem spec_probesOf.mono : ∀ a0 a1 a2 k, LeO (spec_probesOf.f k a0 a1 a2) (spec_probesOf.f (k + 1) a0 a1 a2) := by
 intro a0 a1 a2 k; have ih0 := spec_probesOf.mono_l k
 unfold spec_probesOf.f
 have m0_ := @spec_hashOf.mono; exact tM
set_option maxHeartbeats 8000000 in
set_option maxRecDepth 100000 in
theorem spec_probesOf.calls (k : Nat) (A0_0 : Option Addr) (c0_0 : Nat) (l0_0 : List Int) (A0_1 : Option Addr) (c0_1 : Nat) (l0_1 : List (S56)) (a1 : ByteArray) (r : List Int) (w : World) (hr0_0 : Kd.C (Kd.int .i64) w A0_0 l0_0.length l0_0) (hc0_0 : l0_0.length ≤ c0_0) (hr0_1 : Kd.C k56 w A0_1 l0_1.length l0_1) (hc0_1 : l0_1.length ≤ c0_1) (h : spec_probesOf.f k l0_0 l0_1 a1 = some r) :
 Calls Try.prog 70 #[.agg #[.slice A0_0 l0_0.length c0_0, .slice A0_1 l0_1.length c0_1], .string a1] w fun e w' => ∃ v0_ : Value, e = .returned (v0_) ∧ Kd.R (Kd.int .i64) 3 w' w.heap.size (fun _ => True) v0_ r ∧ Below w.heap.size w w' := by
 have hu26 := Try.underlying26; have HR0_0 := aS hr0_0; have HC0_0 := aS hc0_0; clear hr0_0 hc0_0; have HR0_1 := aS hr0_1; have HC0_1 := aS hc0_1; clear hr0_1 hc0_1; have HB := aS (Below.refl w.heap.size w); have H : ((spec_hashOf.f k a1).bind fun t102 => (if (l0_0.length : Int) = 0 then (none) else (spec_probesOf.l0 k a1 (l0_0.length : Int) t102 (Int.tmod t102 (l0_0.length : Int)) (([] : List Int)) l0_0 l0_1))) = some r := h; clear h; replace H := oB H; obtain ⟨t102, A30, H⟩ := H; replace H : (if (l0_0.length : Int) = 0 then (none) else (spec_probesOf.l0 k a1 (l0_0.length : Int) t102 (Int.tmod t102 (l0_0.length : Int)) (([] : List Int)) l0_0 l0_1)) = some r := H; have A3 := aS A30; clear A30; by_cases c4 : (l0_0.length : Int) = 0
 · rw [if_pos c4] at H; exact nS H
 rw [if_neg c4] at H; have c4b0 : ((l0_0.length : Int) == 0) = false := beq_eq_false_iff_ne.mpr c4; have c4b1 : ((l0_0.length : Int) != 0) = true := bne_iff_ne.mpr c4; have c4b2 : ¬ (l0_0 = []) := fun h_ => c4 (by rw [h_]; rfl)
 obtain ⟨y103, hy103⟩ : ∃ y_ : List Int, y_ = (([] : List Int)) := ⟨_, rfl⟩
 replace H : (spec_probesOf.l0 k a1 (l0_0.length : Int) t102 (Int.tmod t102 (l0_0.length : Int)) y103 l0_0 l0_1) = some r := by first | (rw [hy103]; with_reducible exact H) | (have H2_ := (Option.bind_some _ _).symm.trans H; rw [hy103]; with_reducible exact H2_) | (have H2_ := (Option.bind_some _ _).symm.trans H; with_reducible exact H2_) | with_reducible exact H | (rw [hy103]; exact H) | exact H
 have Ny103 := aS hy103; clear hy103; have H' := aS H; clear H
 go_enter Try.func70, Try.ntmps70
 go_wp2_with (first | ((with_reducible refine gD 2 ?_); refine boxS (N := 2) (cs := #[.slice A0_0 l0_0.length c0_0, .slice A0_1 l0_1.length c0_1]) (t := 26) ?_; intro gb101 hg w5 hbox hb; have BK101 := aS (hbox); have GW101 := gW (w := w) hg tB; have GE101 := GW101; replace HB := aS (below_step tB hb); clear hb hbox hg; have hcz6_0 := cA BK101 0; have hcz6_1 := cA BK101 1; have hfz6_0 := bF BK101 0; have hfz6_1 := bF BK101 1) | ((with_reducible refine gC 68 ?_); refine goS (some 14) Try.func68 #[.string a1] ?_; (with_reducible refine (spec_hashOf.calls k a1 t102 _ A3.out).mono ?_); rintro e w' ⟨rfl, ⟨nd, rfl⟩⟩; refine ⟨_, rfl, ?_⟩) | ((with_reducible refine gD 18 ?_); refine Kd.R_lit (Kd.int .i64) _ 3 ?hg (N := 18) ?hd (xs := ([] : List Int)) (inner := []) (ok := fun _ => True) (okp := fun _ => True) ?hr ?hp (fun _ hk => hk) trivial (Below.refl _ _) (Nat.le_refl _) (by simp) ?_; (case hd => rfl); (case hg => rfl); (case hr => first | (go_simp; done) | (go_simp; rfl)); (case hp => exact (Reps.none _ _)); intro v104 w7 ho8 hb hg_ hnew_; clear hg_ hnew_; (first | rw [← Ny103.out] at ho8 | (simp only [Int.reduceToNat] at ho8; rw [← Ny103.out] at ho8)); have HO105 := aS (Kd.R_lower ho8 (below_size tB)); replace BK101 := bB BK101 hb; replace HB := aS (below_step tB hb); clear hb ho8))
 go_loopg [6, 7, 8] k (fun kq v6 v7 v8 w' => ∃ (x6_1 : Int) (x7_1 : Int) (x8_1 : List Int), v6 = .int .i64 x6_1 ∧ v7 = .int .i64 x7_1 ∧ Aside0 (spec_probesOf.l0 kq a1 (l0_0.length : Int) x6_1 x7_1 x8_1 l0_0 l0_1 = some r) ∧ Aside0 (kq ≤ k) ∧ Aside0 (Kd.R (Kd.int .i64) 3 w' w.heap.size (fun _ => True) v8 x8_1) ∧ Aside0 (w'.heap[gb101]? = some (.cells #[(.slice A0_0 l0_0.length c0_0), (.slice A0_1 l0_1.length c0_1)] 26 (0, 0))) ∧ Aside0 (Below w.heap.size w w'))
 case atStart => exact ⟨(t102), (Int.tmod t102 (l0_0.length : Int)), (y103), tX, tX, H', ⟨Nat.le_refl _⟩, ⟨tR HO105.out⟩, ⟨tZ⟩, ⟨tB⟩⟩
 case round =>
  clear H'; clear c4 c4b0 c4b1 c4b2 hcz6_0 hcz6_1 hfz6_0 hfz6_1; obtain ⟨x6_1, x7_1, x8_1, rfl, rfl, HA, HK1, HO_8, BK101, HB⟩ := hrel
  cases gk with
  | zero => exact absurd HA.out (by simp [spec_probesOf.l0])
  | succ k1 =>
   have H := HA.out; clear HA; simp only [spec_probesOf.l0] at H; by_cases c9 : x8_1.length < 17592186044416
   · rw [if_pos c9] at H; have LMc9 := aS c9; clear c9; obtain ⟨y106, hy106⟩ : ∃ y_ : List Int, y_ = (x8_1 ++ [x7_1]) := ⟨_, rfl⟩
     replace H : (if 0 ≤ x7_1 then (if x7_1 < (l0_0.length : Int) then (if (rd l0_0 x7_1) = (-1) then (some y106) else (if (rd l0_0 x7_1) ≥ 0 then (if 0 ≤ (rd l0_0 x7_1) then (if (rd l0_0 x7_1) < (l0_1.length : Int) then (if ((rd_T56 l0_1 (rd l0_0 x7_1)).f0).toList = a1.toList then (some y106) else (if (l0_0.length : Int) = 0 then (none) else (spec_probesOf.l0 k1 a1 (l0_0.length : Int) (wrap64 (Int.tdiv x6_1 8)) (Int.tmod (wrap64 ((wrap64 ((wrap64 (5 * x7_1)) + (wrap64 (Int.tdiv x6_1 8)))) + 1)) (l0_0.length : Int)) y106 l0_0 l0_1))) else (none)) else (none)) else (if (l0_0.length : Int) = 0 then (none) else (spec_probesOf.l0 k1 a1 (l0_0.length : Int) (wrap64 (Int.tdiv x6_1 8)) (Int.tmod (wrap64 ((wrap64 ((wrap64 (5 * x7_1)) + (wrap64 (Int.tdiv x6_1 8)))) + 1)) (l0_0.length : Int)) y106 l0_0 l0_1)))) else (none)) else (none)) = some r := by first | (rw [hy106]; with_reducible exact H) | (have H2_ := (Option.bind_some _ _).symm.trans H; rw [hy106]; with_reducible exact H2_) | (have H2_ := (Option.bind_some _ _).symm.trans H; with_reducible exact H2_) | with_reducible exact H | (rw [hy106]; exact H) | exact H
     have Ny106 := aS hy106; clear hy106; by_cases c10 : 0 ≤ x7_1
     case neg =>
      rw [if_neg c10] at H; exact nS H
     rw [if_pos c10] at H; have c10b0 : decide (0 ≤ x7_1) = true := decide_eq_true c10; clear c10; by_cases c11 : x7_1 < (l0_0.length : Int)
     case neg =>
      rw [if_neg c11] at H; exact nS H
     rw [if_pos c11] at H; have c11b0 : decide (x7_1 < (l0_0.length : Int)) = true := decide_eq_true c11; clear c11; by_cases c12 : (rd l0_0 x7_1) = (-1)
     · rw [if_pos c12] at H; have c12b0 : ((rd l0_0 x7_1) == (-1)) = true := beq_iff_eq.mpr c12; have c12b1 : ((rd l0_0 x7_1) != (-1)) = false := bne_eq_false_iff_eq.mpr c12; clear c12; obtain rfl := oI H
       go_wp2_with (first | ((with_reducible refine gate_builtin (b := .append) (xs := #[.tmp 19, .tmp 21]) rfl ?_); at_builtin; refine Kd.R_append (Kd.int .i64) (w0 := w) w.heap.size rfl (.tmp 19) (.tmp 21) 23 3 (.int .i64 0) 8 rfl Try.underlying23 info3 rfl (by decide) (by omega) u8 x8_1 x7_1 [.int .i64 x7_1] (fun _ => True) (fun _ => False) rfl rfl ?aP (fun _ hk => hk.elim) ?aF ?aO ?aB ?aS ?aL ?_; (case aP => exact rfl); (case aB => exact tB); (case aF => exact (fun _ _ => trivial)); (case aO => exact (tR HO_8.out)); (case aS => exact (below_size tB)); (case aL => have := LMc9.out; omega); intro v107 w13 ho hb hg hat; rw [← Ny106.out] at ho; have n0_ := aS (blk_grown (g := gb101) (o := .cells #[.slice A0_0 l0_0.length c0_0, .slice A0_1 l0_1.length c0_1] 26 (0, 0)) (tK BK101.out) hg (Kd.R_ne HO_8.out BK101.out (by decide))); have n1_ := aS (hb); have n2_ := aS (ho); clear BK101; clear HB; clear HO_8; have BK101 := n0_; have HB := n1_; have HO108 := n2_; clear n0_ n1_ n2_; clear ho hb hg hat; obtain ⟨hcz14_0, hcz14_1, hfz14_0, hfz14_1⟩ := c2 BK101; have p109 : 0 ≤ (x7_1 : Int) := of_decide_eq_true tP; have q109 : x7_1 < (l0_0.length : Int) := of_decide_eq_true tP; obtain ⟨ad109, e109, hx109_0⟩ := Kd.at_int HR0_0.out x7_1 p109 q109; cases e109; replace hx109_0 := cB HB hx109_0; replace p109 := eq_true p109; replace q109 := eq_true q109))
       go_ret; exact ⟨_, tE, by (with_reducible repeat (first | apply Kd.R_alloc | apply Kd.R_drewN | apply Kd.R_drew)); exact HO108.out, tB⟩
     rw [if_neg c12] at H; have c12b0 : ((rd l0_0 x7_1) == (-1)) = false := beq_eq_false_iff_ne.mpr c12; have c12b1 : ((rd l0_0 x7_1) != (-1)) = true := bne_iff_ne.mpr c12; by_cases c15 : (rd l0_0 x7_1) ≥ 0
     · rw [if_pos c15] at H; have c15b0 : decide (0 ≤ (rd l0_0 x7_1)) = true := decide_eq_true c15; clear c15; by_cases c16 : 0 ≤ (rd l0_0 x7_1)
       case neg =>
        rw [if_neg c16] at H; exact nS H
       rw [if_pos c16] at H; have c16b0 : decide (0 ≤ (rd l0_0 x7_1)) = true := decide_eq_true c16; clear c16; by_cases c17 : (rd l0_0 x7_1) < (l0_1.length : Int)
       case neg =>
        rw [if_neg c17] at H; exact nS H
       rw [if_pos c17] at H; have c17b0 : decide ((rd l0_0 x7_1) < (l0_1.length : Int)) = true := decide_eq_true c17; clear c17; by_cases c18 : ((rd_T56 l0_1 (rd l0_0 x7_1)).f0).toList = a1.toList
       · rw [if_pos c18] at H; have c18b0 : (((rd_T56 l0_1 (rd l0_0 x7_1)).f0).toList == a1.toList) = true := beq_iff_eq.mpr c18; have c18b1 : (((rd_T56 l0_1 (rd l0_0 x7_1)).f0).toList != a1.toList) = false := bne_eq_false_iff_eq.mpr c18; clear c18; obtain rfl := oI H
         go_wp2_with (first | ((with_reducible refine gate_builtin (b := .append) (xs := #[.tmp 19, .tmp 21]) rfl ?_); at_builtin; refine Kd.R_append (Kd.int .i64) (w0 := w) w.heap.size rfl (.tmp 19) (.tmp 21) 23 3 (.int .i64 0) 8 rfl Try.underlying23 info3 rfl (by decide) (by omega) u8 x8_1 x7_1 [.int .i64 x7_1] (fun _ => True) (fun _ => False) rfl rfl ?aP (fun _ hk => hk.elim) ?aF ?aO ?aB ?aS ?aL ?_; (case aP => exact rfl); (case aB => exact tB); (case aF => exact (fun _ _ => trivial)); (case aO => exact (tR HO_8.out)); (case aS => exact (below_size tB)); (case aL => have := LMc9.out; omega); intro v107 w19 ho hb hg hat; rw [← Ny106.out] at ho; have n0_ := aS (blk_grown (g := gb101) (o := .cells #[.slice A0_0 l0_0.length c0_0, .slice A0_1 l0_1.length c0_1] 26 (0, 0)) (tK BK101.out) hg (Kd.R_ne HO_8.out BK101.out (by decide))); have n1_ := aS (hb); have n2_ := aS (ho); clear BK101; clear HB; clear HO_8; have BK101 := n0_; have HB := n1_; have HO108 := n2_; clear n0_ n1_ n2_; clear ho hb hg hat; obtain ⟨hcz20_0, hcz20_1, hfz20_0, hfz20_1⟩ := c2 BK101; have p109 : 0 ≤ (x7_1 : Int) := of_decide_eq_true tP; have q109 : x7_1 < (l0_0.length : Int) := of_decide_eq_true tP; obtain ⟨ad109, e109, hx109_0⟩ := Kd.at_int HR0_0.out x7_1 p109 q109; cases e109; replace hx109_0 := cB HB hx109_0; replace p109 := eq_true p109; replace q109 := eq_true q109; have p110 : 0 ≤ ((rd l0_0 x7_1) : Int) := of_decide_eq_true tP; have q110 : (rd l0_0 x7_1) < (l0_1.length : Int) := of_decide_eq_true tP; obtain ⟨ad110, e110, hx110_0, hx110_1, hx110_2, hx110_3⟩ := at_T56 HR0_1.out (rd l0_0 x7_1) p110 q110; cases e110; replace hx110_0 := cB HB hx110_0; replace hx110_1 := cB HB hx110_1; replace hx110_2 := cB HB hx110_2; replace hx110_3 := cB HB hx110_3; replace p110 := eq_true p110; replace q110 := eq_true q110))
         go_ret; exact ⟨_, tE, by (with_reducible repeat (first | apply Kd.R_alloc | apply Kd.R_drewN | apply Kd.R_drew)); exact HO108.out, tB⟩
       rw [if_neg c18] at H; have c18b0 : (((rd_T56 l0_1 (rd l0_0 x7_1)).f0).toList == a1.toList) = false := beq_eq_false_iff_ne.mpr c18; have c18b1 : (((rd_T56 l0_1 (rd l0_0 x7_1)).f0).toList != a1.toList) = true := bne_iff_ne.mpr c18; by_cases c21 : (l0_0.length : Int) = 0
       · rw [if_pos c21] at H; exact nS H
       rw [if_neg c21] at H; have c21b0 : ((l0_0.length : Int) == 0) = false := beq_eq_false_iff_ne.mpr c21; have c21b1 : ((l0_0.length : Int) != 0) = true := bne_iff_ne.mpr c21; have c21b2 : ¬ (l0_0 = []) := fun h_ => c21 (by rw [h_]; rfl)
       have H' := aS H; clear H
       go_wp2_with (first | ((with_reducible refine gate_builtin (b := .append) (xs := #[.tmp 19, .tmp 21]) rfl ?_); at_builtin; refine Kd.R_append (Kd.int .i64) (w0 := w) w.heap.size rfl (.tmp 19) (.tmp 21) 23 3 (.int .i64 0) 8 rfl Try.underlying23 info3 rfl (by decide) (by omega) u8 x8_1 x7_1 [.int .i64 x7_1] (fun _ => True) (fun _ => False) rfl rfl ?aP (fun _ hk => hk.elim) ?aF ?aO ?aB ?aS ?aL ?_; (case aP => exact rfl); (case aB => exact tB); (case aF => exact (fun _ _ => trivial)); (case aO => exact (tR HO_8.out)); (case aS => exact (below_size tB)); (case aL => have := LMc9.out; omega); intro v107 w22 ho hb hg hat; rw [← Ny106.out] at ho; have n0_ := aS (blk_grown (g := gb101) (o := .cells #[.slice A0_0 l0_0.length c0_0, .slice A0_1 l0_1.length c0_1] 26 (0, 0)) (tK BK101.out) hg (Kd.R_ne HO_8.out BK101.out (by decide))); have n1_ := aS (hb); have n2_ := aS (ho); clear BK101; clear HB; clear HO_8; have BK101 := n0_; have HB := n1_; have HO108 := n2_; clear n0_ n1_ n2_; clear ho hb hg hat; obtain ⟨hcz23_0, hcz23_1, hfz23_0, hfz23_1⟩ := c2 BK101; have p109 : 0 ≤ (x7_1 : Int) := of_decide_eq_true tP; have q109 : x7_1 < (l0_0.length : Int) := of_decide_eq_true tP; obtain ⟨ad109, e109, hx109_0⟩ := Kd.at_int HR0_0.out x7_1 p109 q109; cases e109; replace hx109_0 := cB HB hx109_0; replace p109 := eq_true p109; replace q109 := eq_true q109; have p110 : 0 ≤ ((rd l0_0 x7_1) : Int) := of_decide_eq_true tP; have q110 : (rd l0_0 x7_1) < (l0_1.length : Int) := of_decide_eq_true tP; obtain ⟨ad110, e110, hx110_0, hx110_1, hx110_2, hx110_3⟩ := at_T56 HR0_1.out (rd l0_0 x7_1) p110 q110; cases e110; replace hx110_0 := cB HB hx110_0; replace hx110_1 := cB HB hx110_1; replace hx110_2 := cB HB hx110_2; replace hx110_3 := cB HB hx110_3; replace p110 := eq_true p110; replace q110 := eq_true q110))
       go_roundg k1
       case measure => have := HK1.out; omega
       case rel => exact ⟨(wrap64 (Int.tdiv x6_1 8)), (Int.tmod (wrap64 ((wrap64 ((wrap64 (5 * x7_1)) + (wrap64 (Int.tdiv x6_1 8)))) + 1)) (l0_0.length : Int)), (y106), tX, tX, H', ⟨by have := HK1.out; omega⟩, ⟨tR HO108.out⟩, ⟨tZ⟩, ⟨tB⟩⟩
     rw [if_neg c15] at H; have c15b0 : decide (0 ≤ (rd l0_0 x7_1)) = false := decide_eq_false c15; clear c15; by_cases c24 : (l0_0.length : Int) = 0
     · rw [if_pos c24] at H; exact nS H
     rw [if_neg c24] at H; have c24b0 : ((l0_0.length : Int) == 0) = false := beq_eq_false_iff_ne.mpr c24; have c24b1 : ((l0_0.length : Int) != 0) = true := bne_iff_ne.mpr c24; have c24b2 : ¬ (l0_0 = []) := fun h_ => c24 (by rw [h_]; rfl)
     have H' := aS H; clear H
     go_wp2_with (first | ((with_reducible refine gate_builtin (b := .append) (xs := #[.tmp 19, .tmp 21]) rfl ?_); at_builtin; refine Kd.R_append (Kd.int .i64) (w0 := w) w.heap.size rfl (.tmp 19) (.tmp 21) 23 3 (.int .i64 0) 8 rfl Try.underlying23 info3 rfl (by decide) (by omega) u8 x8_1 x7_1 [.int .i64 x7_1] (fun _ => True) (fun _ => False) rfl rfl ?aP (fun _ hk => hk.elim) ?aF ?aO ?aB ?aS ?aL ?_; (case aP => exact rfl); (case aB => exact tB); (case aF => exact (fun _ _ => trivial)); (case aO => exact (tR HO_8.out)); (case aS => exact (below_size tB)); (case aL => have := LMc9.out; omega); intro v107 w25 ho hb hg hat; rw [← Ny106.out] at ho; have n0_ := aS (blk_grown (g := gb101) (o := .cells #[.slice A0_0 l0_0.length c0_0, .slice A0_1 l0_1.length c0_1] 26 (0, 0)) (tK BK101.out) hg (Kd.R_ne HO_8.out BK101.out (by decide))); have n1_ := aS (hb); have n2_ := aS (ho); clear BK101; clear HB; clear HO_8; have BK101 := n0_; have HB := n1_; have HO108 := n2_; clear n0_ n1_ n2_; clear ho hb hg hat; obtain ⟨hcz26_0, hcz26_1, hfz26_0, hfz26_1⟩ := c2 BK101; have p109 : 0 ≤ (x7_1 : Int) := of_decide_eq_true tP; have q109 : x7_1 < (l0_0.length : Int) := of_decide_eq_true tP; obtain ⟨ad109, e109, hx109_0⟩ := Kd.at_int HR0_0.out x7_1 p109 q109; cases e109; replace hx109_0 := cB HB hx109_0; replace p109 := eq_true p109; replace q109 := eq_true q109))
     go_roundg k1
     case measure => have := HK1.out; omega
     case rel => exact ⟨(wrap64 (Int.tdiv x6_1 8)), (Int.tmod (wrap64 ((wrap64 ((wrap64 (5 * x7_1)) + (wrap64 (Int.tdiv x6_1 8)))) + 1)) (l0_0.length : Int)), (y106), tX, tX, H', ⟨by have := HK1.out; omega⟩, ⟨tR HO108.out⟩, ⟨tZ⟩, ⟨tB⟩⟩
   rw [if_neg c9] at H; exact nS H

/-! ### spec_slotOf: function 34 -/
def spec_slotOf.f (k : Nat) (l0_0 : List Int) (l0_1 : List (S56)) (a1 : ByteArray) : Option (Int) := (spec_probesOf.f k l0_0 l0_1 a1).bind fun t112 => (if 0 ≤ (wrap64 ((t112.length : Int) - 1)) then (if (wrap64 ((t112.length : Int) - 1)) < (t112.length : Int) then (some (rd t112 (wrap64 ((t112.length : Int) - 1)))) else (none)) else (none))
theorem spec_slotOf.mono : ∀ a0 a1 a2 k, LeO (spec_slotOf.f k a0 a1 a2) (spec_slotOf.f (k + 1) a0 a1 a2) := by
 intro a0 a1 a2 k
 unfold spec_slotOf.f
 have m0_ := @spec_probesOf.mono; exact tM
set_option maxHeartbeats 8000000 in
set_option maxRecDepth 100000 in
theorem spec_slotOf.calls (k : Nat) (A0_0 : Option Addr) (c0_0 : Nat) (l0_0 : List Int) (A0_1 : Option Addr) (c0_1 : Nat) (l0_1 : List (S56)) (a1 : ByteArray) (r : Int) (w : World) (hr0_0 : Kd.C (Kd.int .i64) w A0_0 l0_0.length l0_0) (hc0_0 : l0_0.length ≤ c0_0) (hr0_1 : Kd.C k56 w A0_1 l0_1.length l0_1) (hc0_1 : l0_1.length ≤ c0_1) (h : spec_slotOf.f k l0_0 l0_1 a1 = some r) :
 Calls Try.prog 34 #[.agg #[.slice A0_0 l0_0.length c0_0, .slice A0_1 l0_1.length c0_1], .string a1] w fun e w' => e = .returned (.int .i64 r) ∧ Below w.heap.size w w' := by
 have hu26 := Try.underlying26; have HR0_0 := aS hr0_0; have HC0_0 := aS hc0_0; clear hr0_0 hc0_0; have HR0_1 := aS hr0_1; have HC0_1 := aS hc0_1; clear hr0_1 hc0_1; have HB := aS (Below.refl w.heap.size w); have H : ((spec_probesOf.f k l0_0 l0_1 a1).bind fun t112 => (if 0 ≤ (wrap64 ((t112.length : Int) - 1)) then (if (wrap64 ((t112.length : Int) - 1)) < (t112.length : Int) then (some (rd t112 (wrap64 ((t112.length : Int) - 1)))) else (none)) else (none))) = some r := h; clear h; replace H := oB H; obtain ⟨t112, A30, H⟩ := H; replace H : (if 0 ≤ (wrap64 ((t112.length : Int) - 1)) then (if (wrap64 ((t112.length : Int) - 1)) < (t112.length : Int) then (some (rd t112 (wrap64 ((t112.length : Int) - 1)))) else (none)) else (none)) = some r := H; have A3 := aS A30; clear A30; obtain ⟨ji4, hji4⟩ : ∃ j_ : Int, (wrap64 ((t112.length : Int) - 1)) = j_ := ⟨_, rfl⟩
 replace H : (if 0 ≤ (ji4) then (if (ji4) < (t112.length : Int) then (some (rd t112 (ji4))) else (none)) else (none)) = some r := by first | (rw [hji4] at H; exact H) | (simp only [hji4] at H ⊢; exact H)
 (try rw [hji4] at A3)
 have hji4w : (IntKind.i64.wrap ((t112.length : Int) - 1)) = ji4 := (i64_w _).trans hji4; by_cases c5 : 0 ≤ (ji4)
 · rw [if_pos c5] at H; have c5b0 : decide (0 ≤ (ji4)) = true := decide_eq_true c5; clear c5; by_cases c6 : (ji4) < (t112.length : Int)
   case neg =>
    rw [if_neg c6] at H; exact nS H
   rw [if_pos c6] at H; have c6b0 : decide ((ji4) < (t112.length : Int)) = true := decide_eq_true c6; clear c6; obtain rfl := oI H
   go_enter Try.func34, Try.ntmps34
   go_wp2_with (first | ((with_reducible refine gD 2 ?_); refine boxS (N := 2) (cs := #[.slice A0_0 l0_0.length c0_0, .slice A0_1 l0_1.length c0_1]) (t := 26) ?_; intro gb111 hg w7 hbox hb; have BK111 := aS (hbox); have GW111 := gW (w := w) hg tB; have GE111 := GW111; replace HB := aS (below_step tB hb); clear hb hbox hg; have hcz8_0 := cA BK111 0; have hcz8_1 := cA BK111 1; have hfz8_0 := bF BK111 0; have hfz8_1 := bF BK111 1) | ((with_reducible refine gC 70 ?_); refine goS (some 8) Try.func70 #[.agg #[.slice A0_0 l0_0.length c0_0, .slice A0_1 l0_1.length c0_1], .string a1] ?_; (with_reducible refine (spec_probesOf.calls k _ _ l0_0 _ _ l0_1 a1 t112 _ ?side1 ?side2 ?side3 ?side4 A3.out).mono ?_); (case side1 => exact tC (Kd.C_below HR0_0.out HB.out)); (case side2 => exact HC0_0.out); (case side3 => exact tC (Kd.C_below HR0_1.out HB.out)); (case side4 => exact HC0_1.out); rintro e w9 ⟨v113, rfl, ho0, hb⟩; refine ⟨_, rfl, ?_⟩; have HO114 := aS (Kd.R_lower ho0 (below_size tB)); replace BK111 := bB BK111 hb; replace HB := aS (below_step tB hb); obtain ⟨Ao10, co10, eo10⟩ := Kd.R_slice HO114.out; subst eo10; have p115 : 0 ≤ ((ji4) : Int) := of_decide_eq_true tP; have q115 : (ji4) < (t112.length : Int) := of_decide_eq_true tP; obtain ⟨ad115, e115, hx115_0⟩ := Kd.at_int (Kd.R_reads' HO114.out).2.2 (ji4) p115 q115; cases e115; replace p115 := eq_true p115; replace q115 := eq_true q115; clear ho0 hb))
   go_ret; exact ⟨by first | rfl | (simp [errW_none, errW_some] <;> rfl) | (simp only [← hji4]; first | rfl | (simp [errW_none, errW_some] <;> rfl)) | (simp [*, errW_none, errW_some] <;> rfl), tB⟩
 rw [if_neg c5] at H; exact nS H

/-! ### spec_inRange: function 46 -/
def spec_inRange.f (a0 : Int) (a1 : Int) (a2 : Int) : Option (Bool) := if a0 ≥ a1 then (some (decide (a0 ≤ a2))) else (some false)
set_option maxHeartbeats 8000000 in
set_option maxRecDepth 100000 in
theorem spec_inRange.calls (a0 : Int) (a1 : Int) (a2 : Int) (r : Bool) (w : World) (h : spec_inRange.f a0 a1 a2 = some r) :
 Calls Try.prog 46 #[.int .i64 a0, .int .i64 a1, .int .i64 a2] w fun e w' => e = .returned (.bool r) ∧ Drawn0 w w' := by
 have H : (if a0 ≥ a1 then (some (decide (a0 ≤ a2))) else (some false)) = some r := h; clear h; by_cases c4 : a0 ≥ a1
 · rw [if_pos c4] at H; have c4b0 : decide (a1 ≤ a0) = true := decide_eq_true c4; clear c4; obtain rfl := oI H
   go_enter Try.func46, Try.ntmps46
   go_wp2; go_ret; exact ⟨by first | rfl | (simp; done) | (simp [*]; done), by repeat (first | exact Drawn0.refl _ | apply Drawn0.step)⟩
 rw [if_neg c4] at H; have c4b0 : decide (a1 ≤ a0) = false := decide_eq_false c4; clear c4; obtain rfl := oI H
 go_enter Try.func46, Try.ntmps46
 go_wp2; go_ret; exact ⟨by first | rfl | (simp; done) | (simp [*]; done), by repeat (first | exact Drawn0.refl _ | apply Drawn0.step)⟩

/-! ### spec_liveEntries: function 47 -/
def spec_liveEntries.l0 : Nat → Int → Int → List Int → List (S56) → Option (Int)
 | 0, _, _, _, _ => none
 | k + 1, x3, x4, x117000, x117001 => if x4 < (x117001.length : Int) then (if 0 ≤ x4 then (if (rd_T56 x117001 x4).f3 = true then (spec_liveEntries.l0 k (wrap64 (x3 + 1)) (wrap64 (x4 + 1)) x117000 x117001) else (spec_liveEntries.l0 k x3 (wrap64 (x4 + 1)) x117000 x117001)) else (none)) else (some x3)
def spec_liveEntries.f (k : Nat) (l0_0 : List Int) (l0_1 : List (S56)) : Option (Int) := spec_liveEntries.l0 k 0 0 l0_0 l0_1
theorem spec_liveEntries.mono_l : ∀ k, (∀ y0 y1 y2 y3, LeO (spec_liveEntries.l0 k y0 y1 y2 y3) (spec_liveEntries.l0 (k + 1) y0 y1 y2 y3))
 | 0 => fun _ _ _ _ r h => by simp [spec_liveEntries.l0] at h
 | k + 1 => by
  have ih0 := spec_liveEntries.mono_l k; intro y0 y1 y2 y3
  unfold spec_liveEntries.l0
  exact tM
theorem spec_liveEntries.mono : ∀ a0 a1 k, LeO (spec_liveEntries.f k a0 a1) (spec_liveEntries.f (k + 1) a0 a1) := by
 intro a0 a1 k; have ih0 := spec_liveEntries.mono_l k
 unfold spec_liveEntries.f
 exact tM
set_option maxHeartbeats 8000000 in
set_option maxRecDepth 100000 in
theorem spec_liveEntries.calls (k : Nat) (A0_0 : Option Addr) (c0_0 : Nat) (l0_0 : List Int) (A0_1 : Option Addr) (c0_1 : Nat) (l0_1 : List (S56)) (r : Int) (w : World) (hr0_0 : Kd.C (Kd.int .i64) w A0_0 l0_0.length l0_0) (hc0_0 : l0_0.length ≤ c0_0) (hr0_1 : Kd.C k56 w A0_1 l0_1.length l0_1) (hc0_1 : l0_1.length ≤ c0_1) (h : spec_liveEntries.f k l0_0 l0_1 = some r) :
 Calls Try.prog 47 #[.agg #[.slice A0_0 l0_0.length c0_0, .slice A0_1 l0_1.length c0_1]] w fun e w' => e = .returned (.int .i64 r) ∧ Below w.heap.size w w' := by
 have hu26 := Try.underlying26; have HR0_0 := aS hr0_0; have HC0_0 := aS hc0_0; clear hr0_0 hc0_0; have HR0_1 := aS hr0_1; have HC0_1 := aS hc0_1; clear hr0_1 hc0_1; have HB := aS (Below.refl w.heap.size w); have H : (spec_liveEntries.l0 k 0 0 l0_0 l0_1) = some r := h; clear h; have H' := aS H; clear H
 go_enter Try.func47, Try.ntmps47
 go_wp2_with (first | ((with_reducible refine gD 1 ?_); refine boxS (N := 1) (cs := #[.slice A0_0 l0_0.length c0_0, .slice A0_1 l0_1.length c0_1]) (t := 26) ?_; intro gb116 hg w2 hbox hb; have BK116 := aS (hbox); have GW116 := gW (w := w) hg tB; have GE116 := GW116; replace HB := aS (below_step tB hb); clear hb hbox hg))
 go_loopg [3, 4] k (fun kq v3 v4 w' => ∃ (x3_1 : Int) (x4_1 : Int), v3 = .int .i64 x3_1 ∧ v4 = .int .i64 x4_1 ∧ Aside0 (spec_liveEntries.l0 kq x3_1 x4_1 l0_0 l0_1 = some r) ∧ Aside0 (kq ≤ k) ∧ Aside0 (w'.heap[gb116]? = some (.cells #[(.slice A0_0 l0_0.length c0_0), (.slice A0_1 l0_1.length c0_1)] 26 (0, 0))) ∧ Aside0 (Below w.heap.size w w'))
 case atStart => exact ⟨(0), (0), tX, tX, H', ⟨Nat.le_refl _⟩, ⟨tZ⟩, ⟨tB⟩⟩
 case round =>
  clear H'; obtain ⟨x3_1, x4_1, rfl, rfl, HA, HK1, BK116, HB⟩ := hrel
  cases gk with
  | zero => exact absurd HA.out (by simp [spec_liveEntries.l0])
  | succ k1 =>
   have H := HA.out; clear HA; simp only [spec_liveEntries.l0] at H; by_cases c3 : x4_1 < (l0_1.length : Int)
   · rw [if_pos c3] at H; have c3b0 : decide (x4_1 < (l0_1.length : Int)) = true := decide_eq_true c3; clear c3; by_cases c4 : 0 ≤ x4_1
     case neg =>
      rw [if_neg c4] at H; exact nS H
     rw [if_pos c4] at H; have c4b0 : decide (0 ≤ x4_1) = true := decide_eq_true c4; clear c4; obtain ⟨bq5, hbq5⟩ : ∃ b_ : Bool, b_ = ((rd_T56 l0_1 x4_1).f3) := ⟨_, rfl⟩
     replace H : (if bq5 = true then (spec_liveEntries.l0 k1 (wrap64 (x3_1 + 1)) (wrap64 (x4_1 + 1)) l0_0 l0_1) else (spec_liveEntries.l0 k1 x3_1 (wrap64 (x4_1 + 1)) l0_0 l0_1)) = some r := by rw [← hbq5] at H; exact H
     have Nbq5 := aS hbq5; clear hbq5; by_cases c6 : bq5 = true
     · subst c6; have H1 : (spec_liveEntries.l0 k1 (wrap64 (x3_1 + 1)) (wrap64 (x4_1 + 1)) l0_0 l0_1) = some r := by rw [if_pos rfl] at H; exact H
       clear H; have H := H1; clear H1; have H' := aS H; clear H; obtain ⟨hcz7_0, hcz7_1, hfz7_0, hfz7_1⟩ := c2 BK116; have p117 : 0 ≤ (x4_1 : Int) := of_decide_eq_true tP; have q117 : x4_1 < (l0_1.length : Int) := of_decide_eq_true tP; obtain ⟨ad117, e117, hx117_0, hx117_1, hx117_2, hx117_3⟩ := at_T56 HR0_1.out x4_1 p117 q117
       (try rw [← Nbq5.out] at hx117_3); (try rw [← Nbq5.out] at hw117_3)
       cases e117; replace hx117_0 := cB HB hx117_0; replace hx117_1 := cB HB hx117_1; replace hx117_2 := cB HB hx117_2; replace hx117_3 := cB HB hx117_3; replace p117 := eq_true p117; replace q117 := eq_true q117; go_wp2; go_roundg k1
       case measure => have := HK1.out; omega
       case rel => exact ⟨(wrap64 (x3_1 + 1)), (wrap64 (x4_1 + 1)), tX, tX, H', ⟨by have := HK1.out; omega⟩, ⟨tZ⟩, ⟨tB⟩⟩
     replace c6 := Bool.eq_false_iff.mpr c6; subst c6; have H1 : (spec_liveEntries.l0 k1 x3_1 (wrap64 (x4_1 + 1)) l0_0 l0_1) = some r := by rw [if_neg (show ¬ (false = true) by decide)] at H; exact H
     clear H; have H := H1; clear H1; have H' := aS H; clear H; obtain ⟨hcz8_0, hcz8_1, hfz8_0, hfz8_1⟩ := c2 BK116; have p117 : 0 ≤ (x4_1 : Int) := of_decide_eq_true tP; have q117 : x4_1 < (l0_1.length : Int) := of_decide_eq_true tP; obtain ⟨ad117, e117, hx117_0, hx117_1, hx117_2, hx117_3⟩ := at_T56 HR0_1.out x4_1 p117 q117
     (try rw [← Nbq5.out] at hx117_3); (try rw [← Nbq5.out] at hw117_3)
     cases e117; replace hx117_0 := cB HB hx117_0; replace hx117_1 := cB HB hx117_1; replace hx117_2 := cB HB hx117_2; replace hx117_3 := cB HB hx117_3; replace p117 := eq_true p117; replace q117 := eq_true q117; go_wp2; go_roundg k1
     case measure => have := HK1.out; omega
     case rel => exact ⟨(x3_1), (wrap64 (x4_1 + 1)), tX, tX, H', ⟨by have := HK1.out; omega⟩, ⟨tZ⟩, ⟨tB⟩⟩
   rw [if_neg c3] at H; have c3b0 : decide (x4_1 < (l0_1.length : Int)) = false := decide_eq_false c3; clear c3; obtain rfl := oI H; obtain ⟨hcz9_0, hcz9_1, hfz9_0, hfz9_1⟩ := c2 BK116; go_wp2; go_ret; exact ⟨tE, tB⟩

end Go.Proofs.Ytihcollncjcpgaa.E
