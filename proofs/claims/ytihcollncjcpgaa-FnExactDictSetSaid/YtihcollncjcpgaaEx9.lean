/- Contracts of the Go functions that the seat's laws reach, one after the other: the machine's call comes to what the plain Lean function beside it says; no conditions but those that each contract names. Laid by this session's program wip/pp.py, which drives the kit's printer. -/
import Derived.Test.YtihcollncjcpgaaEx0
import Derived.Test.YtihcollncjcpgaaEx8
namespace Go.Proofs.Ytihcollncjcpgaa.E
open Go.RowKit Go.Proofs.YtihcollncjcpgaaW.PrintWords Go.Proofs.YtihcollncjcpgaaW.PrintLast Go.Proofs.YtihcollncjcpgaaW.PrintMore
attribute [local go_sem] max2_int min2_int max_two min_two max_three min_three max_four min_four   -- for this text's walks alone
set_option linter.unusedVariables false
set_option linter.unusedSimpArgs false

/-! ### impl_Dict_probe: function 30 -/
def impl_Dict_probe.l0 : Nat → ByteArray → Int → Int → Int → List Int → Int → Int → List Int → List (S56) → Option (List Int)
 | 0, _, _, _, _, _, _, _, _, _ => none
 | k + 1, x1, x6, x7, x8, x9, x22, x23, x232000, x232001 => if x23 < x22 then (if x9.length < 17592186044416 then ((some (x9 ++ [x7] : List Int)).bind fun y233 => (if 0 ≤ x7 then (if x7 < (x232000.length : Int) then (if (rd x232000 x7) = (-1) then (some y233) else (if (rd x232000 x7) ≥ 0 then (if 0 ≤ (rd x232000 x7) then (if (rd x232000 x7) < (x232001.length : Int) then (if ((rd_T56 x232001 (rd x232000 x7)).f0).toList = x1.toList then (some y233) else (if x6 = 0 then (none) else (impl_Dict_probe.l0 k x1 x6 (Int.tmod (wrap64 ((wrap64 ((wrap64 (5 * x7)) + (wrap64 (Int.tdiv x8 8)))) + 1)) x6) (wrap64 (Int.tdiv x8 8)) y233 x22 (wrap64 (x23 + 1)) x232000 x232001))) else (none)) else (none)) else (if x6 = 0 then (none) else (impl_Dict_probe.l0 k x1 x6 (Int.tmod (wrap64 ((wrap64 ((wrap64 (5 * x7)) + (wrap64 (Int.tdiv x8 8)))) + 1)) x6) (wrap64 (Int.tdiv x8 8)) y233 x22 (wrap64 (x23 + 1)) x232000 x232001)))) else (none)) else (none))) else (none)) else (some x9)
def impl_Dict_probe.f (k : Nat) (l0_0 : List Int) (l0_1 : List (S56)) (a1 : ByteArray) : Option (List Int) := (impl_DictHash.f k a1).bind fun t232 => (if (l0_0.length : Int) = 0 then (none) else (impl_Dict_probe.l0 k a1 (l0_0.length : Int) (Int.tmod t232 (l0_0.length : Int)) t232 ([] : List Int) (wrap64 (65536 + (wrap64 (2 * (l0_0.length : Int))))) 0 l0_0 l0_1))
theorem impl_Dict_probe.mono_l : ∀ k, (∀ y0 y1 y2 y3 y4 y5 y6 y7 y8, LeO (impl_Dict_probe.l0 k y0 y1 y2 y3 y4 y5 y6 y7 y8) (impl_Dict_probe.l0 (k + 1) y0 y1 y2 y3 y4 y5 y6 y7 y8))
 | 0 => fun _ _ _ _ _ _ _ _ _ r h => by simp [impl_Dict_probe.l0] at h
 | k + 1 => by
  have ih0 := impl_Dict_probe.mono_l k; intro y0 y1 y2 y3 y4 y5 y6 y7 y8
  unfold impl_Dict_probe.l0
  have m0_ := @impl_DictHash.mono; exact tM
theorem impl_Dict_probe.mono : ∀ a0 a1 a2 k, LeO (impl_Dict_probe.f k a0 a1 a2) (impl_Dict_probe.f (k + 1) a0 a1 a2) := by
 intro a0 a1 a2 k; have ih0 := impl_Dict_probe.mono_l k
 unfold impl_Dict_probe.f
 have m0_ := @impl_DictHash.mono; exact tM
set_option maxHeartbeats 8000000 in
set_option maxRecDepth 100000 in
theorem impl_Dict_probe.calls (k : Nat) (A0_0 : Option Addr) (c0_0 : Nat) (l0_0 : List Int) (A0_1 : Option Addr) (c0_1 : Nat) (l0_1 : List (S56)) (a1 : ByteArray) (r : List Int) (w : World) (hr0_0 : Kd.C (Kd.int .i64) w A0_0 l0_0.length l0_0) (hc0_0 : l0_0.length ≤ c0_0) (hr0_1 : Kd.C k56 w A0_1 l0_1.length l0_1) (hc0_1 : l0_1.length ≤ c0_1) (h : impl_Dict_probe.f k l0_0 l0_1 a1 = some r) :
 Calls Try.prog 30 #[.agg #[.slice A0_0 l0_0.length c0_0, .slice A0_1 l0_1.length c0_1], .string a1] w fun e w' => ∃ v0_ : Value, e = .returned (v0_) ∧ Kd.R (Kd.int .i64) 3 w' w.heap.size (fun _ => True) v0_ r ∧ Below w.heap.size w w' := by
 have hu26 := Try.underlying26; have HR0_0 := aS hr0_0; have HC0_0 := aS hc0_0; clear hr0_0 hc0_0; have HR0_1 := aS hr0_1; have HC0_1 := aS hc0_1; clear hr0_1 hc0_1; have HB := aS (Below.refl w.heap.size w); have H : ((impl_DictHash.f k a1).bind fun t232 => (if (l0_0.length : Int) = 0 then (none) else (impl_Dict_probe.l0 k a1 (l0_0.length : Int) (Int.tmod t232 (l0_0.length : Int)) t232 ([] : List Int) (wrap64 (65536 + (wrap64 (2 * (l0_0.length : Int))))) 0 l0_0 l0_1))) = some r := h; clear h; replace H := oB H; obtain ⟨t232, A30, H⟩ := H; replace H : (if (l0_0.length : Int) = 0 then (none) else (impl_Dict_probe.l0 k a1 (l0_0.length : Int) (Int.tmod t232 (l0_0.length : Int)) t232 ([] : List Int) (wrap64 (65536 + (wrap64 (2 * (l0_0.length : Int))))) 0 l0_0 l0_1)) = some r := H; have A3 := aS A30; clear A30; by_cases c4 : (l0_0.length : Int) = 0
 · rw [if_pos c4] at H; exact nS H
 rw [if_neg c4] at H; have c4b0 : ((l0_0.length : Int) == 0) = false := beq_eq_false_iff_ne.mpr c4; have c4b1 : ((l0_0.length : Int) != 0) = true := bne_iff_ne.mpr c4; have c4b2 : ¬ (l0_0 = []) := fun h_ => c4 (by rw [h_]; rfl)
 have H' := aS H; clear H
 go_enter Try.func30, Try.ntmps30
 go_wp2_with (first | ((with_reducible refine gD 2 ?_); refine boxS (N := 2) (cs := #[.slice A0_0 l0_0.length c0_0, .slice A0_1 l0_1.length c0_1]) (t := 26) ?_; intro gb231 hg w5 hbox hb; have BK231 := aS (hbox); have GW231 := gW (w := w) hg tB; have GE231 := GW231; replace HB := aS (below_step tB hb); clear hb hbox hg) | ((with_reducible refine gC 43 ?_); refine goS (some 12) Try.func43 #[.string a1] ?_; (with_reducible refine (impl_DictHash.calls k a1 t232 _ A3.out).mono ?_); rintro e w' ⟨rfl, ⟨nd, rfl⟩⟩; refine ⟨_, rfl, ?_⟩; have hcz6_0 := cA BK231 0; have hcz6_1 := cA BK231 1; have hfz6_0 := bF BK231 0; have hfz6_1 := bF BK231 1))
 go_loopg [7, 8, 9, 23] k (fun kq v7 v8 v9 v23 w' => ∃ (x7_1 : Int) (x8_1 : Int) (x9_1 : List Int) (x23_1 : Int), v7 = .int .i64 x7_1 ∧ v8 = .int .i64 x8_1 ∧ v23 = .int .i64 x23_1 ∧ Aside0 (impl_Dict_probe.l0 kq a1 (l0_0.length : Int) x7_1 x8_1 x9_1 (wrap64 (65536 + (wrap64 (2 * (l0_0.length : Int))))) x23_1 l0_0 l0_1 = some r) ∧ Aside0 (kq ≤ k) ∧ Aside0 (Kd.R (Kd.int .i64) 3 w' w.heap.size (fun _ => True) v9 x9_1) ∧ Aside0 (w'.heap[gb231]? = some (.cells #[(.slice A0_0 l0_0.length c0_0), (.slice A0_1 l0_1.length c0_1)] 26 (0, 0))) ∧ Aside0 (Below w.heap.size w w'))
 case atStart => exact ⟨(Int.tmod t232 (l0_0.length : Int)), (t232), (([] : List Int)), (0), tX, tX, tX, H', ⟨Nat.le_refl _⟩, ⟨by first | exact Kd.R_nil _ _ _ _ _ | exact Kd.N_nil _ _ _ _ _ | exact Kd.V_nil _ _ _ _ _ | exact Kd.Q_nil _ _ _ _ _ | exact Kd.S_nil _ _ _ _ _⟩, ⟨tZ⟩, ⟨tB⟩⟩
 case round =>
  clear H'; clear c4 c4b0 c4b1 c4b2 hcz6_0 hcz6_1 hfz6_0 hfz6_1; obtain ⟨x7_1, x8_1, x9_1, x23_1, rfl, rfl, rfl, HA, HK1, HO_9, BK231, HB⟩ := hrel
  cases gk with
  | zero => exact absurd HA.out (by simp [impl_Dict_probe.l0])
  | succ k1 =>
   have H := HA.out; clear HA; simp only [impl_Dict_probe.l0] at H; by_cases c7 : x23_1 < (wrap64 (65536 + (wrap64 (2 * (l0_0.length : Int)))))
   · rw [if_pos c7] at H; have c7b0 : decide (x23_1 < (wrap64 (65536 + (wrap64 (2 * (l0_0.length : Int)))))) = true := decide_eq_true c7; clear c7; by_cases c8 : x9_1.length < 17592186044416
     case neg =>
      rw [if_neg c8] at H; exact nS H
     rw [if_pos c8] at H; have LMc8 := aS c8; clear c8; obtain ⟨y233, hy233⟩ : ∃ y_ : List Int, y_ = (x9_1 ++ [x7_1]) := ⟨_, rfl⟩
     replace H : (if 0 ≤ x7_1 then (if x7_1 < (l0_0.length : Int) then (if (rd l0_0 x7_1) = (-1) then (some y233) else (if (rd l0_0 x7_1) ≥ 0 then (if 0 ≤ (rd l0_0 x7_1) then (if (rd l0_0 x7_1) < (l0_1.length : Int) then (if ((rd_T56 l0_1 (rd l0_0 x7_1)).f0).toList = a1.toList then (some y233) else (if (l0_0.length : Int) = 0 then (none) else (impl_Dict_probe.l0 k1 a1 (l0_0.length : Int) (Int.tmod (wrap64 ((wrap64 ((wrap64 (5 * x7_1)) + (wrap64 (Int.tdiv x8_1 8)))) + 1)) (l0_0.length : Int)) (wrap64 (Int.tdiv x8_1 8)) y233 (wrap64 (65536 + (wrap64 (2 * (l0_0.length : Int))))) (wrap64 (x23_1 + 1)) l0_0 l0_1))) else (none)) else (none)) else (if (l0_0.length : Int) = 0 then (none) else (impl_Dict_probe.l0 k1 a1 (l0_0.length : Int) (Int.tmod (wrap64 ((wrap64 ((wrap64 (5 * x7_1)) + (wrap64 (Int.tdiv x8_1 8)))) + 1)) (l0_0.length : Int)) (wrap64 (Int.tdiv x8_1 8)) y233 (wrap64 (65536 + (wrap64 (2 * (l0_0.length : Int))))) (wrap64 (x23_1 + 1)) l0_0 l0_1)))) else (none)) else (none)) = some r := by first | (rw [hy233]; with_reducible exact H) | (have H2_ := (Option.bind_some _ _).symm.trans H; rw [hy233]; with_reducible exact H2_) | (have H2_ := (Option.bind_some _ _).symm.trans H; with_reducible exact H2_) | with_reducible exact H | (rw [hy233]; exact H) | exact H
     have Ny233 := aS hy233; clear hy233; by_cases c9 : 0 ≤ x7_1
     case neg =>
      rw [if_neg c9] at H; exact nS H
     rw [if_pos c9] at H; have c9b0 : decide (0 ≤ x7_1) = true := decide_eq_true c9; clear c9; by_cases c10 : x7_1 < (l0_0.length : Int)
     case neg =>
      rw [if_neg c10] at H; exact nS H
     rw [if_pos c10] at H; have c10b0 : decide (x7_1 < (l0_0.length : Int)) = true := decide_eq_true c10; clear c10; by_cases c11 : (rd l0_0 x7_1) = (-1)
     · rw [if_pos c11] at H; have c11b0 : ((rd l0_0 x7_1) == (-1)) = true := beq_iff_eq.mpr c11; have c11b1 : ((rd l0_0 x7_1) != (-1)) = false := bne_eq_false_iff_eq.mpr c11; clear c11; obtain rfl := oI H
       go_wp2_with (first | ((with_reducible refine gate_builtin (b := .append) (xs := #[.tmp 25, .tmp 27]) rfl ?_); at_builtin; refine Kd.R_append (Kd.int .i64) (w0 := w) w.heap.size rfl (.tmp 25) (.tmp 27) 23 3 (.int .i64 0) 8 rfl Try.underlying23 info3 rfl (by decide) (by omega) u9 x9_1 x7_1 [.int .i64 x7_1] (fun _ => True) (fun _ => False) rfl rfl ?aP (fun _ hk => hk.elim) ?aF ?aO ?aB ?aS ?aL ?_; (case aP => exact rfl); (case aB => exact tB); (case aF => exact (fun _ _ => trivial)); (case aO => exact (tR HO_9.out)); (case aS => exact (below_size tB)); (case aL => have := LMc8.out; omega); intro v234 w12 ho hb hg hat; rw [← Ny233.out] at ho; have n0_ := aS (blk_grown (g := gb231) (o := .cells #[.slice A0_0 l0_0.length c0_0, .slice A0_1 l0_1.length c0_1] 26 (0, 0)) (tK BK231.out) hg (Kd.R_ne HO_9.out BK231.out (by decide))); have n1_ := aS (hb); have n2_ := aS (ho); clear BK231; clear HB; clear HO_9; have BK231 := n0_; have HB := n1_; have HO235 := n2_; clear n0_ n1_ n2_; clear ho hb hg hat; obtain ⟨hcz13_0, hcz13_1, hfz13_0, hfz13_1⟩ := c2 BK231; have p236 : 0 ≤ (x7_1 : Int) := of_decide_eq_true tP; have q236 : x7_1 < (l0_0.length : Int) := of_decide_eq_true tP; obtain ⟨ad236, e236, hx236_0⟩ := Kd.at_int HR0_0.out x7_1 p236 q236; cases e236; replace hx236_0 := cB HB hx236_0; replace p236 := eq_true p236; replace q236 := eq_true q236))
       go_ret; exact ⟨_, tE, by (with_reducible repeat (first | apply Kd.R_alloc | apply Kd.R_drewN | apply Kd.R_drew)); exact HO235.out, tB⟩
     rw [if_neg c11] at H; have c11b0 : ((rd l0_0 x7_1) == (-1)) = false := beq_eq_false_iff_ne.mpr c11; have c11b1 : ((rd l0_0 x7_1) != (-1)) = true := bne_iff_ne.mpr c11; by_cases c14 : (rd l0_0 x7_1) ≥ 0
     · rw [if_pos c14] at H; have c14b0 : decide (0 ≤ (rd l0_0 x7_1)) = true := decide_eq_true c14; clear c14; by_cases c15 : 0 ≤ (rd l0_0 x7_1)
       case neg =>
        rw [if_neg c15] at H; exact nS H
       rw [if_pos c15] at H; have c15b0 : decide (0 ≤ (rd l0_0 x7_1)) = true := decide_eq_true c15; clear c15; by_cases c16 : (rd l0_0 x7_1) < (l0_1.length : Int)
       case neg =>
        rw [if_neg c16] at H; exact nS H
       rw [if_pos c16] at H; have c16b0 : decide ((rd l0_0 x7_1) < (l0_1.length : Int)) = true := decide_eq_true c16; clear c16; by_cases c17 : ((rd_T56 l0_1 (rd l0_0 x7_1)).f0).toList = a1.toList
       · rw [if_pos c17] at H; have c17b0 : (((rd_T56 l0_1 (rd l0_0 x7_1)).f0).toList == a1.toList) = true := beq_iff_eq.mpr c17; have c17b1 : (((rd_T56 l0_1 (rd l0_0 x7_1)).f0).toList != a1.toList) = false := bne_eq_false_iff_eq.mpr c17; clear c17; obtain rfl := oI H
         go_wp2_with (first | ((with_reducible refine gate_builtin (b := .append) (xs := #[.tmp 25, .tmp 27]) rfl ?_); at_builtin; refine Kd.R_append (Kd.int .i64) (w0 := w) w.heap.size rfl (.tmp 25) (.tmp 27) 23 3 (.int .i64 0) 8 rfl Try.underlying23 info3 rfl (by decide) (by omega) u9 x9_1 x7_1 [.int .i64 x7_1] (fun _ => True) (fun _ => False) rfl rfl ?aP (fun _ hk => hk.elim) ?aF ?aO ?aB ?aS ?aL ?_; (case aP => exact rfl); (case aB => exact tB); (case aF => exact (fun _ _ => trivial)); (case aO => exact (tR HO_9.out)); (case aS => exact (below_size tB)); (case aL => have := LMc8.out; omega); intro v234 w18 ho hb hg hat; rw [← Ny233.out] at ho; have n0_ := aS (blk_grown (g := gb231) (o := .cells #[.slice A0_0 l0_0.length c0_0, .slice A0_1 l0_1.length c0_1] 26 (0, 0)) (tK BK231.out) hg (Kd.R_ne HO_9.out BK231.out (by decide))); have n1_ := aS (hb); have n2_ := aS (ho); clear BK231; clear HB; clear HO_9; have BK231 := n0_; have HB := n1_; have HO235 := n2_; clear n0_ n1_ n2_; clear ho hb hg hat; obtain ⟨hcz19_0, hcz19_1, hfz19_0, hfz19_1⟩ := c2 BK231; have p236 : 0 ≤ (x7_1 : Int) := of_decide_eq_true tP; have q236 : x7_1 < (l0_0.length : Int) := of_decide_eq_true tP; obtain ⟨ad236, e236, hx236_0⟩ := Kd.at_int HR0_0.out x7_1 p236 q236; cases e236; replace hx236_0 := cB HB hx236_0; replace p236 := eq_true p236; replace q236 := eq_true q236; have p237 : 0 ≤ ((rd l0_0 x7_1) : Int) := of_decide_eq_true tP; have q237 : (rd l0_0 x7_1) < (l0_1.length : Int) := of_decide_eq_true tP; obtain ⟨ad237, e237, hx237_0, hx237_1, hx237_2, hx237_3⟩ := at_T56 HR0_1.out (rd l0_0 x7_1) p237 q237; cases e237; replace hx237_0 := cB HB hx237_0; replace hx237_1 := cB HB hx237_1; replace hx237_2 := cB HB hx237_2; replace hx237_3 := cB HB hx237_3; replace p237 := eq_true p237; replace q237 := eq_true q237))
         go_ret; exact ⟨_, tE, by (with_reducible repeat (first | apply Kd.R_alloc | apply Kd.R_drewN | apply Kd.R_drew)); exact HO235.out, tB⟩
       rw [if_neg c17] at H; have c17b0 : (((rd_T56 l0_1 (rd l0_0 x7_1)).f0).toList == a1.toList) = false := beq_eq_false_iff_ne.mpr c17; have c17b1 : (((rd_T56 l0_1 (rd l0_0 x7_1)).f0).toList != a1.toList) = true := bne_iff_ne.mpr c17; by_cases c20 : (l0_0.length : Int) = 0
       · rw [if_pos c20] at H; exact nS H
       rw [if_neg c20] at H; have c20b0 : ((l0_0.length : Int) == 0) = false := beq_eq_false_iff_ne.mpr c20; have c20b1 : ((l0_0.length : Int) != 0) = true := bne_iff_ne.mpr c20; have c20b2 : ¬ (l0_0 = []) := fun h_ => c20 (by rw [h_]; rfl)
       have H' := aS H; clear H
       go_wp2_with (first | ((with_reducible refine gate_builtin (b := .append) (xs := #[.tmp 25, .tmp 27]) rfl ?_); at_builtin; refine Kd.R_append (Kd.int .i64) (w0 := w) w.heap.size rfl (.tmp 25) (.tmp 27) 23 3 (.int .i64 0) 8 rfl Try.underlying23 info3 rfl (by decide) (by omega) u9 x9_1 x7_1 [.int .i64 x7_1] (fun _ => True) (fun _ => False) rfl rfl ?aP (fun _ hk => hk.elim) ?aF ?aO ?aB ?aS ?aL ?_; (case aP => exact rfl); (case aB => exact tB); (case aF => exact (fun _ _ => trivial)); (case aO => exact (tR HO_9.out)); (case aS => exact (below_size tB)); (case aL => have := LMc8.out; omega); intro v234 w21 ho hb hg hat; rw [← Ny233.out] at ho; have n0_ := aS (blk_grown (g := gb231) (o := .cells #[.slice A0_0 l0_0.length c0_0, .slice A0_1 l0_1.length c0_1] 26 (0, 0)) (tK BK231.out) hg (Kd.R_ne HO_9.out BK231.out (by decide))); have n1_ := aS (hb); have n2_ := aS (ho); clear BK231; clear HB; clear HO_9; have BK231 := n0_; have HB := n1_; have HO235 := n2_; clear n0_ n1_ n2_; clear ho hb hg hat; obtain ⟨hcz22_0, hcz22_1, hfz22_0, hfz22_1⟩ := c2 BK231; have p236 : 0 ≤ (x7_1 : Int) := of_decide_eq_true tP; have q236 : x7_1 < (l0_0.length : Int) := of_decide_eq_true tP; obtain ⟨ad236, e236, hx236_0⟩ := Kd.at_int HR0_0.out x7_1 p236 q236; cases e236; replace hx236_0 := cB HB hx236_0; replace p236 := eq_true p236; replace q236 := eq_true q236; have p237 : 0 ≤ ((rd l0_0 x7_1) : Int) := of_decide_eq_true tP; have q237 : (rd l0_0 x7_1) < (l0_1.length : Int) := of_decide_eq_true tP; obtain ⟨ad237, e237, hx237_0, hx237_1, hx237_2, hx237_3⟩ := at_T56 HR0_1.out (rd l0_0 x7_1) p237 q237; cases e237; replace hx237_0 := cB HB hx237_0; replace hx237_1 := cB HB hx237_1; replace hx237_2 := cB HB hx237_2; replace hx237_3 := cB HB hx237_3; replace p237 := eq_true p237; replace q237 := eq_true q237))
       go_roundg k1
       case measure => have := HK1.out; omega
       case rel => exact ⟨(Int.tmod (wrap64 ((wrap64 ((wrap64 (5 * x7_1)) + (wrap64 (Int.tdiv x8_1 8)))) + 1)) (l0_0.length : Int)), (wrap64 (Int.tdiv x8_1 8)), (y233), (wrap64 (x23_1 + 1)), tX, tX, tX, H', ⟨by have := HK1.out; omega⟩, ⟨tR HO235.out⟩, ⟨tZ⟩, ⟨tB⟩⟩
     rw [if_neg c14] at H; have c14b0 : decide (0 ≤ (rd l0_0 x7_1)) = false := decide_eq_false c14; clear c14; by_cases c23 : (l0_0.length : Int) = 0
     · rw [if_pos c23] at H; exact nS H
     rw [if_neg c23] at H; have c23b0 : ((l0_0.length : Int) == 0) = false := beq_eq_false_iff_ne.mpr c23; have c23b1 : ((l0_0.length : Int) != 0) = true := bne_iff_ne.mpr c23; have c23b2 : ¬ (l0_0 = []) := fun h_ => c23 (by rw [h_]; rfl)
     have H' := aS H; clear H
     go_wp2_with (first | ((with_reducible refine gate_builtin (b := .append) (xs := #[.tmp 25, .tmp 27]) rfl ?_); at_builtin; refine Kd.R_append (Kd.int .i64) (w0 := w) w.heap.size rfl (.tmp 25) (.tmp 27) 23 3 (.int .i64 0) 8 rfl Try.underlying23 info3 rfl (by decide) (by omega) u9 x9_1 x7_1 [.int .i64 x7_1] (fun _ => True) (fun _ => False) rfl rfl ?aP (fun _ hk => hk.elim) ?aF ?aO ?aB ?aS ?aL ?_; (case aP => exact rfl); (case aB => exact tB); (case aF => exact (fun _ _ => trivial)); (case aO => exact (tR HO_9.out)); (case aS => exact (below_size tB)); (case aL => have := LMc8.out; omega); intro v234 w24 ho hb hg hat; rw [← Ny233.out] at ho; have n0_ := aS (blk_grown (g := gb231) (o := .cells #[.slice A0_0 l0_0.length c0_0, .slice A0_1 l0_1.length c0_1] 26 (0, 0)) (tK BK231.out) hg (Kd.R_ne HO_9.out BK231.out (by decide))); have n1_ := aS (hb); have n2_ := aS (ho); clear BK231; clear HB; clear HO_9; have BK231 := n0_; have HB := n1_; have HO235 := n2_; clear n0_ n1_ n2_; clear ho hb hg hat; obtain ⟨hcz25_0, hcz25_1, hfz25_0, hfz25_1⟩ := c2 BK231; have p236 : 0 ≤ (x7_1 : Int) := of_decide_eq_true tP; have q236 : x7_1 < (l0_0.length : Int) := of_decide_eq_true tP; obtain ⟨ad236, e236, hx236_0⟩ := Kd.at_int HR0_0.out x7_1 p236 q236; cases e236; replace hx236_0 := cB HB hx236_0; replace p236 := eq_true p236; replace q236 := eq_true q236))
     go_roundg k1
     case measure => have := HK1.out; omega
     case rel => exact ⟨(Int.tmod (wrap64 ((wrap64 ((wrap64 (5 * x7_1)) + (wrap64 (Int.tdiv x8_1 8)))) + 1)) (l0_0.length : Int)), (wrap64 (Int.tdiv x8_1 8)), (y233), (wrap64 (x23_1 + 1)), tX, tX, tX, H', ⟨by have := HK1.out; omega⟩, ⟨tR HO235.out⟩, ⟨tZ⟩, ⟨tB⟩⟩
   rw [if_neg c7] at H; have c7b0 : decide (x23_1 < (wrap64 (65536 + (wrap64 (2 * (l0_0.length : Int)))))) = false := decide_eq_false c7; clear c7; obtain rfl := oI H; go_wp2; go_ret; exact ⟨_, tE, by (with_reducible repeat (first | apply Kd.R_alloc | apply Kd.R_drewN | apply Kd.R_drew)); exact HO_9.out, tB⟩

/-! ### impl_within: function 38 -/
def impl_within.f (a0 : Int) (a1 : Int) (a2 : Int) : Option (Bool) := if a0 ≥ a1 then (some (decide (a0 ≤ a2))) else (some false)
set_option maxHeartbeats 8000000 in
set_option maxRecDepth 100000 in
theorem impl_within.calls (a0 : Int) (a1 : Int) (a2 : Int) (r : Bool) (w : World) (h : impl_within.f a0 a1 a2 = some r) :
 Calls Try.prog 38 #[.int .i64 a0, .int .i64 a1, .int .i64 a2] w fun e w' => e = .returned (.bool r) ∧ Drawn0 w w' := by
 have H : (if a0 ≥ a1 then (some (decide (a0 ≤ a2))) else (some false)) = some r := h; clear h; by_cases c4 : a0 ≥ a1
 · rw [if_pos c4] at H; have c4b0 : decide (a1 ≤ a0) = true := decide_eq_true c4; clear c4; obtain rfl := oI H
   go_enter Try.func38, Try.ntmps38
   go_wp2; go_ret; exact ⟨by first | rfl | (simp; done) | (simp [*]; done), by repeat (first | exact Drawn0.refl _ | apply Drawn0.step)⟩
 rw [if_neg c4] at H; have c4b0 : decide (a1 ≤ a0) = false := decide_eq_false c4; clear c4; obtain rfl := oI H
 go_enter Try.func38, Try.ntmps38
 go_wp2; go_ret; exact ⟨by first | rfl | (simp; done) | (simp [*]; done), by repeat (first | exact Drawn0.refl _ | apply Drawn0.step)⟩

/-! ### impl_Dict_live: function 39 -/
def impl_Dict_live.l0 : Nat → Int → List (S56) → Int → Int → Option (Int)
 | 0, _, _, _, _ => none
 | k + 1, x3, x7, x8, x9 => if x9 < x8 then (if 0 ≤ x9 then (if x9 < (x7.length : Int) then (if (rd_T56 x7 x9).f3 = true then (impl_Dict_live.l0 k (wrap64 (x3 + 1)) x7 x8 (wrap64 (x9 + 1))) else (impl_Dict_live.l0 k x3 x7 x8 (wrap64 (x9 + 1)))) else (none)) else (none)) else (some x3)
def impl_Dict_live.f (k : Nat) (l0_0 : List Int) (l0_1 : List (S56)) : Option (Int) := impl_Dict_live.l0 k 0 l0_1 (l0_1.length : Int) 0
theorem impl_Dict_live.mono_l : ∀ k, (∀ y0 y1 y2 y3, LeO (impl_Dict_live.l0 k y0 y1 y2 y3) (impl_Dict_live.l0 (k + 1) y0 y1 y2 y3))
 | 0 => fun _ _ _ _ r h => by simp [impl_Dict_live.l0] at h
 | k + 1 => by
  have ih0 := impl_Dict_live.mono_l k; intro y0 y1 y2 y3
  unfold impl_Dict_live.l0
  exact tM
theorem impl_Dict_live.mono : ∀ a0 a1 k, LeO (impl_Dict_live.f k a0 a1) (impl_Dict_live.f (k + 1) a0 a1) := by
 intro a0 a1 k; have ih0 := impl_Dict_live.mono_l k
 unfold impl_Dict_live.f
 exact tM
set_option maxHeartbeats 8000000 in
set_option maxRecDepth 100000 in
theorem impl_Dict_live.calls (k : Nat) (A0_0 : Option Addr) (c0_0 : Nat) (l0_0 : List Int) (A0_1 : Option Addr) (c0_1 : Nat) (l0_1 : List (S56)) (r : Int) (w : World) (hr0_0 : Kd.C (Kd.int .i64) w A0_0 l0_0.length l0_0) (hc0_0 : l0_0.length ≤ c0_0) (hr0_1 : Kd.C k56 w A0_1 l0_1.length l0_1) (hc0_1 : l0_1.length ≤ c0_1) (h : impl_Dict_live.f k l0_0 l0_1 = some r) :
 Calls Try.prog 39 #[.agg #[.slice A0_0 l0_0.length c0_0, .slice A0_1 l0_1.length c0_1]] w fun e w' => e = .returned (.int .i64 r) ∧ Below w.heap.size w w' := by
 have hu26 := Try.underlying26; have hu56 := Try.underlying56; have HR0_0 := aS hr0_0; have HC0_0 := aS hc0_0; clear hr0_0 hc0_0; have HR0_1 := aS hr0_1; have HC0_1 := aS hc0_1; clear hr0_1 hc0_1; have HB := aS (Below.refl w.heap.size w); have H : (impl_Dict_live.l0 k 0 l0_1 (l0_1.length : Int) 0) = some r := h; clear h; have H' := aS H; clear H
 go_enter Try.func39, Try.ntmps39
 go_wp2_with (first | ((with_reducible refine gD 1 ?_); refine boxS (N := 1) (cs := #[.slice A0_0 l0_0.length c0_0, .slice A0_1 l0_1.length c0_1]) (t := 26) ?_; intro gb238 hg w2 hbox hb; have BK238 := aS (hbox); have GW238 := gW (w := w) hg tB; have GE238 := GW238; replace HB := aS (below_step tB hb); clear hb hbox hg; have hcz3_0 := cA BK238 0; have hcz3_1 := cA BK238 1; have hfz3_0 := bF BK238 0; have hfz3_1 := bF BK238 1))
 go_loopg [3, 9] k (fun kq v3 v9 w' => ∃ (x3_1 : Int) (x9_1 : Int), v3 = .int .i64 x3_1 ∧ v9 = .int .i64 x9_1 ∧ Aside0 (impl_Dict_live.l0 kq x3_1 l0_1 (l0_1.length : Int) x9_1 = some r) ∧ Aside0 (kq ≤ k) ∧ Aside0 (w'.heap[gb238]? = some (.cells #[(.slice A0_0 l0_0.length c0_0), (.slice A0_1 l0_1.length c0_1)] 26 (0, 0))) ∧ Aside0 (Below w.heap.size w w'))
 case atStart => exact ⟨(0), (0), tX, tX, H', ⟨Nat.le_refl _⟩, ⟨tZ⟩, ⟨tB⟩⟩
 case round =>
  clear H'; clear hcz3_0 hcz3_1 hfz3_0 hfz3_1; obtain ⟨x3_1, x9_1, rfl, rfl, HA, HK1, BK238, HB⟩ := hrel
  cases gk with
  | zero => exact absurd HA.out (by simp [impl_Dict_live.l0])
  | succ k1 =>
   have H := HA.out; clear HA; simp only [impl_Dict_live.l0] at H; by_cases c4 : x9_1 < (l0_1.length : Int)
   · rw [if_pos c4] at H; have c4b0 : decide (x9_1 < (l0_1.length : Int)) = true := decide_eq_true c4; clear c4; by_cases c5 : 0 ≤ x9_1
     case neg =>
      rw [if_neg c5] at H; exact nS H
     rw [if_pos c5] at H; have c5b0 : decide (0 ≤ x9_1) = true := decide_eq_true c5; clear c5; by_cases c6 : x9_1 < (l0_1.length : Int)
     case neg =>
      rw [if_neg c6] at H; exact nS H
     rw [if_pos c6] at H; have c6b0 : decide (x9_1 < (l0_1.length : Int)) = true := decide_eq_true c6; clear c6; obtain ⟨bq7, hbq7⟩ : ∃ b_ : Bool, b_ = ((rd_T56 l0_1 x9_1).f3) := ⟨_, rfl⟩
     replace H : (if bq7 = true then (impl_Dict_live.l0 k1 (wrap64 (x3_1 + 1)) l0_1 (l0_1.length : Int) (wrap64 (x9_1 + 1))) else (impl_Dict_live.l0 k1 x3_1 l0_1 (l0_1.length : Int) (wrap64 (x9_1 + 1)))) = some r := by rw [← hbq7] at H; exact H
     have Nbq7 := aS hbq7; clear hbq7; by_cases c8 : bq7 = true
     · subst c8; have H1 : (impl_Dict_live.l0 k1 (wrap64 (x3_1 + 1)) l0_1 (l0_1.length : Int) (wrap64 (x9_1 + 1))) = some r := by rw [if_pos rfl] at H; exact H
       clear H; have H := H1; clear H1; have H' := aS H; clear H; have p239 : 0 ≤ (x9_1 : Int) := of_decide_eq_true tP; have q239 : x9_1 < (l0_1.length : Int) := of_decide_eq_true tP; obtain ⟨ad239, e239, hx239_0, hx239_1, hx239_2, hx239_3⟩ := at_T56 HR0_1.out x9_1 p239 q239
       (try rw [← Nbq7.out] at hx239_3); (try rw [← Nbq7.out] at hw239_3)
       cases e239; replace hx239_0 := cB HB hx239_0; replace hx239_1 := cB HB hx239_1; replace hx239_2 := cB HB hx239_2; replace hx239_3 := cB HB hx239_3; replace p239 := eq_true p239; replace q239 := eq_true q239
       go_wp2_with (first | ((with_reducible refine gD 5 ?_); refine boxS (N := 5) (cs := #[.string (⟨#[]⟩ : ByteArray), .int .i64 0, .int .i64 0, .bool false]) (t := 56) ?_; intro gb240 hg w9 hbox hb; have BK240 := aS (hbox); have GW240 := gW (w := w) hg tB; have GE240 := GW240; have NB238_240 := nL hg BK238; have NB240_238 := nR hg BK238; replace BK238 := bB BK238 hb; replace HB := aS (below_step tB hb); clear hb hbox hg; obtain ⟨hnb10, hnc10⟩ := bO NB240_238 NB238_240; have hcz11_0 := cA BK240 0; have hcz11_1 := cA BK240 1; have hcz11_2 := cA BK240 2; have hcz11_3 := cA BK240 3; have hfz11_0 := bF BK240 0; have hfz11_1 := bF BK240 1; have hfz11_2 := bF BK240 2; have hfz11_3 := bF BK240 3))
       go_roundg k1
       case measure => have := HK1.out; omega
       case rel => exact ⟨(wrap64 (x3_1 + 1)), (wrap64 (x9_1 + 1)), tX, tX, H', ⟨by have := HK1.out; omega⟩, ⟨tZ⟩, ⟨tB⟩⟩
     replace c8 := Bool.eq_false_iff.mpr c8; subst c8; have H1 : (impl_Dict_live.l0 k1 x3_1 l0_1 (l0_1.length : Int) (wrap64 (x9_1 + 1))) = some r := by rw [if_neg (show ¬ (false = true) by decide)] at H; exact H
     clear H; have H := H1; clear H1; have H' := aS H; clear H; have p239 : 0 ≤ (x9_1 : Int) := of_decide_eq_true tP; have q239 : x9_1 < (l0_1.length : Int) := of_decide_eq_true tP; obtain ⟨ad239, e239, hx239_0, hx239_1, hx239_2, hx239_3⟩ := at_T56 HR0_1.out x9_1 p239 q239
     (try rw [← Nbq7.out] at hx239_3); (try rw [← Nbq7.out] at hw239_3)
     cases e239; replace hx239_0 := cB HB hx239_0; replace hx239_1 := cB HB hx239_1; replace hx239_2 := cB HB hx239_2; replace hx239_3 := cB HB hx239_3; replace p239 := eq_true p239; replace q239 := eq_true q239
     go_wp2_with (first | ((with_reducible refine gD 5 ?_); refine boxS (N := 5) (cs := #[.string (⟨#[]⟩ : ByteArray), .int .i64 0, .int .i64 0, .bool false]) (t := 56) ?_; intro gb240 hg w12 hbox hb; have BK240 := aS (hbox); have GW240 := gW (w := w) hg tB; have GE240 := GW240; have NB238_240 := nL hg BK238; have NB240_238 := nR hg BK238; replace BK238 := bB BK238 hb; replace HB := aS (below_step tB hb); clear hb hbox hg; obtain ⟨hnb13, hnc13⟩ := bO NB240_238 NB238_240; have hcz14_0 := cA BK240 0; have hcz14_1 := cA BK240 1; have hcz14_2 := cA BK240 2; have hcz14_3 := cA BK240 3; have hfz14_0 := bF BK240 0; have hfz14_1 := bF BK240 1; have hfz14_2 := bF BK240 2; have hfz14_3 := bF BK240 3))
     go_roundg k1
     case measure => have := HK1.out; omega
     case rel => exact ⟨(x3_1), (wrap64 (x9_1 + 1)), tX, tX, H', ⟨by have := HK1.out; omega⟩, ⟨tZ⟩, ⟨tB⟩⟩
   rw [if_neg c4] at H; have c4b0 : decide (x9_1 < (l0_1.length : Int)) = false := decide_eq_false c4; clear c4; obtain rfl := oI H; go_wp2; go_ret; exact ⟨tE, tB⟩

/-! ### slices_Index_int_int: function 72 -/
def slices_Index_int_int.l0 : Nat → List Int → Int → Int → Int → Option (Int)
 | 0, _, _, _, _ => none
 | k + 1, x0, x1, x7, x8 => if x8 < x7 then (if 0 ≤ x8 then (if x8 < (x0.length : Int) then (if x1 = (rd x0 x8) then (some x8) else (slices_Index_int_int.l0 k x0 x1 x7 (wrap64 (x8 + 1)))) else (none)) else (none)) else (some (-1))
def slices_Index_int_int.f (k : Nat) (l0 : List Int) (a1 : Int) : Option (Int) := slices_Index_int_int.l0 k l0 a1 (l0.length : Int) 0
theorem slices_Index_int_int.mono_l : ∀ k, (∀ y0 y1 y2 y3, LeO (slices_Index_int_int.l0 k y0 y1 y2 y3) (slices_Index_int_int.l0 (k + 1) y0 y1 y2 y3))
 | 0 => fun _ _ _ _ r h => by simp [slices_Index_int_int.l0] at h
 | k + 1 => by
  have ih0 := slices_Index_int_int.mono_l k; intro y0 y1 y2 y3
  unfold slices_Index_int_int.l0
  exact tM
theorem slices_Index_int_int.mono : ∀ a0 a1 k, LeO (slices_Index_int_int.f k a0 a1) (slices_Index_int_int.f (k + 1) a0 a1) := by
 intro a0 a1 k; have ih0 := slices_Index_int_int.mono_l k
 unfold slices_Index_int_int.f
 exact tM
set_option maxHeartbeats 8000000 in
set_option maxRecDepth 100000 in
theorem slices_Index_int_int.calls (k : Nat) (A0 : Option Addr) (c0 : Nat) (l0 : List Int) (a1 : Int) (r : Int) (w : World) (hr0 : Kd.C (Kd.int .i64) w A0 l0.length l0) (hc0 : l0.length ≤ c0) (h : slices_Index_int_int.f k l0 a1 = some r) :
 Calls Try.prog 72 #[.slice A0 l0.length c0, .int .i64 a1] w fun e w' => e = .returned (.int .i64 r) ∧ Drawn0 w w' := by
 have HR0 := aS hr0; have HC0 := aS hc0; clear hr0 hc0; have H : (slices_Index_int_int.l0 k l0 a1 (l0.length : Int) 0) = some r := h; clear h; have H' := aS H; clear H
 go_enter Try.func72, Try.ntmps72
 go_wp2
 go_loopg [8] k (fun kq v8 w' => ∃ (x8_1 : Int), v8 = .int .i64 x8_1 ∧ Aside0 (slices_Index_int_int.l0 kq l0 a1 (l0.length : Int) x8_1 = some r) ∧ Aside0 (kq ≤ k) ∧ Drawn0 w w')
 case atStart => exact ⟨(0), tX, H', ⟨Nat.le_refl _⟩, by repeat (first | exact Drawn0.refl _ | apply Drawn0.step)⟩
 case round =>
  clear H'; obtain ⟨x8_1, rfl, HA, HK1, ⟨m1, rfl⟩⟩ := hrel
  cases gk with
  | zero => exact absurd HA.out (by simp [slices_Index_int_int.l0])
  | succ k1 =>
   have H := HA.out; clear HA; simp only [slices_Index_int_int.l0] at H; by_cases c3 : x8_1 < (l0.length : Int)
   · rw [if_pos c3] at H; have c3b0 : decide (x8_1 < (l0.length : Int)) = true := decide_eq_true c3; clear c3; by_cases c4 : 0 ≤ x8_1
     case neg =>
      rw [if_neg c4] at H; exact nS H
     rw [if_pos c4] at H; have c4b0 : decide (0 ≤ x8_1) = true := decide_eq_true c4; clear c4; by_cases c5 : x8_1 < (l0.length : Int)
     case neg =>
      rw [if_neg c5] at H; exact nS H
     rw [if_pos c5] at H; have c5b0 : decide (x8_1 < (l0.length : Int)) = true := decide_eq_true c5; clear c5; by_cases c6 : a1 = (rd l0 x8_1)
     · rw [if_pos c6] at H; have c6b0 : (a1 == (rd l0 x8_1)) = true := beq_iff_eq.mpr c6; have c6b1 : (a1 != (rd l0 x8_1)) = false := bne_eq_false_iff_eq.mpr c6; clear c6; obtain rfl := oI H; have p241 : 0 ≤ (x8_1 : Int) := of_decide_eq_true tP; have q241 : x8_1 < (l0.length : Int) := of_decide_eq_true tP; obtain ⟨ad241, e241, hx241_0⟩ := Kd.at_int HR0.out x8_1 p241 q241; cases e241; replace p241 := eq_true p241; replace q241 := eq_true q241; go_wp2; go_ret; exact ⟨by first | rfl | (simp; done) | (simp [*]; done), by repeat (first | exact Drawn0.refl _ | apply Drawn0.step)⟩
     rw [if_neg c6] at H; have c6b0 : (a1 == (rd l0 x8_1)) = false := beq_eq_false_iff_ne.mpr c6; have c6b1 : (a1 != (rd l0 x8_1)) = true := bne_iff_ne.mpr c6; have H' := aS H; clear H; have p241 : 0 ≤ (x8_1 : Int) := of_decide_eq_true tP; have q241 : x8_1 < (l0.length : Int) := of_decide_eq_true tP; obtain ⟨ad241, e241, hx241_0⟩ := Kd.at_int HR0.out x8_1 p241 q241; cases e241; replace p241 := eq_true p241; replace q241 := eq_true q241; go_wp2; go_roundg k1
     case measure => have := HK1.out; omega
     case rel => exact ⟨(wrap64 (x8_1 + 1)), tX, H', ⟨by have := HK1.out; omega⟩, by repeat (first | exact Drawn0.refl _ | apply Drawn0.step)⟩
   rw [if_neg c3] at H; have c3b0 : decide (x8_1 < (l0.length : Int)) = false := decide_eq_false c3; clear c3; obtain rfl := oI H; go_wp2; go_ret; exact ⟨by first | rfl | (simp; done) | (simp [*]; done), by repeat (first | exact Drawn0.refl _ | apply Drawn0.step)⟩

/-! ### slices_Contains_int_int: function 42 -/
def slices_Contains_int_int.f (k : Nat) (l0 : List Int) (a1 : Int) : Option (Bool) := (slices_Index_int_int.f k l0 a1).bind fun t242 => (some (decide (t242 ≥ 0)))
theorem slices_Contains_int_int.mono : ∀ a0 a1 k, LeO (slices_Contains_int_int.f k a0 a1) (slices_Contains_int_int.f (k + 1) a0 a1) := by
 intro a0 a1 k
 unfold slices_Contains_int_int.f
 have m0_ := @slices_Index_int_int.mono; exact tM
set_option maxHeartbeats 8000000 in
set_option maxRecDepth 100000 in
theorem slices_Contains_int_int.calls (k : Nat) (A0 : Option Addr) (c0 : Nat) (l0 : List Int) (a1 : Int) (r : Bool) (w : World) (hr0 : Kd.C (Kd.int .i64) w A0 l0.length l0) (hc0 : l0.length ≤ c0) (h : slices_Contains_int_int.f k l0 a1 = some r) :
 Calls Try.prog 42 #[.slice A0 l0.length c0, .int .i64 a1] w fun e w' => e = .returned (.bool r) ∧ Drawn0 w w' := by
 have HR0 := aS hr0; have HC0 := aS hc0; clear hr0 hc0; have H : ((slices_Index_int_int.f k l0 a1).bind fun t242 => (some (decide (t242 ≥ 0)))) = some r := h; clear h; replace H := oB H; obtain ⟨t242, A30, H⟩ := H; replace H : (some (decide (t242 ≥ 0))) = some r := H; have A3 := aS A30; clear A30; obtain rfl := oI H
 go_enter Try.func42, Try.ntmps42
 go_wp2_with (first | ((with_reducible refine gC 72 ?_); refine goS (some 7) Try.func72 #[.slice A0 l0.length c0, .int .i64 a1] ?_; (with_reducible refine (slices_Index_int_int.calls k _ _ l0 a1 t242 _ ?side1 ?side2 A3.out).mono ?_); (case side1 => exact tC HR0.out); (case side2 => exact HC0.out); rintro e w' ⟨rfl, ⟨nd, rfl⟩⟩; refine ⟨_, rfl, ?_⟩))
 go_ret; exact ⟨by first | rfl | (simp; done) | (simp [*]; done), by repeat (first | exact Drawn0.refl _ | apply Drawn0.step)⟩

end Go.Proofs.Ytihcollncjcpgaa.E
