/- Contracts of the Go functions that the seat's laws reach, one after the other: the machine's call comes to what the plain Lean function beside it says; no conditions but those that each contract names. Laid by this session's program wip/pp.py, which drives the kit's printer. -/
import Derived.Test.YtihcollncjcpgaaPx0
import Derived.Test.YtihcollncjcpgaaPx2
import Derived.Test.YtihcollncjcpgaaPx8
import Derived.Test.YtihcollncjcpgaaPx9
import Derived.Test.YtihcollncjcpgaaPx10
import Derived.Test.YtihcollncjcpgaaPx11
import Derived.Test.YtihcollncjcpgaaPx12
namespace Go.Proofs.Ytihcollncjcpgaa.P
open Go.RowKit Go.Proofs.YtihcollncjcpgaaW.PrintWords Go.Proofs.YtihcollncjcpgaaW.PrintLast Go.Proofs.YtihcollncjcpgaaW.PrintMore
attribute [local go_sem] max2_int min2_int max_two min_two max_three min_three max_four min_four   -- for this text's walks alone
set_option linter.unusedVariables false
set_option linter.unusedSimpArgs false
abbrev M15_10_ff : Array Bool := bN_ 10 255

/-! ### impl_DictKeys: function 14 -/
def impl_DictKeys.l0 : Nat → List ByteArray → List (S56) → Int → Int → Option (List ByteArray)
 | 0, _, _, _, _ => none
 | k + 1, x3, x10, x11, x12 => if x12 < x11 then (if 0 ≤ x12 then (if x12 < (x10.length : Int) then (if (rd_T56 x10 x12).f3 = true then (if x3.length < 8796093022208 then (impl_DictKeys.l0 k (x3 ++ [(rd_T56 x10 x12).f0]) x10 x11 (wrap64 (x12 + 1))) else (none)) else (impl_DictKeys.l0 k x3 x10 x11 (wrap64 (x12 + 1)))) else (none)) else (none)) else (some x3)
def impl_DictKeys.f (k : Nat) (l0_0 : List Int) (l0_1 : List (S56)) : Option (List ByteArray) := (impl_DictOk.f k l0_0 l0_1).bind fun t443 => (if t443 = true then (impl_DictKeys.l0 k ([] : List ByteArray) l0_1 (l0_1.length : Int) 0) else (some ([] : List ByteArray)))
theorem impl_DictKeys.mono_l : ∀ k, (∀ y0 y1 y2 y3, LeO (impl_DictKeys.l0 k y0 y1 y2 y3) (impl_DictKeys.l0 (k + 1) y0 y1 y2 y3))
 | 0 => fun _ _ _ _ r h => by simp [impl_DictKeys.l0] at h
 | k + 1 => by
  have ih0 := impl_DictKeys.mono_l k; intro y0 y1 y2 y3
  unfold impl_DictKeys.l0
  have m0_ := @impl_DictOk.mono; exact tM
theorem impl_DictKeys.mono : ∀ a0 a1 k, LeO (impl_DictKeys.f k a0 a1) (impl_DictKeys.f (k + 1) a0 a1) := by
 intro a0 a1 k; have ih0 := impl_DictKeys.mono_l k
 unfold impl_DictKeys.f
 have m0_ := @impl_DictOk.mono; exact tM
set_option maxHeartbeats 8000000 in
set_option maxRecDepth 100000 in
theorem impl_DictKeys.calls (k : Nat) (A0_0 : Option Addr) (c0_0 : Nat) (l0_0 : List Int) (A0_1 : Option Addr) (c0_1 : Nat) (l0_1 : List (S56)) (r : List ByteArray) (w : World) (hr0_0 : Kd.C (Kd.int .i64) w A0_0 l0_0.length l0_0) (hc0_0 : l0_0.length ≤ c0_0) (hr0_1 : Kd.C k56 w A0_1 l0_1.length l0_1) (hc0_1 : l0_1.length ≤ c0_1) (h : impl_DictKeys.f k l0_0 l0_1 = some r) :
 Calls Try.prog 14 #[.agg #[.slice A0_0 l0_0.length c0_0, .slice A0_1 l0_1.length c0_1]] w fun e w' => ∃ v0_ : Value, e = .returned (v0_) ∧ Kd.R Kd.string 9 w' w.heap.size (fun _ => True) v0_ r ∧ Below w.heap.size w w' := by
 have hu26 := Try.underlying26; have hu56 := Try.underlying56; have HR0_0 := aS hr0_0; have HC0_0 := aS hc0_0; clear hr0_0 hc0_0; have HR0_1 := aS hr0_1; have HC0_1 := aS hc0_1; clear hr0_1 hc0_1; have HB := aS (Below.refl w.heap.size w); have H : ((impl_DictOk.f k l0_0 l0_1).bind fun t443 => (if t443 = true then (impl_DictKeys.l0 k ([] : List ByteArray) l0_1 (l0_1.length : Int) 0) else (some ([] : List ByteArray)))) = some r := h; clear h; replace H := oB H; obtain ⟨t443, A20, H⟩ := H; replace H : (if t443 = true then (impl_DictKeys.l0 k ([] : List ByteArray) l0_1 (l0_1.length : Int) 0) else (some ([] : List ByteArray))) = some r := H; have A2 := aS A20; clear A20; by_cases c3 : t443 = true
 · subst c3; have H1 : (impl_DictKeys.l0 k ([] : List ByteArray) l0_1 (l0_1.length : Int) 0) = some r := by rw [if_pos rfl] at H; exact H
   clear H; have H := H1; clear H1; have H' := aS H; clear H
   go_enter Try.func14, Try.ntmps14
   go_wp2_with (first | ((with_reducible refine gD 1 ?_); refine boxS (N := 1) (cs := #[.slice A0_0 l0_0.length c0_0, .slice A0_1 l0_1.length c0_1]) (t := 26) ?_; intro gb442 hg w4 hbox hb; have BK442 := aS (hbox); have GW442 := gW (w := w) hg tB; have GE442 := GW442; replace HB := aS (below_step tB hb); clear hb hbox hg; have hcz5_0 := cA BK442 0; have hcz5_1 := cA BK442 1; have hfz5_0 := bF BK442 0; have hfz5_1 := bF BK442 1) | ((with_reducible refine gC 15 ?_); refine goS (some 7) Try.func15 #[.agg #[.slice A0_0 l0_0.length c0_0, .slice A0_1 l0_1.length c0_1]] ?_; (with_reducible refine (impl_DictOk.calls k _ _ l0_0 _ _ l0_1 true _ ?side1 ?side2 ?side3 ?side4 A2.out).mono ?_); (case side1 => exact tC (Kd.C_below HR0_0.out HB.out)); (case side2 => exact HC0_0.out); (case side3 => exact tC (Kd.C_below HR0_1.out HB.out)); (case side4 => exact HC0_1.out); rintro e w6 ⟨rfl, hb⟩; refine ⟨_, rfl, ?_⟩; replace BK442 := bB BK442 hb; replace HB := aS (below_step tB hb); obtain ⟨hcz7_0, hcz7_1, hfz7_0, hfz7_1⟩ := c2 BK442; clear hb))
   go_loopg [3, 12] k (fun kq v3 v12 w' => ∃ (x3_1 : List ByteArray) (x12_1 : Int), v12 = .int .i64 x12_1 ∧ Aside0 (impl_DictKeys.l0 kq x3_1 l0_1 (l0_1.length : Int) x12_1 = some r) ∧ Aside0 (kq ≤ k) ∧ Aside0 (Kd.R Kd.string 9 w' w.heap.size (fun _ => True) v3 x3_1) ∧ Aside0 (w'.heap[gb442]? = some (.cells #[(.slice A0_0 l0_0.length c0_0), (.slice A0_1 l0_1.length c0_1)] 26 (0, 0))) ∧ Aside0 (Below w.heap.size w w'))
   case atStart => exact ⟨(([] : List ByteArray)), (0), tX, H', ⟨Nat.le_refl _⟩, ⟨by first | exact Kd.R_nil _ _ _ _ _ | exact Kd.N_nil _ _ _ _ _ | exact Kd.V_nil _ _ _ _ _ | exact Kd.Q_nil _ _ _ _ _ | exact Kd.S_nil _ _ _ _ _⟩, ⟨tZ⟩, ⟨tB⟩⟩
   case round =>
    clear H'; clear hcz5_0 hcz5_1 hcz7_0 hcz7_1 hfz5_0 hfz5_1 hfz7_0 hfz7_1; obtain ⟨x3_1, x12_1, rfl, HA, HK1, HO_3, BK442, HB⟩ := hrel
    cases gk with
    | zero => exact absurd HA.out (by simp [impl_DictKeys.l0])
    | succ k1 =>
     have H := HA.out; clear HA; simp only [impl_DictKeys.l0] at H; by_cases c8 : x12_1 < (l0_1.length : Int)
     · rw [if_pos c8] at H; have c8b0 : decide (x12_1 < (l0_1.length : Int)) = true := decide_eq_true c8; clear c8; by_cases c9 : 0 ≤ x12_1
       case neg =>
        rw [if_neg c9] at H; exact nS H
       rw [if_pos c9] at H; have c9b0 : decide (0 ≤ x12_1) = true := decide_eq_true c9; clear c9; by_cases c10 : x12_1 < (l0_1.length : Int)
       case neg =>
        rw [if_neg c10] at H; exact nS H
       rw [if_pos c10] at H; have c10b0 : decide (x12_1 < (l0_1.length : Int)) = true := decide_eq_true c10; clear c10; obtain ⟨bq11, hbq11⟩ : ∃ b_ : Bool, b_ = ((rd_T56 l0_1 x12_1).f3) := ⟨_, rfl⟩
       replace H : (if bq11 = true then (if x3_1.length < 8796093022208 then (impl_DictKeys.l0 k1 (x3_1 ++ [(rd_T56 l0_1 x12_1).f0]) l0_1 (l0_1.length : Int) (wrap64 (x12_1 + 1))) else (none)) else (impl_DictKeys.l0 k1 x3_1 l0_1 (l0_1.length : Int) (wrap64 (x12_1 + 1)))) = some r := by rw [← hbq11] at H; exact H
       have Nbq11 := aS hbq11; clear hbq11; by_cases c12 : bq11 = true
       · subst c12; have H1 : (if x3_1.length < 8796093022208 then (impl_DictKeys.l0 k1 (x3_1 ++ [(rd_T56 l0_1 x12_1).f0]) l0_1 (l0_1.length : Int) (wrap64 (x12_1 + 1))) else (none)) = some r := by rw [if_pos rfl] at H; exact H
         clear H; have H := H1; clear H1; by_cases c13 : x3_1.length < 8796093022208
         case neg =>
          rw [if_neg c13] at H; exact nS H
         rw [if_pos c13] at H; have LMc13 := aS c13; clear c13; obtain ⟨y446, hy446⟩ : ∃ y_ : List ByteArray, y_ = (x3_1 ++ [(rd_T56 l0_1 x12_1).f0]) := ⟨_, rfl⟩
         replace H : (impl_DictKeys.l0 k1 y446 l0_1 (l0_1.length : Int) (wrap64 (x12_1 + 1))) = some r := by first | (rw [hy446]; with_reducible exact H) | (have H2_ := (Option.bind_some _ _).symm.trans H; rw [hy446]; with_reducible exact H2_) | (have H2_ := (Option.bind_some _ _).symm.trans H; with_reducible exact H2_) | with_reducible exact H | (rw [hy446]; exact H) | exact H
         have Ny446 := aS hy446; clear hy446; have H' := aS H; clear H; have p444 : 0 ≤ (x12_1 : Int) := of_decide_eq_true tP; have q444 : x12_1 < (l0_1.length : Int) := of_decide_eq_true tP; obtain ⟨ad444, e444, hx444_0, hx444_1, hx444_2, hx444_3⟩ := at_T56 HR0_1.out x12_1 p444 q444
         (try rw [← Nbq11.out] at hx444_3); (try rw [← Nbq11.out] at hw444_3)
         cases e444; replace hx444_0 := cB HB hx444_0; replace hx444_1 := cB HB hx444_1; replace hx444_2 := cB HB hx444_2; replace hx444_3 := cB HB hx444_3; replace p444 := eq_true p444; replace q444 := eq_true q444
         go_wp2_with (first | ((with_reducible refine gD 5 ?_); refine boxS (N := 5) (cs := #[.string (⟨#[]⟩ : ByteArray), .int .i64 0, .int .i64 0, .bool false]) (t := 56) ?_; intro gb445 hg w14 hbox hb; replace HO_3 := rB HO_3 hb; have BK445 := aS (hbox); have GW445 := gW (w := w) hg tB; have GE445 := GW445; have NB442_445 := nL hg BK442; have NB445_442 := nR hg BK442; replace BK442 := bB BK442 hb; replace HB := aS (below_step tB hb); clear hb hbox hg; obtain ⟨hnb15, hnc15⟩ := bO NB445_442 NB442_445; have hcz16_0 := cA BK445 0; have hcz16_1 := cA BK445 1; have hcz16_2 := cA BK445 2; have hcz16_3 := cA BK445 3; have hfz16_0 := bF BK445 0; have hfz16_1 := bF BK445 1; have hfz16_2 := bF BK445 2; have hfz16_3 := bF BK445 3) | ((with_reducible refine gate_builtin (b := .append) (xs := #[.tmp 18, .tmp 21]) rfl ?_); at_builtin; refine Kd.R_append Kd.string (w0 := w) w.heap.size rfl (.tmp 18) (.tmp 21) 35 9 (.string ⟨#[]⟩) 16 rfl Try.underlying35 info9 rfl (by decide) (by omega) u3 x3_1 ((rd_T56 l0_1 x12_1).f0) [.string ((rd_T56 l0_1 x12_1).f0)] (fun _ => True) (fun _ => False) rfl (by first | (go_simp; done) | (go_simp; rfl)) ?aP (fun _ hk => hk.elim) ?aF ?aO ?aB ?aS ?aL ?_; (case aP => exact rfl); (case aB => exact tB); (case aF => exact (fun _ _ => trivial)); (case aO => exact (tR (Kd.R_mono (Kd.R_far (p := ⟨gb445, 3, none⟩) (Kd.R_far (p := ⟨gb445, 2, none⟩) (Kd.R_far (p := ⟨gb445, 1, none⟩) (Kd.R_far (p := ⟨gb445, 0, none⟩) (Kd.R_types HO_3.out BK445.out (by decide)) (fun _ hk => hk.2) (.string ((rd_T56 l0_1 x12_1).f0))) (fun _ hk => hk.2) (.int .i64 ((rd_T56 l0_1 x12_1).f1))) (fun _ hk => hk.2) (.int .i64 ((rd_T56 l0_1 x12_1).f2))) (fun _ hk => hk.2) (.bool true)) (fun _ hk => trivial)))); (case aS => exact (below_size tB)); (case aL => have := LMc13.out; omega); intro v447 w17 ho hb hg hat; rw [← Ny446.out] at ho; have n0_ := aS (blk_grown (g := gb442) (o := .cells #[.slice A0_0 l0_0.length c0_0, .slice (some ad444) l0_1.length c0_1] 26 (0, 0)) tZ hg (Kd.R_ne HO_3.out BK442.out (by decide))); have n1_ := aS (blk_grown (g := gb445) (o := .cells #[.string ((rd_T56 l0_1 x12_1).f0), .int .i64 ((rd_T56 l0_1 x12_1).f1), .int .i64 ((rd_T56 l0_1 x12_1).f2), .bool true] 56 (0, 0)) tZ hg (Kd.R_ne HO_3.out BK445.out (by decide))); have n2_ := aS (hb); have n3_ := aS (ho); clear BK442; clear BK445; clear HB; clear HO_3; have BK442 := n0_; have BK445 := n1_; have HB := n2_; have HO448 := n3_; clear n0_ n1_ n2_ n3_; clear ho hb hg hat))
         go_roundg k1
         case measure => have := HK1.out; omega
         case rel => exact ⟨(y446), (wrap64 (x12_1 + 1)), tX, H', ⟨by have := HK1.out; omega⟩, ⟨tR HO448.out⟩, ⟨tZ⟩, ⟨tB⟩⟩
       replace c12 := Bool.eq_false_iff.mpr c12; subst c12; have H1 : (impl_DictKeys.l0 k1 x3_1 l0_1 (l0_1.length : Int) (wrap64 (x12_1 + 1))) = some r := by rw [if_neg (show ¬ (false = true) by decide)] at H; exact H
       clear H; have H := H1; clear H1; have H' := aS H; clear H; have p444 : 0 ≤ (x12_1 : Int) := of_decide_eq_true tP; have q444 : x12_1 < (l0_1.length : Int) := of_decide_eq_true tP; obtain ⟨ad444, e444, hx444_0, hx444_1, hx444_2, hx444_3⟩ := at_T56 HR0_1.out x12_1 p444 q444
       (try rw [← Nbq11.out] at hx444_3); (try rw [← Nbq11.out] at hw444_3)
       cases e444; replace hx444_0 := cB HB hx444_0; replace hx444_1 := cB HB hx444_1; replace hx444_2 := cB HB hx444_2; replace hx444_3 := cB HB hx444_3; replace p444 := eq_true p444; replace q444 := eq_true q444
       go_wp2_with (first | ((with_reducible refine gD 5 ?_); refine boxS (N := 5) (cs := #[.string (⟨#[]⟩ : ByteArray), .int .i64 0, .int .i64 0, .bool false]) (t := 56) ?_; intro gb445 hg w18 hbox hb; replace HO_3 := rB HO_3 hb; have BK445 := aS (hbox); have GW445 := gW (w := w) hg tB; have GE445 := GW445; have NB442_445 := nL hg BK442; have NB445_442 := nR hg BK442; replace BK442 := bB BK442 hb; replace HB := aS (below_step tB hb); clear hb hbox hg; obtain ⟨hnb19, hnc19⟩ := bO NB445_442 NB442_445; have hcz20_0 := cA BK445 0; have hcz20_1 := cA BK445 1; have hcz20_2 := cA BK445 2; have hcz20_3 := cA BK445 3; have hfz20_0 := bF BK445 0; have hfz20_1 := bF BK445 1; have hfz20_2 := bF BK445 2; have hfz20_3 := bF BK445 3))
       go_roundg k1
       case measure => have := HK1.out; omega
       case rel => exact ⟨(x3_1), (wrap64 (x12_1 + 1)), tX, H', ⟨by have := HK1.out; omega⟩, ⟨by (with_reducible repeat (first | apply Kd.R_alloc | apply Kd.R_drewN | apply Kd.R_drew)); exact Kd.R_mono (Kd.R_far (p := ⟨gb445, 3, none⟩) (Kd.R_far (p := ⟨gb445, 2, none⟩) (Kd.R_far (p := ⟨gb445, 1, none⟩) (Kd.R_far (p := ⟨gb445, 0, none⟩) (Kd.R_types HO_3.out BK445.out (by decide)) (fun _ hk => hk.2) (.string ((rd_T56 l0_1 x12_1).f0))) (fun _ hk => hk.2) (.int .i64 ((rd_T56 l0_1 x12_1).f1))) (fun _ hk => hk.2) (.int .i64 ((rd_T56 l0_1 x12_1).f2))) (fun _ hk => hk.2) (.bool false)) (fun _ hk => trivial)⟩, ⟨tZ⟩, ⟨tB⟩⟩
     rw [if_neg c8] at H; have c8b0 : decide (x12_1 < (l0_1.length : Int)) = false := decide_eq_false c8; clear c8; obtain rfl := oI H; go_wp2; go_ret; exact ⟨_, tE, by (with_reducible repeat (first | apply Kd.R_alloc | apply Kd.R_drewN | apply Kd.R_drew)); exact HO_3.out, tB⟩
 replace c3 := Bool.eq_false_iff.mpr c3; subst c3; have H1 : (some ([] : List ByteArray)) = some r := by rw [if_neg (show ¬ (false = true) by decide)] at H; exact H
 clear H; have H := H1; clear H1; obtain rfl := oI H
 go_enter Try.func14, Try.ntmps14
 go_wp2_with (first | ((with_reducible refine gD 1 ?_); refine boxS (N := 1) (cs := #[.slice A0_0 l0_0.length c0_0, .slice A0_1 l0_1.length c0_1]) (t := 26) ?_; intro gb442 hg w21 hbox hb; have BK442 := aS (hbox); have GW442 := gW (w := w) hg tB; have GE442 := GW442; replace HB := aS (below_step tB hb); clear hb hbox hg; have hcz22_0 := cA BK442 0; have hcz22_1 := cA BK442 1; have hfz22_0 := bF BK442 0; have hfz22_1 := bF BK442 1) | ((with_reducible refine gC 15 ?_); refine goS (some 7) Try.func15 #[.agg #[.slice A0_0 l0_0.length c0_0, .slice A0_1 l0_1.length c0_1]] ?_; (with_reducible refine (impl_DictOk.calls k _ _ l0_0 _ _ l0_1 false _ ?side1 ?side2 ?side3 ?side4 A2.out).mono ?_); (case side1 => exact tC (Kd.C_below HR0_0.out HB.out)); (case side2 => exact HC0_0.out); (case side3 => exact tC (Kd.C_below HR0_1.out HB.out)); (case side4 => exact HC0_1.out); rintro e w23 ⟨rfl, hb⟩; refine ⟨_, rfl, ?_⟩; replace BK442 := bB BK442 hb; replace HB := aS (below_step tB hb); clear hb))
 go_ret; exact ⟨_, tE, by first | exact Kd.R_nil _ _ _ _ _ | exact Kd.N_nil _ _ _ _ _ | exact Kd.V_nil _ _ _ _ _ | exact Kd.Q_nil _ _ _ _ _ | exact Kd.S_nil _ _ _ _ _, tB⟩

/-! ### spec_rnd_often: function 44 -/
def spec_rnd_often.f (s0_0 : List Int) (s0_1 : Int) (a1 : Int) : Option (Int × Int) := (spec_rnd_pick.f s0_0 s0_1 16).bind fun bt449 => (if bt449.1 = 0 then ((spec_rnd_odd.f s0_0 bt449.2).bind fun bt451 => (some (bt451.1, bt451.2))) else (some (a1, bt449.2)))
set_option maxHeartbeats 8000000 in
set_option maxRecDepth 100000 in
theorem spec_rnd_often.calls (g : Nat) (s0_0 : List Int) (s0_1 : Int) (a1 : Int) (r1 : Int) (r2 : Int) (w0 w : World) (hI : IsS77 w0 w g s0_0 s0_1) (hB : Below w0.heap.size w0 w) (h : spec_rnd_often.f s0_0 s0_1 a1 = some (r1, r2)) :
 Calls Try.prog 44 #[.pointer (some ⟨g, 0, none⟩), .int .i64 a1] w fun e w' => e = .returned (.int .i64 r1) ∧ IsS77 w0 w' g s0_0 r2 ∧ Below w0.heap.size w0 w' ∧ KeepBut w w' g none := by
 have HI0 := aS hI; have HK := aS (KeepBut.refl w g none); have HL := aS hB.size; clear hI; have HW0 := aS hB.size; have HB := aS hB; clear hB; have H : ((spec_rnd_pick.f s0_0 s0_1 16).bind fun bt449 => (if bt449.1 = 0 then ((spec_rnd_odd.f s0_0 bt449.2).bind fun bt451 => (some (bt451.1, bt451.2))) else (some (a1, bt449.2)))) = some (r1, r2) := h; clear h; replace H := oB H; obtain ⟨⟨t449, t450⟩, A30, H⟩ := H; replace H : (if t449 = 0 then ((spec_rnd_odd.f s0_0 t450).bind fun bt451 => (some (bt451.1, bt451.2))) else (some (a1, t450))) = some (r1, r2) := H; have A3 := aS A30; clear A30; by_cases c4 : t449 = 0
 · rw [if_pos c4] at H; have c4b0 : (t449 == 0) = true := beq_iff_eq.mpr c4; have c4b1 : (t449 != 0) = false := bne_eq_false_iff_eq.mpr c4; clear c4; replace H := oB H; obtain ⟨⟨t451, t452⟩, A50, H⟩ := H; replace H : (some (t451, t452)) = some (r1, r2) := H; have A5 := aS A50; clear A50; simp only [Option.some.injEq, Prod.mk.injEq] at H; obtain ⟨rfl, rfl⟩ := H
   go_enter Try.func44, Try.ntmps44
   go_wp2_with (first | ((with_reducible refine gC 45 ?_); refine goS (some 6) Try.func45 #[.pointer (some ⟨g, 0, none⟩), .int .i64 16] ?_; (with_reducible refine (spec_rnd_pick.calls g s0_0 s0_1 16 t449 t450 w0 _ ?side1 ?side2 A3.out).mono ?_); (case side1 => exact tI77); (case side2 => exact tB77); rintro e w6 ⟨rfl, hi, hb, hk⟩; refine ⟨_, rfl, ?_⟩; replace HK := aS (KeepBut.trans tH hk (.inl rfl)); replace HI0 := aS (hi); replace HB := aS (hb); clear hi hb hk) | ((with_reducible refine gC 65 ?_); refine goS (some 9) Try.func65 #[.pointer (some ⟨g, 0, none⟩)] ?_; (with_reducible refine (spec_rnd_odd.calls g s0_0 t450 t451 t452 w0 _ ?side1 ?side2 A5.out).mono ?_); (case side1 => exact tI77); (case side2 => exact tB77); rintro e w7 ⟨rfl, hi, hb, hk⟩; refine ⟨_, rfl, ?_⟩; replace HK := aS (KeepBut.trans tH hk (.inl rfl)); replace HI0 := aS (hi); replace HB := aS (hb); clear hi hb hk))
   go_ret; exact ⟨tE, by repeat (first | (with_reducible first | exact HI0.out | apply IsS77.alloc | apply IsS77.drewN | apply IsS77.drew | apply IsS77.set_1) | exact HI0.out), tB77, tH⟩
 rw [if_neg c4] at H; have c4b0 : (t449 == 0) = false := beq_eq_false_iff_ne.mpr c4; have c4b1 : (t449 != 0) = true := bne_iff_ne.mpr c4; simp only [Option.some.injEq, Prod.mk.injEq] at H; obtain ⟨rfl, rfl⟩ := H
 go_enter Try.func44, Try.ntmps44
 go_wp2_with (first | ((with_reducible refine gC 45 ?_); refine goS (some 6) Try.func45 #[.pointer (some ⟨g, 0, none⟩), .int .i64 16] ?_; (with_reducible refine (spec_rnd_pick.calls g s0_0 s0_1 16 t449 t450 w0 _ ?side1 ?side2 A3.out).mono ?_); (case side1 => exact tI77); (case side2 => exact tB77); rintro e w8 ⟨rfl, hi, hb, hk⟩; refine ⟨_, rfl, ?_⟩; replace HK := aS (KeepBut.trans tH hk (.inl rfl)); replace HI0 := aS (hi); replace HB := aS (hb); clear hi hb hk))
 go_ret; exact ⟨tE, by repeat (first | (with_reducible first | exact HI0.out | apply IsS77.alloc | apply IsS77.drewN | apply IsS77.drew | apply IsS77.set_1) | exact HI0.out), tB77, tH⟩

/-! ### spec_DrawDictSet: function 16 -/
def spec_DrawDictSet.f (k : Nat) (l0 : List Int) : Option (List Int × (List (S56)) × ByteArray × Int) := (spec_newRnd.f l0).bind fun bt454 => ((spec_rnd_dict.f k bt454.1 bt454.2).bind fun bt457 => ((spec_rnd_key.f k bt454.1 bt457.2.2).bind fun bt465 => ((spec_rnd_pick.f bt454.1 bt465.2 99).bind fun bt467 => ((spec_rnd_often.f bt454.1 bt467.2 bt467.1).bind fun bt469 => (some (bt457.1, bt457.2.1, bt465.1, bt469.1))))))
theorem spec_DrawDictSet.mono : ∀ a0 k, LeO (spec_DrawDictSet.f k a0) (spec_DrawDictSet.f (k + 1) a0) := by
 intro a0 k
 unfold spec_DrawDictSet.f
 have m0_ := @spec_rnd_dict.mono; have m1_ := @spec_rnd_key.mono; exact tM
def spec_DrawDictSet.T3 : Bool × List (List Nat × List Nat) := (true, [([], []), ([], []), ([1], [1]), ([], []), ([], []), ([4, 2], [4]), ([3, 5, 5], [3, 5]), ([0, 6, 0], [0]), ([2, 7, 0, 1, 2, 7], [2]), ([6, 8, 0, 1, 2, 3, 4, 5, 6, 7, 8], [6])])
def spec_DrawDictSet.B3 : List Nat := [0, 0, 2, 0, 0, 22, 62, 127, 255, 511]
theorem spec_DrawDictSet.tab3 : rtab .any (opsOf Try.f16 3) = spec_DrawDictSet.T3 := by kernel_rfl
theorem spec_DrawDictSet.bits3 : waitsOk spec_DrawDictSet.T3.2 spec_DrawDictSet.B3 = true := by kernel_rfl
set_option maxHeartbeats 8000000 in
set_option maxRecDepth 100000 in
theorem spec_DrawDictSet.calls (k : Nat) (A0 : Option Addr) (c0 : Nat) (l0 : List Int) (r1 : List Int) (r2 : List (S56)) (r3 : ByteArray) (r4 : Int) (w : World) (hr0 : Kd.C (Kd.int .u8) w A0 l0.length l0) (hc0 : l0.length ≤ c0) (h : spec_DrawDictSet.f k l0 = some (r1, r2, r3, r4)) :
 Calls Try.prog 16 #[.slice A0 l0.length c0] w fun e w' => ∃ v0_ v1_ : Value, e = .returned (.tuple #[.agg #[v0_, v1_], .string r3, .int .i64 r4]) ∧ Kd.R (Kd.int .i64) 3 w' w.heap.size (fun _ => True) v0_ r1 ∧ Kd.R k56 56 w' w.heap.size (fun _ => True) v1_ r2 ∧ Below w.heap.size w w' := by
 have hu26 := Try.underlying26; have HR0 := aS hr0; have HC0 := aS hc0; clear hr0 hc0; have HB := aS (Below.refl w.heap.size w); have H : ((spec_newRnd.f l0).bind fun bt454 => ((spec_rnd_dict.f k bt454.1 bt454.2).bind fun bt457 => ((spec_rnd_key.f k bt454.1 bt457.2.2).bind fun bt465 => ((spec_rnd_pick.f bt454.1 bt465.2 99).bind fun bt467 => ((spec_rnd_often.f bt454.1 bt467.2 bt467.1).bind fun bt469 => (some (bt457.1, bt457.2.1, bt465.1, bt469.1))))))) = some (r1, r2, r3, r4) := h; clear h; replace H := oB H; obtain ⟨⟨t454, t455⟩, A20, H⟩ := H; replace H : ((spec_rnd_dict.f k t454 t455).bind fun bt457 => ((spec_rnd_key.f k t454 bt457.2.2).bind fun bt465 => ((spec_rnd_pick.f t454 bt465.2 99).bind fun bt467 => ((spec_rnd_often.f t454 bt467.2 bt467.1).bind fun bt469 => (some (bt457.1, bt457.2.1, bt465.1, bt469.1)))))) = some (r1, r2, r3, r4) := H; have A2 := aS A20; clear A20; replace H := oB H; obtain ⟨⟨t457, t460, t463⟩, A30, H⟩ := H; replace H : ((spec_rnd_key.f k t454 t463).bind fun bt465 => ((spec_rnd_pick.f t454 bt465.2 99).bind fun bt467 => ((spec_rnd_often.f t454 bt467.2 bt467.1).bind fun bt469 => (some (t457, t460, bt465.1, bt469.1))))) = some (r1, r2, r3, r4) := H; have A3 := aS A30; clear A30; replace H := oB H; obtain ⟨⟨t465, t466⟩, A40, H⟩ := H; replace H : ((spec_rnd_pick.f t454 t466 99).bind fun bt467 => ((spec_rnd_often.f t454 bt467.2 bt467.1).bind fun bt469 => (some (t457, t460, t465, bt469.1)))) = some (r1, r2, r3, r4) := H; have A4 := aS A40; clear A40; replace H := oB H; obtain ⟨⟨t467, t468⟩, A50, H⟩ := H; replace H : ((spec_rnd_often.f t454 t468 t467).bind fun bt469 => (some (t457, t460, t465, bt469.1))) = some (r1, r2, r3, r4) := H; have A5 := aS A50; clear A50; replace H := oB H; obtain ⟨⟨t469, t470⟩, A60, H⟩ := H; replace H : (some (t457, t460, t465, t469)) = some (r1, r2, r3, r4) := H; have A6 := aS A60; clear A60; simp only [Option.some.injEq, Prod.mk.injEq] at H; obtain ⟨rfl, rfl, rfl, rfl⟩ := H
 go_enter Try.func16, Try.ntmps16
 try go_wp2_with (first | ((with_reducible refine gD 2 ?_); refine boxS (N := 2) (cs := #[.slice none 0 0, .slice none 0 0]) (t := 26) ?_; intro gb453 hg w7 hbox hb; have BK453 := aS (hbox); have GW453 := gW (w := w) hg tB; have GE453 := GW453; replace HB := aS (below_step tB hb); clear hb hbox hg) | ((with_reducible refine gC 26 ?_); refine goS (some 8) Try.func26 #[.slice A0 l0.length c0] ?_; (with_reducible refine (spec_newRnd.calls _ _ l0 t454 t455 w _ ?side1 ?side2 ?side3 A2.out).mono ?_); (case side1 => exact tB); (case side2 => exact HR0.out); (case side3 => exact HC0.out); rintro e w8 ⟨g456, rfl, hi, hb, hb2⟩; refine ⟨_, rfl, ?_⟩; have HI456 := aS (hi); have NB456_453 := aS (IsS77.ne_blk hi (blk_below (g := gb453) (o := .cells #[.slice none 0 0, .slice none 0 0] 26 (0, 0)) (tK BK453.out) hb2) (by decide)); have NB453_456 := aS (Ne.symm (IsS77.ne_blk hi (blk_below (g := gb453) (o := .cells #[.slice none 0 0, .slice none 0 0] 26 (0, 0)) (tK BK453.out) hb2) (by decide))); replace BK453 := aS (blk_below (g := gb453) (o := .cells #[.slice none 0 0, .slice none 0 0] 26 (0, 0)) (tK BK453.out) hb2); replace HB := aS (hb); clear hi hb hb2) | ((with_reducible refine gC 27 ?_); refine goS (some 10) Try.func27 #[.pointer (some ⟨g456, 0, none⟩)] ?_; (with_reducible refine (spec_rnd_dict.calls k g456 t454 t455 t457 t460 t463 w _ ?side1 ?side2 A3.out).mono ?_); (case side1 => repeat (first | (with_reducible first | exact HI456.out | apply IsS77.alloc | apply IsS77.drewN | apply IsS77.drew | apply IsS77.set_1 | refine IsS77.far ?_ NB456_453.out _) | exact HI456.out)); (case side2 => repeat (first | (with_reducible first | exact HB.out | apply below_alloc | apply pw_below_drewN | apply below_drew1 | refine below_set ?_ (IsS77.ge HI456.out) | refine below_set ?_ GE453.out) | exact HB.out)); rintro e w9 ⟨v458, v461, rfl, ho0, ho1, hi, hb, hk⟩; refine ⟨_, rfl, ?_⟩; replace BK453 := aS (KeepBut.blk hk (g' := gb453) (o := .cells #[.slice none 0 0, .slice none 0 0] 26 (0, 0)) (tK BK453.out) NB453_456.out (by simp)); have HO459 := aS (Kd.R_lower ho0 (below_size (by repeat (first | (with_reducible first | exact HB.out | apply below_alloc | apply pw_below_drewN | apply below_drew1 | refine below_set ?_ (IsS77.ge HI456.out) | refine below_set ?_ GE453.out) | exact HB.out)))); have HO462 := aS (Kd.R_lower ho1 (below_size (by repeat (first | (with_reducible first | exact HB.out | apply below_alloc | apply pw_below_drewN | apply below_drew1 | refine below_set ?_ (IsS77.ge HI456.out) | refine below_set ?_ GE453.out) | exact HB.out)))); replace HI456 := aS (hi); replace HB := aS (hb); clear ho0 ho1 hi hb hk) | ((with_reducible refine gD 6 ?_); refine boxS (N := 6) (cs := #[.slice none 0 0, .slice none 0 0]) (t := 26) ?_; intro gb464 hg w10 hbox hb; replace HO459 := rB HO459 hb; replace HO462 := rB HO462 hb; have BK464 := aS (hbox); have GW464 := aS ((by rw [hg]; exact (below_size (by repeat (first | (with_reducible first | exact HB.out | apply below_alloc | apply pw_below_drewN | apply below_drew1 | refine below_set ?_ (IsS77.ge HI456.out) | refine below_set ?_ GE453.out) | exact HB.out))) : w.heap.size ≤ gb464)); have GE464 := aS ((by rw [hg]; exact (below_size (by repeat (first | (with_reducible first | exact HB.out | apply below_alloc | apply pw_below_drewN | apply below_drew1 | refine below_set ?_ (IsS77.ge HI456.out) | refine below_set ?_ GE453.out) | exact HB.out))) : w.heap.size ≤ gb464)); have NB453_464 := nL hg BK453; have NB464_453 := nR hg BK453; replace BK453 := bB BK453 hb; have NB456_464 := aS ((by rw [hg]; exact Nat.ne_of_lt (IsS77.lt (show IsS77 w _ g456 t454 t463 from by repeat (first | (with_reducible first | exact HI456.out | apply IsS77.alloc | apply IsS77.drewN | apply IsS77.drew | apply IsS77.set_1 | refine IsS77.far ?_ NB456_453.out _) | exact HI456.out))) : g456 ≠ gb464)); have NB464_456 := aS ((by rw [hg]; exact Nat.ne_of_gt (IsS77.lt (show IsS77 w _ g456 t454 t463 from by repeat (first | (with_reducible first | exact HI456.out | apply IsS77.alloc | apply IsS77.drewN | apply IsS77.drew | apply IsS77.set_1 | refine IsS77.far ?_ NB456_453.out _) | exact HI456.out))) : gb464 ≠ g456)); replace HB := aS (below_step (by repeat (first | (with_reducible first | exact HB.out | apply below_alloc | apply pw_below_drewN | apply below_drew1 | refine below_set ?_ (IsS77.ge HI456.out) | refine below_set ?_ GE453.out) | exact HB.out)) hb); replace HI456 := aS (IsS77.below (by repeat (first | (with_reducible first | exact HI456.out | apply IsS77.alloc | apply IsS77.drewN | apply IsS77.drew | apply IsS77.set_1 | refine IsS77.far ?_ NB456_453.out _) | exact HI456.out)) hb); clear hb hbox hg; obtain ⟨Ao11, co11, eo11⟩ := Kd.R_slice HO459.out; subst eo11; obtain ⟨hnb12, hnc12⟩ := bO NB464_453 NB453_464; obtain ⟨hnb13, hnc13⟩ := bO NB464_456 NB456_464; obtain ⟨hcz14_0, hcz14_1, hfz14_0, hfz14_1⟩ := c2 BK464; obtain ⟨Ao15, co15, eo15⟩ := Kd.R_slice HO462.out; subst eo15))
 have n0_ : Aside0 (Kd.R (Kd.int .i64) 3 ((w10.setCell ⟨gb464, 0, none⟩ (.slice Ao11 t457.length co11)).setCell ⟨gb464, 1, none⟩ (.slice Ao15 t460.length co15)) w.heap.size (fun _ => True) (.slice Ao11 t457.length co11) t457) := ⟨by (with_reducible repeat (first | apply Kd.R_alloc | apply Kd.R_drewN | apply Kd.R_drew)); exact Kd.R_mono (Kd.R_far (p := ⟨gb464, 1, none⟩) (Kd.R_far (p := ⟨gb464, 0, none⟩) (Kd.R_types HO459.out BK464.out (by decide)) (fun _ hk => hk.2) (.slice Ao11 t457.length co11)) (fun _ hk => hk.2) (.slice Ao15 t460.length co15)) (fun _ hk => trivial)⟩; have n1_ : Aside0 (Kd.R k56 56 ((w10.setCell ⟨gb464, 0, none⟩ (.slice Ao11 t457.length co11)).setCell ⟨gb464, 1, none⟩ (.slice Ao15 t460.length co15)) w.heap.size (fun _ => True) (.slice Ao15 t460.length co15) t460) := ⟨by (with_reducible repeat (first | apply Kd.R_alloc | apply Kd.R_drewN | apply Kd.R_drew)); exact Kd.R_mono (Kd.R_far (p := ⟨gb464, 1, none⟩) (Kd.R_far (p := ⟨gb464, 0, none⟩) (Kd.R_types HO462.out BK464.out (by decide)) (fun _ hk => hk.2) (.slice Ao11 t457.length co11)) (fun _ hk => hk.2) (.slice Ao15 t460.length co15)) (fun _ hk => trivial)⟩; have n2_ : Aside0 (((w10.setCell ⟨gb464, 0, none⟩ (.slice Ao11 t457.length co11)).setCell ⟨gb464, 1, none⟩ (.slice Ao15 t460.length co15)).heap[gb453]? = some (.cells #[.slice none 0 0, .slice none 0 0] 26 (0, 0))) := ⟨tZ⟩; have n3_ : Aside0 (((w10.setCell ⟨gb464, 0, none⟩ (.slice Ao11 t457.length co11)).setCell ⟨gb464, 1, none⟩ (.slice Ao15 t460.length co15)).heap[gb464]? = some (.cells #[.slice Ao11 t457.length co11, .slice Ao15 t460.length co15] 26 (0, 0))) := ⟨by (with_reducible repeat (first | refine blk_drewN ?_ _ | refine blk_drew ?_ | refine blk_alloc ?_ _)); refine blk_put (cs := #[.slice Ao11 t457.length co11, .slice none 0 0]) ?_ 1 _ rfl; (with_reducible repeat (first | refine blk_drewN ?_ _ | refine blk_drew ?_ | refine blk_alloc ?_ _)); refine blk_put (cs := #[.slice none 0 0, .slice none 0 0]) ?_ 0 _ rfl; (with_reducible repeat (first | refine blk_drewN ?_ _ | refine blk_drew ?_ | refine blk_alloc ?_ _)); exact BK464.out⟩; have n4_ : Aside0 (IsS77 w ((w10.setCell ⟨gb464, 0, none⟩ (.slice Ao11 t457.length co11)).setCell ⟨gb464, 1, none⟩ (.slice Ao15 t460.length co15)) g456 t454 t463) := ⟨by repeat (first | (with_reducible first | exact HI456.out | apply IsS77.alloc | apply IsS77.drewN | apply IsS77.drew | apply IsS77.set_1 | refine IsS77.far ?_ NB456_453.out _ | refine IsS77.far ?_ NB456_464.out _) | exact HI456.out)⟩; have n5_ : Aside0 (Below w.heap.size w ((w10.setCell ⟨gb464, 0, none⟩ (.slice Ao11 t457.length co11)).setCell ⟨gb464, 1, none⟩ (.slice Ao15 t460.length co15))) := ⟨by repeat (first | (with_reducible first | exact HB.out | apply below_alloc | apply pw_below_drewN | apply below_drew1 | refine below_set ?_ (IsS77.ge HI456.out) | refine below_set ?_ GE453.out | refine below_set ?_ GE464.out) | exact HB.out)⟩; clear HO459 HO462 BK453 BK464 HI456 HB; generalize ((w10.setCell ⟨gb464, 0, none⟩ (.slice Ao11 t457.length co11)).setCell ⟨gb464, 1, none⟩ (.slice Ao15 t460.length co15)) = w16 at n0_ n1_ n2_ n3_ n4_ n5_ ⊢; have HO459 := n0_; have HO462 := n1_; have BK453 := n2_; have BK464 := n3_; have HI456 := n4_; have HB := n5_; clear n0_ n1_ n2_ n3_ n4_ n5_; have n0_ := aS (Kd.R_drew HO459.out); have n1_ := aS (Kd.R_drew HO462.out); have n2_ := aS (blk_drew BK453.out); have n3_ := aS (blk_drew BK464.out); have n4_ := aS (IsS77.drew HI456.out); have n5_ := aS (below_drew1 HB.out); clear HO459; clear HO462; clear BK453; clear BK464; clear HI456; clear HB; have HO459 := n0_; have HO462 := n1_; have BK453 := n2_; have BK464 := n3_; have HI456 := n4_; have HB := n5_; clear n0_ n1_ n2_ n3_ n4_ n5_; refine start_ (n := 10) (S := fun w' => w'.cell? ⟨gb464, 0, none⟩ = some (.slice Ao11 t457.length co11) ∧ w'.cell? ⟨gb464, 1, none⟩ = some (.slice Ao15 t460.length co15)) (ds := []) (.replicate 10 false) (by kernel_rfl) rfl rfl ⟨(blk_cell BK464.out 0).trans rfl, (blk_cell BK464.out 1).trans rfl⟩ (fun hHeld => ?_); refine with_tabW spec_DrawDictSet.tab3 spec_DrawDictSet.bits3 (fun HT_ HW_ => ?_); generalize w16.drew = w17 at HO459 HO462 BK453 BK464 HI456 HB hHeld ⊢; refine pN 1 12 ?_; refine pN 3 14 ?_; refine pN 4 15 ?_; refine tN 0 11 ?_; refine oN 2 13 (fun K hK => ?_); refine goes_ Try.func28 (by kernel_rfl) rfl #[.pointer (some ⟨g456, 0, none⟩)] (by rfl) rfl rfl tA ?_
 with_reducible refine (spec_rnd_key.calls k g456 t454 t463 t465 t466 w _ ?side1 ?side2 A4.out).mono ?_
 (case side1 => repeat (first | (with_reducible first | exact HI456.out | apply IsS77.alloc | apply IsS77.drewN | apply IsS77.drew | apply IsS77.set_1 | refine IsS77.far ?_ NB456_453.out _ | refine IsS77.far ?_ NB456_464.out _) | exact HI456.out))
 (case side2 => repeat (first | (with_reducible first | exact HB.out | apply below_alloc | apply pw_below_drewN | apply below_drew1 | refine below_set ?_ (IsS77.ge HI456.out) | refine below_set ?_ GE453.out | refine below_set ?_ GE464.out) | exact HB.out))
 rintro e w18 ⟨rfl, hi, hb, hk⟩; refine ⟨_, rfl, ?_⟩; have n0_ := aS (KeepBut.blk hk (g' := gb453) (o := .cells #[.slice none 0 0, .slice none 0 0] 26 (0, 0)) (tK BK453.out) NB453_456.out (by simp)); have n1_ := aS (Kd.R_mono (Kd.R_keep (IsS77.apart (show IsS77 w _ g456 t454 t463 from by repeat (first | (with_reducible first | exact HI456.out | apply IsS77.alloc | apply IsS77.drewN | apply IsS77.drew | apply IsS77.set_1 | refine IsS77.far ?_ NB456_453.out _ | refine IsS77.far ?_ NB456_464.out _) | exact HI456.out)) (tR HO459.out) (by decide)) hk (fun _ h => h.2)) (fun _ h => h.1)); have n2_ := aS (Kd.R_mono (Kd.R_keep (IsS77.apart (show IsS77 w _ g456 t454 t463 from by repeat (first | (with_reducible first | exact HI456.out | apply IsS77.alloc | apply IsS77.drewN | apply IsS77.drew | apply IsS77.set_1 | refine IsS77.far ?_ NB456_453.out _ | refine IsS77.far ?_ NB456_464.out _) | exact HI456.out)) (tR HO462.out) (by decide)) hk (fun _ h => h.2)) (fun _ h => h.1)); have n3_ := aS (KeepBut.blk hk (g' := gb464) (o := .cells #[.slice Ao11 t457.length co11, .slice Ao15 t460.length co15] 26 (0, 0)) (tK BK464.out) NB464_456.out (by simp)); have n4_ := aS (hb); have n5_ := aS (hi); clear BK453; clear HO459; clear HO462; clear BK464; clear HB; clear HI456; have BK453 := n0_; have HO459 := n1_; have HO462 := n2_; have BK464 := n3_; have HB := n4_; have HI456 := n5_; clear n0_ n1_ n2_ n3_ n4_ n5_; clear hb hk hi; refine hK.out _ _ ⟨(blk_cell BK464.out 0).trans rfl, (blk_cell BK464.out 1).trans rfl⟩ (fun hHeld => ?_); clear hK K; refine norm_ (a' := ?_) ?_ ?_
 rotate_left
 · show Act.put _ (some 13) _ = _
   simp only [Act.put, List.setIfInBounds_toArray, List.set_cons_zero, List.set_cons_succ, i64_w, i32_w]
   rfl
 refine oN 5 16 (fun K hK => ?_); refine goes_ Try.func45 (by kernel_rfl) rfl #[.pointer (some ⟨g456, 0, none⟩), .int .i64 99] (by rfl) rfl rfl tA ?_
 with_reducible refine (spec_rnd_pick.calls g456 t454 t466 99 t467 t468 w _ ?side1 ?side2 A5.out).mono ?_
 (case side1 => repeat (first | (with_reducible first | exact HI456.out | apply IsS77.alloc | apply IsS77.drewN | apply IsS77.drew | apply IsS77.set_1 | refine IsS77.far ?_ NB456_453.out _ | refine IsS77.far ?_ NB456_464.out _) | exact HI456.out))
 (case side2 => repeat (first | (with_reducible first | exact HB.out | apply below_alloc | apply pw_below_drewN | apply below_drew1 | refine below_set ?_ (IsS77.ge HI456.out) | refine below_set ?_ GE453.out | refine below_set ?_ GE464.out) | exact HB.out))
 rintro e w19 ⟨rfl, hi, hb, hk⟩; refine ⟨_, rfl, ?_⟩; have n0_ := aS (KeepBut.blk hk (g' := gb453) (o := .cells #[.slice none 0 0, .slice none 0 0] 26 (0, 0)) (tK BK453.out) NB453_456.out (by simp)); have n1_ := aS (Kd.R_mono (Kd.R_keep (IsS77.apart (show IsS77 w _ g456 t454 t466 from by repeat (first | (with_reducible first | exact HI456.out | apply IsS77.alloc | apply IsS77.drewN | apply IsS77.drew | apply IsS77.set_1 | refine IsS77.far ?_ NB456_453.out _ | refine IsS77.far ?_ NB456_464.out _) | exact HI456.out)) (tR HO459.out) (by decide)) hk (fun _ h => h.2)) (fun _ h => h.1)); have n2_ := aS (Kd.R_mono (Kd.R_keep (IsS77.apart (show IsS77 w _ g456 t454 t466 from by repeat (first | (with_reducible first | exact HI456.out | apply IsS77.alloc | apply IsS77.drewN | apply IsS77.drew | apply IsS77.set_1 | refine IsS77.far ?_ NB456_453.out _ | refine IsS77.far ?_ NB456_464.out _) | exact HI456.out)) (tR HO462.out) (by decide)) hk (fun _ h => h.2)) (fun _ h => h.1)); have n3_ := aS (KeepBut.blk hk (g' := gb464) (o := .cells #[.slice Ao11 t457.length co11, .slice Ao15 t460.length co15] 26 (0, 0)) (tK BK464.out) NB464_456.out (by simp)); have n4_ := aS (hb); have n5_ := aS (hi); clear BK453; clear HO459; clear HO462; clear BK464; clear HB; clear HI456; have BK453 := n0_; have HO459 := n1_; have HO462 := n2_; have BK464 := n3_; have HB := n4_; have HI456 := n5_; clear n0_ n1_ n2_ n3_ n4_ n5_; clear hb hk hi; refine hK.out _ _ ⟨(blk_cell BK464.out 0).trans rfl, (blk_cell BK464.out 1).trans rfl⟩ (fun hHeld => ?_); clear hK K; refine norm_ (a' := ?_) ?_ ?_
 rotate_left
 · show Act.put _ (some 16) _ = _
   simp only [Act.put, List.setIfInBounds_toArray, List.set_cons_zero, List.set_cons_succ, i64_w, i32_w]
   rfl
 refine oN 6 17 (fun K hK => ?_); refine goes_ Try.func44 (by kernel_rfl) rfl #[.pointer (some ⟨g456, 0, none⟩), .int .i64 t467] (by rfl) rfl rfl tA ?_
 with_reducible refine (spec_rnd_often.calls g456 t454 t468 t467 t469 t470 w _ ?side1 ?side2 A6.out).mono ?_
 (case side1 => repeat (first | (with_reducible first | exact HI456.out | apply IsS77.alloc | apply IsS77.drewN | apply IsS77.drew | apply IsS77.set_1 | refine IsS77.far ?_ NB456_453.out _ | refine IsS77.far ?_ NB456_464.out _) | exact HI456.out))
 (case side2 => repeat (first | (with_reducible first | exact HB.out | apply below_alloc | apply pw_below_drewN | apply below_drew1 | refine below_set ?_ (IsS77.ge HI456.out) | refine below_set ?_ GE453.out | refine below_set ?_ GE464.out) | exact HB.out))
 rintro e w20 ⟨rfl, hi, hb, hk⟩; refine ⟨_, rfl, ?_⟩; have n0_ := aS (KeepBut.blk hk (g' := gb453) (o := .cells #[.slice none 0 0, .slice none 0 0] 26 (0, 0)) (tK BK453.out) NB453_456.out (by simp)); have n1_ := aS (Kd.R_mono (Kd.R_keep (IsS77.apart (show IsS77 w _ g456 t454 t468 from by repeat (first | (with_reducible first | exact HI456.out | apply IsS77.alloc | apply IsS77.drewN | apply IsS77.drew | apply IsS77.set_1 | refine IsS77.far ?_ NB456_453.out _ | refine IsS77.far ?_ NB456_464.out _) | exact HI456.out)) (tR HO459.out) (by decide)) hk (fun _ h => h.2)) (fun _ h => h.1)); have n2_ := aS (Kd.R_mono (Kd.R_keep (IsS77.apart (show IsS77 w _ g456 t454 t468 from by repeat (first | (with_reducible first | exact HI456.out | apply IsS77.alloc | apply IsS77.drewN | apply IsS77.drew | apply IsS77.set_1 | refine IsS77.far ?_ NB456_453.out _ | refine IsS77.far ?_ NB456_464.out _) | exact HI456.out)) (tR HO462.out) (by decide)) hk (fun _ h => h.2)) (fun _ h => h.1)); have n3_ := aS (KeepBut.blk hk (g' := gb464) (o := .cells #[.slice Ao11 t457.length co11, .slice Ao15 t460.length co15] 26 (0, 0)) (tK BK464.out) NB464_456.out (by simp)); have n4_ := aS (hb); have n5_ := aS (hi); clear BK453; clear HO459; clear HO462; clear BK464; clear HB; clear HI456; have BK453 := n0_; have HO459 := n1_; have HO462 := n2_; have BK464 := n3_; have HB := n4_; have HI456 := n5_; clear n0_ n1_ n2_ n3_ n4_ n5_; clear hb hk hi; refine hK.out _ _ ⟨(blk_cell BK464.out 0).trans rfl, (blk_cell BK464.out 1).trans rfl⟩ (fun hHeld => ?_); clear hK K; refine norm_ (a' := ?_) ?_ ?_
 rotate_left
 · show Act.put _ (some 17) _ = _
   simp only [Act.put, List.setIfInBounds_toArray, List.set_cons_zero, List.set_cons_succ, i64_w, i32_w]
   rfl
 refine one_ (i := 7) (N := none) M15_10_ff rfl rfl (one_of HT_.out (by kernel_rfl)) (by decide) (fun K hK => ?_); have hs21 : w20.cell? ⟨gb453, 0, none⟩ = some (.slice none 0 0) := (blk_cell BK453.out 0).trans rfl; have hfs21 := bF BK453 0; have hns21_1 := NB464_453.out; have hms21_1 := NB453_464.out; have hs22 : w20.cell? ⟨gb453, 1, none⟩ = some (.slice none 0 0) := (blk_cell BK453.out 1).trans rfl; have hfs22 := bF BK453 1; have hns22_1 := NB464_453.out; have hms22_1 := NB453_464.out; refine skip_ (w1 := ?_) (by rfl) rfl ?_ ?_
 rotate_left
 · go_simp
   rfl
 refine hK.out _ _ ⟨((cell_far (p := ⟨gb453, _, none⟩) NB464_453.out _).trans (((cell_far (p := ⟨gb453, _, none⟩) NB464_453.out _).trans (hHeld.1)))), ((cell_far (p := ⟨gb453, _, none⟩) NB464_453.out _).trans (((cell_far (p := ⟨gb453, _, none⟩) NB464_453.out _).trans (hHeld.2))))⟩ (fun hHeld => ?_); clear hK K; refine pN 8 3 ?_; refine pN 9 4 ?_; refine dN ?_
 try go_wp2
 refine bodyPost_ret (results_ctt rfl _ _ gb453 26 #[.slice Ao11 t457.length co11, .slice Ao15 t460.length co15] (0, 0) _ rfl tZ Try.underlying26 rfl (by kernel_rfl)) rfl ?_; exact ⟨_, _, tE, by (with_reducible repeat (first | apply Kd.R_alloc | apply Kd.R_drewN | apply Kd.R_drew)); exact Kd.R_mono (Kd.R_far (p := ⟨gb453, 1, none⟩) (Kd.R_far (p := ⟨gb453, 0, none⟩) (Kd.R_types HO459.out BK453.out (by decide)) (fun _ hk => hk.2) (.slice Ao11 t457.length co11)) (fun _ hk => hk.2) (.slice Ao15 t460.length co15)) (fun _ hk => trivial), by (with_reducible repeat (first | apply Kd.R_alloc | apply Kd.R_drewN | apply Kd.R_drew)); exact Kd.R_mono (Kd.R_far (p := ⟨gb453, 1, none⟩) (Kd.R_far (p := ⟨gb453, 0, none⟩) (Kd.R_types HO462.out BK453.out (by decide)) (fun _ hk => hk.2) (.slice Ao11 t457.length co11)) (fun _ hk => hk.2) (.slice Ao15 t460.length co15)) (fun _ hk => trivial), by repeat (first | (with_reducible first | exact HB.out | apply below_alloc | apply pw_below_drewN | apply below_drew1 | refine below_set ?_ (IsS77.ge HI456.out) | refine below_set ?_ GE453.out | refine below_set ?_ GE464.out) | exact HB.out)⟩

/-! ### spec_sameTexts: function 49 -/
def spec_sameTexts.l0 : Nat → List ByteArray → List ByteArray → Int → Option (Bool)
 | 0, _, _, _ => none
 | k + 1, x0, x1, x5 => if x5 < (x0.length : Int) then (if 0 ≤ x5 then (if x5 < (x1.length : Int) then (if (rdOf ByteArray.empty x0 x5).toList = (rdOf ByteArray.empty x1 x5).toList then (spec_sameTexts.l0 k x0 x1 (wrap64 (x5 + 1))) else (some false)) else (none)) else (none)) else (some true)
def spec_sameTexts.f (k : Nat) (l0 : List ByteArray) (l1 : List ByteArray) : Option (Bool) := if (l0.length : Int) = (l1.length : Int) then (spec_sameTexts.l0 k l0 l1 0) else (some false)
theorem spec_sameTexts.mono_l : ∀ k, (∀ y0 y1 y2, LeO (spec_sameTexts.l0 k y0 y1 y2) (spec_sameTexts.l0 (k + 1) y0 y1 y2))
 | 0 => fun _ _ _ r h => by simp [spec_sameTexts.l0] at h
 | k + 1 => by
  have ih0 := spec_sameTexts.mono_l k; intro y0 y1 y2
  unfold spec_sameTexts.l0
  exact tM
theorem spec_sameTexts.mono : ∀ a0 a1 k, LeO (spec_sameTexts.f k a0 a1) (spec_sameTexts.f (k + 1) a0 a1) := by
 intro a0 a1 k; have ih0 := spec_sameTexts.mono_l k
 unfold spec_sameTexts.f
 exact tM
set_option maxHeartbeats 8000000 in
set_option maxRecDepth 100000 in
theorem spec_sameTexts.calls (k : Nat) (A0 : Option Addr) (c0 : Nat) (l0 : List ByteArray) (A1 : Option Addr) (c1 : Nat) (l1 : List ByteArray) (r : Bool) (w : World) (hr0 : Kd.C Kd.string w A0 l0.length l0) (hc0 : l0.length ≤ c0) (hr1 : Kd.C Kd.string w A1 l1.length l1) (hc1 : l1.length ≤ c1) (h : spec_sameTexts.f k l0 l1 = some r) :
 Calls Try.prog 49 #[.slice A0 l0.length c0, .slice A1 l1.length c1] w fun e w' => e = .returned (.bool r) ∧ Drawn0 w w' := by
 have HR0 := aS hr0; have HC0 := aS hc0; clear hr0 hc0; have HR1 := aS hr1; have HC1 := aS hc1; clear hr1 hc1; have H : (if (l0.length : Int) = (l1.length : Int) then (spec_sameTexts.l0 k l0 l1 0) else (some false)) = some r := h; clear h; by_cases c3 : (l0.length : Int) = (l1.length : Int)
 · rw [if_pos c3] at H; have c3b0 : ((l0.length : Int) == (l1.length : Int)) = true := beq_iff_eq.mpr c3; have c3b1 : ((l0.length : Int) != (l1.length : Int)) = false := bne_eq_false_iff_eq.mpr c3; have c3b2 : (l0.length == l1.length) = true := by first | simpa using c3 | (simp at c3 ⊢; omega)
   clear c3; have H' := aS H; clear H
   go_enter Try.func49, Try.ntmps49
   go_wp2
   repeat (go_quiet (fail); try go_wp2)
   go_loopg [5] k (fun kq v5 w' => ∃ (x5_1 : Int), v5 = .int .i64 x5_1 ∧ Aside0 (spec_sameTexts.l0 kq l0 l1 x5_1 = some r) ∧ Aside0 (kq ≤ k) ∧ Drawn0 w w')
   case atStart => exact ⟨(0), tX, H', ⟨Nat.le_refl _⟩, by repeat (first | exact Drawn0.refl _ | apply Drawn0.step)⟩
   case round =>
    clear H'; clear c3b0 c3b1 c3b2; obtain ⟨x5_1, rfl, HA, HK1, ⟨m1, rfl⟩⟩ := hrel
    cases gk with
    | zero => exact absurd HA.out (by simp [spec_sameTexts.l0])
    | succ k1 =>
     have H := HA.out; clear HA; simp only [spec_sameTexts.l0] at H; by_cases c4 : x5_1 < (l0.length : Int)
     · rw [if_pos c4] at H; have c4b0 : decide (x5_1 < (l0.length : Int)) = true := decide_eq_true c4; clear c4; by_cases c5 : 0 ≤ x5_1
       case neg =>
        rw [if_neg c5] at H; exact nS H
       rw [if_pos c5] at H; have c5b0 : decide (0 ≤ x5_1) = true := decide_eq_true c5; clear c5; by_cases c6 : x5_1 < (l1.length : Int)
       case neg =>
        rw [if_neg c6] at H; exact nS H
       rw [if_pos c6] at H; have c6b0 : decide (x5_1 < (l1.length : Int)) = true := decide_eq_true c6; clear c6; by_cases c7 : (rdOf ByteArray.empty l0 x5_1).toList = (rdOf ByteArray.empty l1 x5_1).toList
       · rw [if_pos c7] at H; have c7b0 : ((rdOf ByteArray.empty l0 x5_1).toList == (rdOf ByteArray.empty l1 x5_1).toList) = true := beq_iff_eq.mpr c7; have c7b1 : ((rdOf ByteArray.empty l0 x5_1).toList != (rdOf ByteArray.empty l1 x5_1).toList) = false := bne_eq_false_iff_eq.mpr c7; clear c7; have H' := aS H; clear H; have p471 : 0 ≤ (x5_1 : Int) := of_decide_eq_true tP; have q471 : x5_1 < (l0.length : Int) := of_decide_eq_true tP; obtain ⟨ad471, e471, hx471_0⟩ := Kd.at_string HR0.out x5_1 p471 q471; cases e471; replace p471 := eq_true p471; replace q471 := eq_true q471; have p472 : 0 ≤ (x5_1 : Int) := of_decide_eq_true tP; have q472 : x5_1 < (l1.length : Int) := of_decide_eq_true tP; obtain ⟨ad472, e472, hx472_0⟩ := Kd.at_string HR1.out x5_1 p472 q472; cases e472; replace p472 := eq_true p472; replace q472 := eq_true q472; go_wp2
         repeat (go_quiet (fail); try go_wp2)
         go_roundg k1
         case measure => have := HK1.out; omega
         case rel => exact ⟨(wrap64 (x5_1 + 1)), tX, H', ⟨by have := HK1.out; omega⟩, by repeat (first | exact Drawn0.refl _ | apply Drawn0.step)⟩
       rw [if_neg c7] at H; have c7b0 : ((rdOf ByteArray.empty l0 x5_1).toList == (rdOf ByteArray.empty l1 x5_1).toList) = false := beq_eq_false_iff_ne.mpr c7; have c7b1 : ((rdOf ByteArray.empty l0 x5_1).toList != (rdOf ByteArray.empty l1 x5_1).toList) = true := bne_iff_ne.mpr c7; obtain rfl := oI H; have p471 : 0 ≤ (x5_1 : Int) := of_decide_eq_true tP; have q471 : x5_1 < (l0.length : Int) := of_decide_eq_true tP; obtain ⟨ad471, e471, hx471_0⟩ := Kd.at_string HR0.out x5_1 p471 q471; cases e471; replace p471 := eq_true p471; replace q471 := eq_true q471; have p472 : 0 ≤ (x5_1 : Int) := of_decide_eq_true tP; have q472 : x5_1 < (l1.length : Int) := of_decide_eq_true tP; obtain ⟨ad472, e472, hx472_0⟩ := Kd.at_string HR1.out x5_1 p472 q472; cases e472; replace p472 := eq_true p472; replace q472 := eq_true q472; go_wp2
       repeat (go_quiet (fail); try go_wp2)
       go_ret; exact ⟨by first | rfl | (simp; done) | (simp [*]; done), by repeat (first | exact Drawn0.refl _ | apply Drawn0.step)⟩
     rw [if_neg c4] at H; have c4b0 : decide (x5_1 < (l0.length : Int)) = false := decide_eq_false c4; clear c4; obtain rfl := oI H; go_wp2
     repeat (go_quiet (fail); try go_wp2)
     go_ret; exact ⟨by first | rfl | (simp; done) | (simp [*]; done), by repeat (first | exact Drawn0.refl _ | apply Drawn0.step)⟩
 rw [if_neg c3] at H; have c3b0 : ((l0.length : Int) == (l1.length : Int)) = false := beq_eq_false_iff_ne.mpr c3; have c3b1 : ((l0.length : Int) != (l1.length : Int)) = true := bne_iff_ne.mpr c3; have c3b2 : (l0.length == l1.length) = false := by first | simpa using c3 | (simp at c3 ⊢; omega)
 obtain rfl := oI H
 go_enter Try.func49, Try.ntmps49
 go_wp2
 repeat (go_quiet (fail); try go_wp2)
 go_ret; exact ⟨by first | rfl | (simp; done) | (simp [*]; done), by repeat (first | exact Drawn0.refl _ | apply Drawn0.step)⟩

/-! ### spec_SameTexts: function 18 -/
def spec_SameTexts.f (k : Nat) (l0 : List ByteArray) (l1 : List ByteArray) : Option (Bool) := (spec_sameTexts.f k l0 l1).bind fun t473 => (some t473)
theorem spec_SameTexts.mono : ∀ a0 a1 k, LeO (spec_SameTexts.f k a0 a1) (spec_SameTexts.f (k + 1) a0 a1) := by
 intro a0 a1 k
 unfold spec_SameTexts.f
 have m0_ := @spec_sameTexts.mono; exact tM
set_option maxHeartbeats 8000000 in
set_option maxRecDepth 100000 in
theorem spec_SameTexts.calls (k : Nat) (A0 : Option Addr) (c0 : Nat) (l0 : List ByteArray) (A1 : Option Addr) (c1 : Nat) (l1 : List ByteArray) (r : Bool) (w : World) (hr0 : Kd.C Kd.string w A0 l0.length l0) (hc0 : l0.length ≤ c0) (hr1 : Kd.C Kd.string w A1 l1.length l1) (hc1 : l1.length ≤ c1) (h : spec_SameTexts.f k l0 l1 = some r) :
 Calls Try.prog 18 #[.slice A0 l0.length c0, .slice A1 l1.length c1] w fun e w' => e = .returned (.bool r) ∧ Drawn0 w w' := by
 have HR0 := aS hr0; have HC0 := aS hc0; clear hr0 hc0; have HR1 := aS hr1; have HC1 := aS hc1; clear hr1 hc1; have H : ((spec_sameTexts.f k l0 l1).bind fun t473 => (some t473)) = some r := h; clear h; replace H := oB H; obtain ⟨t473, A30, H⟩ := H; replace H : (some t473) = some r := H; have A3 := aS A30; clear A30; obtain rfl := oI H
 go_enter Try.func18, Try.ntmps18
 go_wp2_with (first | ((with_reducible refine gC 49 ?_); refine goS (some 7) Try.func49 #[.slice A0 l0.length c0, .slice A1 l1.length c1] ?_; (with_reducible refine (spec_sameTexts.calls k _ _ l0 _ _ l1 t473 _ ?side1 ?side2 ?side3 ?side4 A3.out).mono ?_); (case side1 => exact tC HR0.out); (case side2 => exact HC0.out); (case side3 => exact tC HR1.out); (case side4 => exact HC1.out); rintro e w' ⟨rfl, ⟨nd, rfl⟩⟩; refine ⟨_, rfl, ?_⟩))
 go_ret; exact ⟨by first | rfl | (simp; done) | (simp [*]; done), by repeat (first | exact Drawn0.refl _ | apply Drawn0.step)⟩

/-! ### spec_isOne: function 50 -/
def spec_isOne.l0 : Nat → List ByteArray → ByteArray → Int → Option (Bool)
 | 0, _, _, _ => none
 | k + 1, x0, x1, x5 => if x5 < (x0.length : Int) then (if 0 ≤ x5 then (if (rdOf ByteArray.empty x0 x5).toList = x1.toList then (some true) else (spec_isOne.l0 k x0 x1 (wrap64 (x5 + 1)))) else (none)) else (some false)
def spec_isOne.f (k : Nat) (l0 : List ByteArray) (a1 : ByteArray) : Option (Bool) := spec_isOne.l0 k l0 a1 0
theorem spec_isOne.mono_l : ∀ k, (∀ y0 y1 y2, LeO (spec_isOne.l0 k y0 y1 y2) (spec_isOne.l0 (k + 1) y0 y1 y2))
 | 0 => fun _ _ _ r h => by simp [spec_isOne.l0] at h
 | k + 1 => by
  have ih0 := spec_isOne.mono_l k; intro y0 y1 y2
  unfold spec_isOne.l0
  exact tM
theorem spec_isOne.mono : ∀ a0 a1 k, LeO (spec_isOne.f k a0 a1) (spec_isOne.f (k + 1) a0 a1) := by
 intro a0 a1 k; have ih0 := spec_isOne.mono_l k
 unfold spec_isOne.f
 exact tM
set_option maxHeartbeats 8000000 in
set_option maxRecDepth 100000 in
theorem spec_isOne.calls (k : Nat) (A0 : Option Addr) (c0 : Nat) (l0 : List ByteArray) (a1 : ByteArray) (r : Bool) (w : World) (hr0 : Kd.C Kd.string w A0 l0.length l0) (hc0 : l0.length ≤ c0) (h : spec_isOne.f k l0 a1 = some r) :
 Calls Try.prog 50 #[.slice A0 l0.length c0, .string a1] w fun e w' => e = .returned (.bool r) ∧ Drawn0 w w' := by
 have HR0 := aS hr0; have HC0 := aS hc0; clear hr0 hc0; have H : (spec_isOne.l0 k l0 a1 0) = some r := h; clear h; have H' := aS H; clear H
 go_enter Try.func50, Try.ntmps50
 go_wp2
 go_loopg [5] k (fun kq v5 w' => ∃ (x5_1 : Int), v5 = .int .i64 x5_1 ∧ Aside0 (spec_isOne.l0 kq l0 a1 x5_1 = some r) ∧ Aside0 (kq ≤ k) ∧ Drawn0 w w')
 case atStart => exact ⟨(0), tX, H', ⟨Nat.le_refl _⟩, by repeat (first | exact Drawn0.refl _ | apply Drawn0.step)⟩
 case round =>
  clear H'; obtain ⟨x5_1, rfl, HA, HK1, ⟨m1, rfl⟩⟩ := hrel
  cases gk with
  | zero => exact absurd HA.out (by simp [spec_isOne.l0])
  | succ k1 =>
   have H := HA.out; clear HA; simp only [spec_isOne.l0] at H; by_cases c3 : x5_1 < (l0.length : Int)
   · rw [if_pos c3] at H; have c3b0 : decide (x5_1 < (l0.length : Int)) = true := decide_eq_true c3; clear c3; by_cases c4 : 0 ≤ x5_1
     case neg =>
      rw [if_neg c4] at H; exact nS H
     rw [if_pos c4] at H; have c4b0 : decide (0 ≤ x5_1) = true := decide_eq_true c4; clear c4; by_cases c5 : (rdOf ByteArray.empty l0 x5_1).toList = a1.toList
     · rw [if_pos c5] at H; have c5b0 : ((rdOf ByteArray.empty l0 x5_1).toList == a1.toList) = true := beq_iff_eq.mpr c5; have c5b1 : ((rdOf ByteArray.empty l0 x5_1).toList != a1.toList) = false := bne_eq_false_iff_eq.mpr c5; clear c5; obtain rfl := oI H; have p474 : 0 ≤ (x5_1 : Int) := of_decide_eq_true tP; have q474 : x5_1 < (l0.length : Int) := of_decide_eq_true tP; obtain ⟨ad474, e474, hx474_0⟩ := Kd.at_string HR0.out x5_1 p474 q474; cases e474; replace p474 := eq_true p474; replace q474 := eq_true q474; go_wp2; go_ret; exact ⟨by first | rfl | (simp; done) | (simp [*]; done), by repeat (first | exact Drawn0.refl _ | apply Drawn0.step)⟩
     rw [if_neg c5] at H; have c5b0 : ((rdOf ByteArray.empty l0 x5_1).toList == a1.toList) = false := beq_eq_false_iff_ne.mpr c5; have c5b1 : ((rdOf ByteArray.empty l0 x5_1).toList != a1.toList) = true := bne_iff_ne.mpr c5; have H' := aS H; clear H; have p474 : 0 ≤ (x5_1 : Int) := of_decide_eq_true tP; have q474 : x5_1 < (l0.length : Int) := of_decide_eq_true tP; obtain ⟨ad474, e474, hx474_0⟩ := Kd.at_string HR0.out x5_1 p474 q474; cases e474; replace p474 := eq_true p474; replace q474 := eq_true q474; go_wp2; go_roundg k1
     case measure => have := HK1.out; omega
     case rel => exact ⟨(wrap64 (x5_1 + 1)), tX, H', ⟨by have := HK1.out; omega⟩, by repeat (first | exact Drawn0.refl _ | apply Drawn0.step)⟩
   rw [if_neg c3] at H; have c3b0 : decide (x5_1 < (l0.length : Int)) = false := decide_eq_false c3; clear c3; obtain rfl := oI H; go_wp2; go_ret; exact ⟨by first | rfl | (simp; done) | (simp [*]; done), by repeat (first | exact Drawn0.refl _ | apply Drawn0.step)⟩

/-! ### spec_IsOne: function 19 -/
def spec_IsOne.f (k : Nat) (l0 : List ByteArray) (a1 : ByteArray) : Option (Bool) := (spec_isOne.f k l0 a1).bind fun t475 => (some t475)
theorem spec_IsOne.mono : ∀ a0 a1 k, LeO (spec_IsOne.f k a0 a1) (spec_IsOne.f (k + 1) a0 a1) := by
 intro a0 a1 k
 unfold spec_IsOne.f
 have m0_ := @spec_isOne.mono; exact tM
set_option maxHeartbeats 8000000 in
set_option maxRecDepth 100000 in
theorem spec_IsOne.calls (k : Nat) (A0 : Option Addr) (c0 : Nat) (l0 : List ByteArray) (a1 : ByteArray) (r : Bool) (w : World) (hr0 : Kd.C Kd.string w A0 l0.length l0) (hc0 : l0.length ≤ c0) (h : spec_IsOne.f k l0 a1 = some r) :
 Calls Try.prog 19 #[.slice A0 l0.length c0, .string a1] w fun e w' => e = .returned (.bool r) ∧ Drawn0 w w' := by
 have HR0 := aS hr0; have HC0 := aS hc0; clear hr0 hc0; have H : ((spec_isOne.f k l0 a1).bind fun t475 => (some t475)) = some r := h; clear h; replace H := oB H; obtain ⟨t475, A30, H⟩ := H; replace H : (some t475) = some r := H; have A3 := aS A30; clear A30; obtain rfl := oI H
 go_enter Try.func19, Try.ntmps19
 go_wp2_with (first | ((with_reducible refine gC 50 ?_); refine goS (some 7) Try.func50 #[.slice A0 l0.length c0, .string a1] ?_; (with_reducible refine (spec_isOne.calls k _ _ l0 a1 t475 _ ?side1 ?side2 A3.out).mono ?_); (case side1 => exact tC HR0.out); (case side2 => exact HC0.out); rintro e w' ⟨rfl, ⟨nd, rfl⟩⟩; refine ⟨_, rfl, ?_⟩))
 go_ret; exact ⟨by first | rfl | (simp; done) | (simp [*]; done), by repeat (first | exact Drawn0.refl _ | apply Drawn0.step)⟩

end Go.Proofs.Ytihcollncjcpgaa.P
