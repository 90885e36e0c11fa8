/- Contracts of the Go functions that the seat's laws reach, one after the other: the machine's call comes to what the plain Lean function beside it says; no conditions but those that each contract names. Laid by this session's program wip/pp.py, which drives the kit's printer. -/
import Derived.Test.YtihcollncjcpgaaEx0
import Derived.Test.YtihcollncjcpgaaEx9
import Derived.Test.YtihcollncjcpgaaEHandA
namespace Go.Proofs.Ytihcollncjcpgaa.E
open Go.RowKit Go.Proofs.YtihcollncjcpgaaW.PrintWords Go.Proofs.YtihcollncjcpgaaW.PrintLast Go.Proofs.YtihcollncjcpgaaW.PrintMore
attribute [local go_sem] max2_int min2_int max_two min_two max_three min_three max_four min_four   -- for this text's walks alone
set_option linter.unusedVariables false
set_option linter.unusedSimpArgs false
abbrev M11_8_ff : Array Bool := bN_ 8 255

/-! ### impl_Dict_clone: function 29 -/
def impl_Dict_clone.f (l0_0 : List Int) (l0_1 : List (S56)) : Option (List Int × (List (S56))) := (slices_Clone_int.f l0_0).bind fun t271 => ((slices_Clone_Entry.f l0_1).bind fun t274 => (some (t271, t274)))
def impl_Dict_clone.T1 : Bool × List (List Nat × List Nat) := (true, [([], []), ([0], [0]), ([1], [1]), ([], []), ([3], [3]), ([4, 2], [4]), ([2, 5], [2, 5]), ([6, 5, 0, 1, 2, 3, 4, 5, 6], [6])])
def impl_Dict_clone.B1 : List Nat := [0, 1, 3, 0, 8, 31, 63, 127]
theorem impl_Dict_clone.tab1 : rtab .any (opsOf Try.f29 1) = impl_Dict_clone.T1 := by kernel_rfl
theorem impl_Dict_clone.bits1 : waitsOk impl_Dict_clone.T1.2 impl_Dict_clone.B1 = true := by kernel_rfl
set_option maxHeartbeats 8000000 in
set_option maxRecDepth 100000 in
theorem impl_Dict_clone.calls (A0_0 : Option Addr) (c0_0 : Nat) (l0_0 : List Int) (A0_1 : Option Addr) (c0_1 : Nat) (l0_1 : List (S56)) (r1 : List Int) (r2 : List (S56)) (w : World) (hr0_0 : Kd.C (Kd.int .i64) w A0_0 l0_0.length l0_0) (hc0_0 : l0_0.length ≤ c0_0) (hr0_1 : Kd.C k56 w A0_1 l0_1.length l0_1) (hc0_1 : l0_1.length ≤ c0_1) (h : impl_Dict_clone.f l0_0 l0_1 = some (r1, r2)) :
 Calls Try.prog 29 #[.agg #[.slice A0_0 l0_0.length c0_0, .slice A0_1 l0_1.length c0_1]] w fun e w' => ∃ v0_ v1_ : Value, e = .returned (.agg #[v0_, v1_]) ∧ Kd.R (Kd.int .i64) 3 w' w.heap.size (fun _ => True) v0_ r1 ∧ Kd.R k56 56 w' w.heap.size (fun _ => True) v1_ r2 ∧ Below w.heap.size w w' := by
 have hu26 := Try.underlying26; have HR0_0 := aS hr0_0; have HC0_0 := aS hc0_0; clear hr0_0 hc0_0; have HR0_1 := aS hr0_1; have HC0_1 := aS hc0_1; clear hr0_1 hc0_1; have HB := aS (Below.refl w.heap.size w); have H : ((slices_Clone_int.f l0_0).bind fun t271 => ((slices_Clone_Entry.f l0_1).bind fun t274 => (some (t271, t274)))) = some (r1, r2) := h; clear h; replace H := oB H; obtain ⟨t271, A20, H⟩ := H; replace H : ((slices_Clone_Entry.f l0_1).bind fun t274 => (some (t271, t274))) = some (r1, r2) := H; have A2 := aS A20; clear A20; replace H := oB H; obtain ⟨t274, A30, H⟩ := H; replace H : (some (t271, t274)) = some (r1, r2) := H; have A3 := aS A30; clear A30; simp only [Option.some.injEq, Prod.mk.injEq] at H; obtain ⟨rfl, rfl⟩ := H
 go_enter Try.func29, Try.ntmps29
 try go_wp2_with (first | ((with_reducible refine gD 1 ?_); refine boxS (N := 1) (cs := #[.slice A0_0 l0_0.length c0_0, .slice A0_1 l0_1.length c0_1]) (t := 26) ?_; intro gb269 hg w4 hbox hb; have BK269 := aS (hbox); have GW269 := gW (w := w) hg tB; have GE269 := GW269; replace HB := aS (below_step tB hb); clear hb hbox hg) | ((with_reducible refine gD 2 ?_); refine boxS (N := 2) (cs := #[.slice none 0 0, .slice none 0 0]) (t := 26) ?_; intro gb270 hg w5 hbox hb; have BK270 := aS (hbox); have GW270 := gW (w := w) hg tB; have GE270 := GW270; have NB269_270 := nL hg BK269; have NB270_269 := nR hg BK269; replace BK269 := bB BK269 hb; replace HB := aS (below_step tB hb); clear hb hbox hg))
 have n0_ := aS (blk_drew BK269.out); have n1_ := aS (blk_drew BK270.out); have n2_ := aS (below_drew1 HB.out); clear BK269; clear BK270; clear HB; have BK269 := n0_; have BK270 := n1_; have HB := n2_; clear n0_ n1_ n2_; refine start_ (n := 8) (S := fun w' => w'.cell? ⟨gb269, 0, none⟩ = some (.slice A0_0 l0_0.length c0_0) ∧ w'.cell? ⟨gb269, 1, none⟩ = some (.slice A0_1 l0_1.length c0_1)) (ds := []) (.replicate 8 false) (by kernel_rfl) rfl rfl ⟨(blk_cell BK269.out 0).trans rfl, (blk_cell BK269.out 1).trans rfl⟩ (fun hHeld => ?_); refine with_tabW impl_Dict_clone.tab1 impl_Dict_clone.bits1 (fun HT_ HW_ => ?_); generalize w5.drew = w6 at BK269 BK270 HB hHeld ⊢; refine pN 0 3 ?_; refine pN 3 6 ?_; refine tN 1 4 ?_; refine tN 4 7 ?_; refine oN 2 5 (fun K hK => ?_); refine goes_ Try.func66 (by kernel_rfl) rfl #[.slice A0_0 l0_0.length c0_0] (by rfl) rfl rfl tA ?_
 with_reducible refine (slices_Clone_int.calls _ _ l0_0 t271 _ ?side1 ?side2 A2.out).mono ?_
 (case side1 => exact tC (Kd.C_below HR0_0.out HB.out))
 (case side2 => exact HC0_0.out)
 rintro e w7 ⟨v272, rfl, ho0, hb⟩; refine ⟨_, rfl, ?_⟩; have n0_ := aS (Kd.R_lower ho0 (below_size tB)); have n1_ := bB BK269 hb; have n2_ := bB BK270 hb; have n3_ := aS (below_step tB hb); clear BK269; clear BK270; clear HB; have HO273 := n0_; have BK269 := n1_; have BK270 := n2_; have HB := n3_; clear n0_ n1_ n2_ n3_; clear hb ho0; refine hK.out _ _ ⟨(blk_cell BK269.out 0).trans rfl, (blk_cell BK269.out 1).trans rfl⟩ (fun hHeld => ?_); clear hK K; refine norm_ (a' := ?_) ?_ ?_
 rotate_left
 · show Act.put _ (some 5) _ = _
   simp only [Act.put, List.setIfInBounds_toArray, List.set_cons_zero, List.set_cons_succ, i64_w, i32_w]
   rfl
 refine oN 5 8 (fun K hK => ?_); refine goes_ Try.func67 (by kernel_rfl) rfl #[.slice A0_1 l0_1.length c0_1] (by rfl) rfl rfl tA ?_
 with_reducible refine (slices_Clone_Entry.calls _ _ l0_1 t274 _ ?side1 ?side2 A3.out).mono ?_
 (case side1 => exact tC (Kd.C_below HR0_1.out HB.out))
 (case side2 => exact HC0_1.out)
 rintro e w8 ⟨v275, rfl, ho0, hb⟩; refine ⟨_, rfl, ?_⟩; have n0_ := rB HO273 hb; have n1_ := aS (Kd.R_lower ho0 (below_size tB)); have n2_ := bB BK269 hb; have n3_ := bB BK270 hb; have n4_ := aS (below_step tB hb); clear HO273; clear BK269; clear BK270; clear HB; have HO273 := n0_; have HO276 := n1_; have BK269 := n2_; have BK270 := n3_; have HB := n4_; clear n0_ n1_ n2_ n3_ n4_; clear hb ho0; obtain ⟨Ao9, co9, eo9⟩ := Kd.R_slice HO276.out
 (first | subst eo9 | (injection eo9 with f1_ f2_ f3_; have f4_ := f1_.symm; have f5_ := f3_.symm; clear f1_ f2_ f3_; subst f4_; subst f5_))
 obtain ⟨Ao10, co10, eo10⟩ := Kd.R_slice HO273.out
 (first | subst eo10 | (injection eo10 with f1_ f2_ f3_; have f4_ := f1_.symm; have f5_ := f3_.symm; clear f1_ f2_ f3_; subst f4_; subst f5_))
 refine hK.out _ _ ⟨(blk_cell BK269.out 0).trans rfl, (blk_cell BK269.out 1).trans rfl⟩ (fun hHeld => ?_); clear hK K; refine norm_ (a' := ?_) ?_ ?_
 rotate_left
 · show Act.put _ (some 8) _ = _
   simp only [Act.put, List.setIfInBounds_toArray, List.set_cons_zero, List.set_cons_succ, i64_w, i32_w]
   rfl
 refine pN 6 9 ?_; refine one_ (i := 7) (N := none) M11_8_ff rfl rfl (one_of HT_.out (by kernel_rfl)) (by decide) (fun K hK => ?_); have hs11 : w8.cell? ⟨gb270, 0, none⟩ = some (.slice none 0 0) := (blk_cell BK270.out 0).trans rfl; have hfs11 := bF BK270 0; have hns11_0 := NB269_270.out; have hms11_0 := NB270_269.out; have hs12 : w8.cell? ⟨gb270, 1, none⟩ = some (.slice none 0 0) := (blk_cell BK270.out 1).trans rfl; have hfs12 := bF BK270 1; have hns12_0 := NB269_270.out; have hms12_0 := NB270_269.out; refine skip_ (w1 := ?_) (by rfl) rfl ?_ ?_
 rotate_left
 · go_simp
   rfl
 refine hK.out _ _ ⟨((cell_far (p := ⟨gb270, _, none⟩) NB269_270.out _).trans (((cell_far (p := ⟨gb270, _, none⟩) NB269_270.out _).trans (hHeld.1)))), ((cell_far (p := ⟨gb270, _, none⟩) NB269_270.out _).trans (((cell_far (p := ⟨gb270, _, none⟩) NB269_270.out _).trans (hHeld.2))))⟩ (fun hHeld => ?_); clear hK K; refine dN ?_
 try go_wp2
 refine bodyPost_ret (results_cell_row rfl _ _ gb270 26 #[.slice Ao10 t271.length co10, .slice Ao9 t274.length co9] (0, 0) _ rfl tZ Try.underlying26 rfl (by kernel_rfl)) rfl ?_; exact ⟨_, _, tE, by (with_reducible repeat (first | apply Kd.R_alloc | apply Kd.R_drewN | apply Kd.R_drew)); exact Kd.R_mono (Kd.R_far (p := ⟨gb270, 1, none⟩) (Kd.R_far (p := ⟨gb270, 0, none⟩) (Kd.R_types HO273.out BK270.out (by decide)) (fun _ hk => hk.2) (.slice Ao10 t271.length co10)) (fun _ hk => hk.2) (.slice Ao9 t274.length co9)) (fun _ hk => trivial), by (with_reducible repeat (first | apply Kd.R_alloc | apply Kd.R_drewN | apply Kd.R_drew)); exact Kd.R_mono (Kd.R_far (p := ⟨gb270, 1, none⟩) (Kd.R_far (p := ⟨gb270, 0, none⟩) (Kd.R_types HO276.out BK270.out (by decide)) (fun _ hk => hk.2) (.slice Ao10 t271.length co10)) (fun _ hk => hk.2) (.slice Ao9 t274.length co9)) (fun _ hk => trivial), tB⟩

/-! ### impl_Dict_find: function 37 -/
def impl_Dict_find.f (k : Nat) (l0_0 : List Int) (l0_1 : List (S56)) (a1 : ByteArray) : Option (Int) := (impl_Dict_probe.f k l0_0 l0_1 a1).bind fun t278 => (if 0 ≤ (wrap64 ((t278.length : Int) - 1)) then (if (wrap64 ((t278.length : Int) - 1)) < (t278.length : Int) then (if 0 ≤ (rd t278 (wrap64 ((t278.length : Int) - 1))) then (if (rd t278 (wrap64 ((t278.length : Int) - 1))) < (l0_0.length : Int) then (some (mx (rd l0_0 (rd t278 (wrap64 ((t278.length : Int) - 1)))) (-1))) else (none)) else (none)) else (none)) else (none))
theorem impl_Dict_find.mono : ∀ a0 a1 a2 k, LeO (impl_Dict_find.f k a0 a1 a2) (impl_Dict_find.f (k + 1) a0 a1 a2) := by
 intro a0 a1 a2 k
 unfold impl_Dict_find.f
 have m0_ := @impl_Dict_probe.mono; exact tM
set_option maxHeartbeats 8000000 in
set_option maxRecDepth 100000 in
theorem impl_Dict_find.calls (k : Nat) (A0_0 : Option Addr) (c0_0 : Nat) (l0_0 : List Int) (A0_1 : Option Addr) (c0_1 : Nat) (l0_1 : List (S56)) (a1 : ByteArray) (r : Int) (w : World) (hr0_0 : Kd.C (Kd.int .i64) w A0_0 l0_0.length l0_0) (hc0_0 : l0_0.length ≤ c0_0) (hr0_1 : Kd.C k56 w A0_1 l0_1.length l0_1) (hc0_1 : l0_1.length ≤ c0_1) (h : impl_Dict_find.f k l0_0 l0_1 a1 = some r) :
 Calls Try.prog 37 #[.agg #[.slice A0_0 l0_0.length c0_0, .slice A0_1 l0_1.length c0_1], .string a1] w fun e w' => e = .returned (.int .i64 r) ∧ Below w.heap.size w w' := by
 have hu26 := Try.underlying26; have HR0_0 := aS hr0_0; have HC0_0 := aS hc0_0; clear hr0_0 hc0_0; have HR0_1 := aS hr0_1; have HC0_1 := aS hc0_1; clear hr0_1 hc0_1; have HB := aS (Below.refl w.heap.size w); have H : ((impl_Dict_probe.f k l0_0 l0_1 a1).bind fun t278 => (if 0 ≤ (wrap64 ((t278.length : Int) - 1)) then (if (wrap64 ((t278.length : Int) - 1)) < (t278.length : Int) then (if 0 ≤ (rd t278 (wrap64 ((t278.length : Int) - 1))) then (if (rd t278 (wrap64 ((t278.length : Int) - 1))) < (l0_0.length : Int) then (some (mx (rd l0_0 (rd t278 (wrap64 ((t278.length : Int) - 1)))) (-1))) else (none)) else (none)) else (none)) else (none))) = some r := h; clear h; replace H := oB H; obtain ⟨t278, A30, H⟩ := H; replace H : (if 0 ≤ (wrap64 ((t278.length : Int) - 1)) then (if (wrap64 ((t278.length : Int) - 1)) < (t278.length : Int) then (if 0 ≤ (rd t278 (wrap64 ((t278.length : Int) - 1))) then (if (rd t278 (wrap64 ((t278.length : Int) - 1))) < (l0_0.length : Int) then (some (mx (rd l0_0 (rd t278 (wrap64 ((t278.length : Int) - 1)))) (-1))) else (none)) else (none)) else (none)) else (none)) = some r := H; have A3 := aS A30; clear A30; obtain ⟨ji4, hji4⟩ : ∃ j_ : Int, (wrap64 ((t278.length : Int) - 1)) = j_ := ⟨_, rfl⟩
 replace H : (if 0 ≤ (ji4) then (if (ji4) < (t278.length : Int) then (if 0 ≤ (rd t278 (ji4)) then (if (rd t278 (ji4)) < (l0_0.length : Int) then (some (mx (rd l0_0 (rd t278 (ji4))) (-1))) else (none)) else (none)) else (none)) else (none)) = some r := by first | (rw [hji4] at H; exact H) | (simp only [hji4] at H ⊢; exact H)
 (try rw [hji4] at A3)
 have hji4w : (IntKind.i64.wrap ((t278.length : Int) - 1)) = ji4 := (i64_w _).trans hji4; by_cases c5 : 0 ≤ (ji4)
 · rw [if_pos c5] at H; have c5b0 : decide (0 ≤ (ji4)) = true := decide_eq_true c5; clear c5; by_cases c6 : (ji4) < (t278.length : Int)
   case neg =>
    rw [if_neg c6] at H; exact nS H
   rw [if_pos c6] at H; have c6b0 : decide ((ji4) < (t278.length : Int)) = true := decide_eq_true c6; clear c6; by_cases c7 : 0 ≤ (rd t278 (ji4))
   case neg =>
    rw [if_neg c7] at H; exact nS H
   rw [if_pos c7] at H; have c7b0 : decide (0 ≤ (rd t278 (ji4))) = true := decide_eq_true c7; clear c7; by_cases c8 : (rd t278 (ji4)) < (l0_0.length : Int)
   case neg =>
    rw [if_neg c8] at H; exact nS H
   rw [if_pos c8] at H; have c8b0 : decide ((rd t278 (ji4)) < (l0_0.length : Int)) = true := decide_eq_true c8; clear c8; obtain ⟨ji9, hji9⟩ : ∃ j_ : Int, (mx (rd l0_0 (rd t278 (ji4))) (-1)) = j_ := ⟨_, rfl⟩
   replace H : (some ji9) = some r := by first | (rw [hji9] at H; exact H) | (simp only [hji9] at H ⊢; exact H)
   (try rw [hji9] at A3)
   have hji9_ : (if (rd l0_0 (rd t278 (ji4))) < (-1) then (-1) else (rd l0_0 (rd t278 (ji4)))) = ji9 := hji9; obtain rfl := oI H
   go_enter Try.func37, Try.ntmps37
   go_wp2_with (first | ((with_reducible refine gD 2 ?_); refine boxS (N := 2) (cs := #[.slice A0_0 l0_0.length c0_0, .slice A0_1 l0_1.length c0_1]) (t := 26) ?_; intro gb277 hg w10 hbox hb; have BK277 := aS (hbox); have GW277 := gW (w := w) hg tB; have GE277 := GW277; replace HB := aS (below_step tB hb); clear hb hbox hg; have hcz11_0 := cA BK277 0; have hcz11_1 := cA BK277 1; have hfz11_0 := bF BK277 0; have hfz11_1 := bF BK277 1) | (go_at_call 30; (with_reducible refine (impl_Dict_probe.calls k _ _ l0_0 _ _ l0_1 a1 t278 _ ?side1 ?side2 ?side3 ?side4 A3.out).mono ?_); (case side1 => exact tC (Kd.C_below HR0_0.out HB.out)); (case side2 => exact HC0_0.out); (case side3 => exact tC (Kd.C_below HR0_1.out HB.out)); (case side4 => exact HC0_1.out); rintro e w12 ⟨v279, rfl, ho0, hb⟩; have HO280 := aS (Kd.R_lower ho0 (below_size tB)); replace BK277 := bB BK277 hb; replace HB := aS (below_step tB hb); obtain ⟨hcz13_0, hcz13_1, hfz13_0, hfz13_1⟩ := c2 BK277; obtain ⟨Ao14, co14, eo14⟩ := Kd.R_slice HO280.out; subst eo14; have p281 : 0 ≤ ((ji4) : Int) := of_decide_eq_true tP; have q281 : (ji4) < (t278.length : Int) := of_decide_eq_true tP; obtain ⟨ad281, e281, hx281_0⟩ := Kd.at_int (Kd.R_reads' HO280.out).2.2 (ji4) p281 q281; cases e281; replace p281 := eq_true p281; replace q281 := eq_true q281; have p282 : 0 ≤ ((rd t278 (ji4)) : Int) := of_decide_eq_true tP; have q282 : (rd t278 (ji4)) < (l0_0.length : Int) := of_decide_eq_true tP; obtain ⟨ad282, e282, hx282_0⟩ := Kd.at_int HR0_0.out (rd t278 (ji4)) p282 q282; cases e282; replace hx282_0 := cB HB hx282_0; replace p282 := eq_true p282; replace q282 := eq_true q282; clear ho0 hb))
   repeat (go_quiet (first | ((with_reducible refine gD 2 ?_); refine boxS (N := 2) (cs := #[.slice A0_0 l0_0.length c0_0, .slice A0_1 l0_1.length c0_1]) (t := 26) ?_; intro gb277 hg w10 hbox hb; have BK277 := aS (hbox); have GW277 := gW (w := w) hg tB; have GE277 := GW277; replace HB := aS (below_step tB hb); clear hb hbox hg; have hcz11_0 := cA BK277 0; have hcz11_1 := cA BK277 1; have hfz11_0 := bF BK277 0; have hfz11_1 := bF BK277 1) | (go_at_call 30; (with_reducible refine (impl_Dict_probe.calls k _ _ l0_0 _ _ l0_1 a1 t278 _ ?side1 ?side2 ?side3 ?side4 A3.out).mono ?_); (case side1 => exact tC (Kd.C_below HR0_0.out HB.out)); (case side2 => exact HC0_0.out); (case side3 => exact tC (Kd.C_below HR0_1.out HB.out)); (case side4 => exact HC0_1.out); rintro e w12 ⟨v279, rfl, ho0, hb⟩; have HO280 := aS (Kd.R_lower ho0 (below_size tB)); replace BK277 := bB BK277 hb; replace HB := aS (below_step tB hb); obtain ⟨hcz13_0, hcz13_1, hfz13_0, hfz13_1⟩ := c2 BK277; obtain ⟨Ao14, co14, eo14⟩ := Kd.R_slice HO280.out; subst eo14; have p281 : 0 ≤ ((ji4) : Int) := of_decide_eq_true tP; have q281 : (ji4) < (t278.length : Int) := of_decide_eq_true tP; obtain ⟨ad281, e281, hx281_0⟩ := Kd.at_int (Kd.R_reads' HO280.out).2.2 (ji4) p281 q281; cases e281; replace p281 := eq_true p281; replace q281 := eq_true q281; have p282 : 0 ≤ ((rd t278 (ji4)) : Int) := of_decide_eq_true tP; have q282 : (rd t278 (ji4)) < (l0_0.length : Int) := of_decide_eq_true tP; obtain ⟨ad282, e282, hx282_0⟩ := Kd.at_int HR0_0.out (rd t278 (ji4)) p282 q282; cases e282; replace hx282_0 := cB HB hx282_0; replace p282 := eq_true p282; replace q282 := eq_true q282; clear ho0 hb)); try go_wp2_with (first | ((with_reducible refine gD 2 ?_); refine boxS (N := 2) (cs := #[.slice A0_0 l0_0.length c0_0, .slice A0_1 l0_1.length c0_1]) (t := 26) ?_; intro gb277 hg w10 hbox hb; have BK277 := aS (hbox); have GW277 := gW (w := w) hg tB; have GE277 := GW277; replace HB := aS (below_step tB hb); clear hb hbox hg; have hcz11_0 := cA BK277 0; have hcz11_1 := cA BK277 1; have hfz11_0 := bF BK277 0; have hfz11_1 := bF BK277 1) | (go_at_call 30; (with_reducible refine (impl_Dict_probe.calls k _ _ l0_0 _ _ l0_1 a1 t278 _ ?side1 ?side2 ?side3 ?side4 A3.out).mono ?_); (case side1 => exact tC (Kd.C_below HR0_0.out HB.out)); (case side2 => exact HC0_0.out); (case side3 => exact tC (Kd.C_below HR0_1.out HB.out)); (case side4 => exact HC0_1.out); rintro e w12 ⟨v279, rfl, ho0, hb⟩; have HO280 := aS (Kd.R_lower ho0 (below_size tB)); replace BK277 := bB BK277 hb; replace HB := aS (below_step tB hb); obtain ⟨hcz13_0, hcz13_1, hfz13_0, hfz13_1⟩ := c2 BK277; obtain ⟨Ao14, co14, eo14⟩ := Kd.R_slice HO280.out; subst eo14; have p281 : 0 ≤ ((ji4) : Int) := of_decide_eq_true tP; have q281 : (ji4) < (t278.length : Int) := of_decide_eq_true tP; obtain ⟨ad281, e281, hx281_0⟩ := Kd.at_int (Kd.R_reads' HO280.out).2.2 (ji4) p281 q281; cases e281; replace p281 := eq_true p281; replace q281 := eq_true q281; have p282 : 0 ≤ ((rd t278 (ji4)) : Int) := of_decide_eq_true tP; have q282 : (rd t278 (ji4)) < (l0_0.length : Int) := of_decide_eq_true tP; obtain ⟨ad282, e282, hx282_0⟩ := Kd.at_int HR0_0.out (rd t278 (ji4)) p282 q282; cases e282; replace hx282_0 := cB HB hx282_0; replace p282 := eq_true p282; replace q282 := eq_true q282; clear ho0 hb)))
   go_ret; exact ⟨by first | rfl | (simp [errW_none, errW_some] <;> rfl) | (simp only [← hji4, ← hji9]; first | rfl | (simp [errW_none, errW_some] <;> rfl)) | (simp [*, errW_none, errW_some] <;> rfl), tB⟩
 rw [if_neg c5] at H; exact nS H

/-! ### impl_emptySlots: function 71 -/
def impl_emptySlots.l0 : Nat → List Int → Int → Int → Option (List Int)
 | 0, _, _, _ => none
 | k + 1, x3, x8, x9 => if x9 < x8 then (if 0 ≤ x9 then (if x9 < (x3.length : Int) then (impl_emptySlots.l0 k (x3.set (x9 : Int).toNat (-1)) x8 (wrap64 (x9 + 1))) else (none)) else (none)) else (some x3)
def impl_emptySlots.f (k : Nat) (a0 : Int) : Option (List Int) := if 0 ≤ a0 then (if (a0 : Int).toNat ≤ 35184372088832 then ((some (List.replicate (a0 : Int).toNat 0 : List Int)).bind fun y283 => (impl_emptySlots.l0 k y283 (y283.length : Int) 0)) else (none)) else (none)
theorem impl_emptySlots.mono_l : ∀ k, (∀ y0 y1 y2, LeO (impl_emptySlots.l0 k y0 y1 y2) (impl_emptySlots.l0 (k + 1) y0 y1 y2))
 | 0 => fun _ _ _ r h => by simp [impl_emptySlots.l0] at h
 | k + 1 => by
  have ih0 := impl_emptySlots.mono_l k; intro y0 y1 y2
  unfold impl_emptySlots.l0
  exact tM
theorem impl_emptySlots.mono : ∀ a0 k, LeO (impl_emptySlots.f k a0) (impl_emptySlots.f (k + 1) a0) := by
 intro a0 k; have ih0 := impl_emptySlots.mono_l k
 unfold impl_emptySlots.f
 exact tM
set_option maxHeartbeats 8000000 in
set_option maxRecDepth 100000 in
theorem impl_emptySlots.calls (k : Nat) (a0 : Int) (r : List Int) (w : World) (h : impl_emptySlots.f k a0 = some r) :
 Calls Try.prog 71 #[.int .i64 a0] w fun e w' => ∃ v0_ : Value, e = .returned (v0_) ∧ Kd.R (Kd.int .i64) 3 w' w.heap.size (fun _ => True) v0_ r ∧ Below w.heap.size w w' := by
 have HB := aS (Below.refl w.heap.size w); have H : (if 0 ≤ a0 then (if (a0 : Int).toNat ≤ 35184372088832 then ((some (List.replicate (a0 : Int).toNat 0 : List Int)).bind fun y283 => (impl_emptySlots.l0 k y283 (y283.length : Int) 0)) else (none)) else (none)) = some r := h; clear h; by_cases c2 : 0 ≤ a0
 · rw [if_pos c2] at H; have c2b0 := eq_true c2; have c2b1 : decide (0 ≤ a0) = true := decide_eq_true c2; clear c2; by_cases c3 : (a0 : Int).toNat ≤ 35184372088832
   case neg =>
    rw [if_neg c3] at H; exact nS H
   rw [if_pos c3] at H; have c3b0 := eq_true c3; have c3b1 : decide ((a0 : Int).toNat ≤ 35184372088832) = true := decide_eq_true c3; clear c3; obtain ⟨y283, hy283⟩ : ∃ y_ : List Int, y_ = (List.replicate (a0 : Int).toNat 0) := ⟨_, rfl⟩
   replace H : (impl_emptySlots.l0 k y283 (y283.length : Int) 0) = some r := by first | (rw [hy283]; with_reducible exact H) | (have H2_ := (Option.bind_some _ _).symm.trans H; rw [hy283]; with_reducible exact H2_) | (have H2_ := (Option.bind_some _ _).symm.trans H; with_reducible exact H2_) | with_reducible exact H | (rw [hy283]; exact H) | exact H
   have Ny283 := aS hy283; clear hy283; have H' := aS H; clear H
   go_enter Try.func71, Try.ntmps71
   go_wp2_with (first | ((with_reducible refine gD 6 ?_); refine Kd.R_make (Kd.int .i64) _ 3 rfl (N := 6) rfl 23 _ _ rfl a0 rfl rfl Try.underlying23 (.int .i64 0) 8 info3 rfl (by decide) (by omega) 0 (ok := fun _ => True) (okp := fun _ => True) rfl (fun _ hk => hk) trivial (of_decide_eq_true tP) (Nat.le_trans (Nat.mul_le_mul_right _ (of_decide_eq_true tP : a0.toNat ≤ 35184372088832)) (by omega)) (Below.refl _ _) (Nat.le_refl _) ?_; intro v284 w4 ho5 hb hg_ hnew_; clear hg_ hnew_; (first | rw [← Ny283.out] at ho5 | (simp only [Int.reduceToNat] at ho5; rw [← Ny283.out] at ho5)); have HO285 := aS (Kd.R_lower ho5 (below_size tB)); replace HB := aS (below_step tB hb); clear hb ho5; obtain ⟨Ao6, co6, eo6⟩ := Kd.R_slice HO285.out; subst eo6))
   go_loopg [9] k (fun kq v9 w' => ∃ (x3_1 : List Int) (x9_1 : Int), v9 = .int .i64 x9_1 ∧ Aside0 (impl_emptySlots.l0 kq x3_1 (y283.length : Int) x9_1 = some r) ∧ Aside0 (kq ≤ k) ∧ Aside0 (Kd.R (Kd.int .i64) 3 w' w.heap.size (fun _ => True) (.slice Ao6 y283.length co6) x3_1) ∧ Aside0 (Below w.heap.size w w'))
   case atStart => exact ⟨(y283), (0), tX, H', ⟨Nat.le_refl _⟩, ⟨tR HO285.out⟩, ⟨tB⟩⟩
   case round =>
    clear H'; clear c2b0 c2b1 c3b0 c3b1; obtain ⟨x3_1, x9_1, rfl, HA, HK1, HO_3, HB⟩ := hrel; have hl3_1 := (Kd.R_reads' HO_3.out).1; rw [hl3_1] at HO_3
    (try simp only [hl3_1])
    cases gk with
    | zero => exact absurd HA.out (by simp [impl_emptySlots.l0])
    | succ k1 =>
     have H := HA.out; clear HA; simp only [impl_emptySlots.l0] at H; by_cases c7 : x9_1 < (y283.length : Int)
     · rw [if_pos c7] at H; have c7b0 : decide (x9_1 < (y283.length : Int)) = true := decide_eq_true c7; clear c7; by_cases c8 : 0 ≤ x9_1
       case neg =>
        rw [if_neg c8] at H; exact nS H
       rw [if_pos c8] at H; have c8b0 : decide (0 ≤ x9_1) = true := decide_eq_true c8; clear c8; by_cases c9 : x9_1 < (x3_1.length : Int)
       case neg =>
        rw [if_neg c9] at H; exact nS H
       rw [if_pos c9] at H; have c9b0 : decide (x9_1 < (x3_1.length : Int)) = true := decide_eq_true c9; clear c9; obtain ⟨y286, hy286⟩ : ∃ y_ : List Int, y_ = (x3_1.set (x9_1 : Int).toNat (-1)) := ⟨_, rfl⟩
       replace H : (impl_emptySlots.l0 k1 y286 (y283.length : Int) (wrap64 (x9_1 + 1))) = some r := by first | (rw [hy286]; with_reducible exact H) | (have H2_ := (Option.bind_some _ _).symm.trans H; rw [hy286]; with_reducible exact H2_) | (have H2_ := (Option.bind_some _ _).symm.trans H; with_reducible exact H2_) | with_reducible exact H | (rw [hy286]; exact H) | exact H
       have Ny286 := aS hy286; clear hy286; have H' := aS H; clear H; have p10 : 0 ≤ (x9_1 : Int) := of_decide_eq_true tP; have q10 : (x9_1 : Int) < ((x3_1.length : Int) : Int) := of_decide_eq_true tP; obtain ⟨go10, co10, eo10, gb10, gl10, cl10, HG10⟩ := Kd.R_form HO_3.out (by omega)
       (first | cases eo10 | (injection eo10 with ea_ en_ ec_; (first | subst ea_ | (injection ea_ with ea_; subst ea_)); subst ec_; clear en_))
       have GB10 := aS gb10; have GG10 := aS HG10; clear gb10 gl10 HG10; obtain ⟨hx10_0, hf10_0⟩ := Kd.R_celln 0 HO_3.out (x9_1 : Int) p10 q10; replace p10 := eq_true p10; replace q10 := eq_true q10; have HP11 := Kd.R_putg HO_3.out (x9_1 : Int) (-1)
       go_wp2_with (first | ((with_reducible refine gate_store (t := 3) (p := 14) rfl ?_); refine store_event (t := 3) (p := 14) (v := ?vo_w12) (w1 := (wr.setCell ⟨go10, (x9_1 : Int).toNat, none⟩ (.int .i64 (-1)))) ?hg ?ho ?hn ?hr ?_; (case ho => rfl); (case hg => rfl); (case hn => rfl); (case hr => first | (go_simp; done) | (go_simp; rfl)); intro w12 hw; have hg : wr.grownBy w12 (some go10) := (by rw [hw]; exact HP11.2); have hp_ : Kd.R (Kd.int .i64) 3 w12 w.heap.size (fun _ => True) (.slice (some ⟨go10, 0, none⟩) x3_1.length co6) y286 := (by rw [hw, Ny286.out]; exact HP11.1); clear HP11; replace HO_3 := aS (hp_); replace HB := aS ((by rw [hw]; exact below_set (HB.out) GB10.out : Below w.heap.size w w12)); clear hg hw hp_))
       (try simp only [← hl3_1])
       go_roundg k1
       case measure => have := HK1.out; omega
       case rel => exact ⟨(y286), (wrap64 (x9_1 + 1)), tX, H', ⟨by have := HK1.out; omega⟩, ⟨by (try simp only [hl3_1]); (with_reducible repeat (first | apply Kd.R_alloc | apply Kd.R_drewN | apply Kd.R_drew)); exact HO_3.out⟩, ⟨tB⟩⟩
     rw [if_neg c7] at H; have c7b0 : decide (x9_1 < (y283.length : Int)) = false := decide_eq_false c7
     (try rw [hl3_1] at c7b0)
     clear c7; obtain rfl := oI H; go_wp2; go_ret; exact ⟨_, tE, by (with_reducible repeat (first | apply Kd.R_alloc | apply Kd.R_drewN | apply Kd.R_drew)); exact HO_3.out, tB⟩
 rw [if_neg c2] at H; exact nS H

end Go.Proofs.Ytihcollncjcpgaa.E
