/- Contracts of the Go functions that the seat's laws reach, one after the other: the machine's call comes to what the plain Lean function beside it says; no conditions but those that each contract names. Laid by this session's program wip/pp.py, which drives the kit's printer. -/
import Derived.Test.YtihcollncjcpgaaPx0
import Derived.Test.YtihcollncjcpgaaPx11
import Derived.Test.YtihcollncjcpgaaPx12
import Derived.Test.YtihcollncjcpgaaPx13
namespace Go.Proofs.Ytihcollncjcpgaa.P
open Go.RowKit Go.Proofs.YtihcollncjcpgaaW.PrintWords Go.Proofs.YtihcollncjcpgaaW.PrintLast Go.Proofs.YtihcollncjcpgaaW.PrintMore
attribute [local go_sem] max2_int min2_int max_two min_two max_three min_three max_four min_four   -- for this text's walks alone
set_option linter.unusedVariables false
set_option linter.unusedSimpArgs false

/-! ### impl_DictSame: function 25 -/
mutual
def impl_DictSame.j0 : Nat → Bool → List Int → List (S56) → List Int → List (S56) → Option (Bool)
 | 0, _, _, _, _, _ => none
 | k + 1, x22, x477000, x477001, x478000, x478001 => if x22 = true then (some false) else (impl_DictSame.l0 k x477001 (x477001.length : Int) 0 x478000 x478001)
def impl_DictSame.l0 : Nat → List (S56) → Int → Int → List Int → List (S56) → Option (Bool)
 | 0, _, _, _, _, _ => none
 | k + 1, x24, x25, x26, x478000, x478001 => if x26 < x25 then (if 0 ≤ x26 then (if x26 < (x24.length : Int) then (if ((rd_T56 x24 x26).f3 = true) then ((impl_Dict_find.f k x478000 x478001 ((rd_T56 x24 x26).f0)).bind fun t484 => (if t484 < 0 then (some false) else (if 0 ≤ t484 then (if t484 < (x478001.length : Int) then (if ((rd_T56 x478001 t484).f2) = ((rd_T56 x24 x26).f2) then (impl_DictSame.l0 k x24 x25 (wrap64 (x26 + 1)) x478000 x478001) else (some false)) else (none)) else (none)))) else (impl_DictSame.l0 k x24 x25 (wrap64 (x26 + 1)) x478000 x478001)) else (none)) else (none)) else (some true)
end
def impl_DictSame.f (k : Nat) (l0_0 : List Int) (l0_1 : List (S56)) (l1_0 : List Int) (l1_1 : List (S56)) : Option (Bool) := (impl_DictOk.f k l0_0 l0_1).bind fun t478 => (if t478 = true then ((impl_DictOk.f k l1_0 l1_1).bind fun t479 => (if t479 = true then ((impl_Dict_live.f k l0_0 l0_1).bind fun t480 => ((impl_Dict_live.f k l1_0 l1_1).bind fun t481 => (impl_DictSame.j0 k (t480 != t481) l0_0 l0_1 l1_0 l1_1))) else (impl_DictSame.j0 k true l0_0 l0_1 l1_0 l1_1))) else (impl_DictSame.j0 k true l0_0 l0_1 l1_0 l1_1))
theorem impl_DictSame.mono_l : ∀ k, (∀ y0 y1 y2 y3 y4, LeO (impl_DictSame.j0 k y0 y1 y2 y3 y4) (impl_DictSame.j0 (k + 1) y0 y1 y2 y3 y4)) ∧ (∀ y0 y1 y2 y3 y4, LeO (impl_DictSame.l0 k y0 y1 y2 y3 y4) (impl_DictSame.l0 (k + 1) y0 y1 y2 y3 y4))
 | 0 => ⟨fun _ _ _ _ _ r h => by simp [impl_DictSame.j0] at h, fun _ _ _ _ _ r h => by simp [impl_DictSame.l0] at h⟩
 | k + 1 => by
  obtain ⟨ih0, ih1⟩ := impl_DictSame.mono_l k; refine ⟨?_, ?_⟩
  · intro y0 y1 y2 y3 y4
    unfold impl_DictSame.j0
    have m0_ := @impl_DictOk.mono; have m1_ := @impl_Dict_find.mono; have m2_ := @impl_Dict_live.mono; exact tM
  intro y0 y1 y2 y3 y4
  unfold impl_DictSame.l0
  have m0_ := @impl_DictOk.mono; have m1_ := @impl_Dict_find.mono; have m2_ := @impl_Dict_live.mono; exact tM
theorem impl_DictSame.mono : ∀ a0 a1 a2 a3 k, LeO (impl_DictSame.f k a0 a1 a2 a3) (impl_DictSame.f (k + 1) a0 a1 a2 a3) := by
 intro a0 a1 a2 a3 k; obtain ⟨ih0, ih1⟩ := impl_DictSame.mono_l k
 unfold impl_DictSame.f
 have m0_ := @impl_DictOk.mono; have m1_ := @impl_Dict_find.mono; have m2_ := @impl_Dict_live.mono; exact tM
def impl_DictSame.T1 : Bool × List (List Nat × List Nat) := (true, [([], []), ([0], [0]), ([1], [1]), ([2, 1], [2]), ([3], [3]), ([4, 3, 3], [3, 4]), ([5, 3], [3, 5]), ([3, 6], [3, 6]), ([7, 5], [7]), ([8], [8]), ([9, 8, 8], [8, 9]), ([8], [8]), ([11, 10, 8], [8, 11]), ([10, 12, 8], [8, 10, 12]), ([8, 13], [8, 13])])
def impl_DictSame.B1 : List Nat := [0, 1, 3, 7, 15, 31, 63, 127, 255, 511, 1023, 511, 4095, 8191, 16383]
theorem impl_DictSame.tab1 : rtab .any (opsOf Try.f25 1) = impl_DictSame.T1 := by kernel_rfl
theorem impl_DictSame.bits1 : waitsOk impl_DictSame.T1.2 impl_DictSame.B1 = true := by kernel_rfl
def impl_DictSame.T8 : Bool × List (List Nat × List Nat) := (true, [([], []), ([0], [0]), ([1], [1]), ([2], [2]), ([3, 2], [2, 3]), ([2], [2]), ([4, 5, 2], [2, 4, 5]), ([6, 2], [2, 6]), ([7, 2], [2, 7]), ([2], [2]), ([9, 2], [2, 9]), ([8, 10, 2], [2, 8, 10]), ([2, 11], [2, 11])])
def impl_DictSame.B8 : List Nat := [0, 1, 3, 7, 15, 7, 63, 127, 255, 7, 519, 2047, 4095]
theorem impl_DictSame.tab8 : rtab .any (opsOf Try.f25 8) = impl_DictSame.T8 := by kernel_rfl
theorem impl_DictSame.bits8 : waitsOk impl_DictSame.T8.2 impl_DictSame.B8 = true := by kernel_rfl
set_option maxHeartbeats 8000000 in
set_option maxRecDepth 100000 in
theorem impl_DictSame.calls (k : Nat) (A0_0 : Option Addr) (c0_0 : Nat) (l0_0 : List Int) (A0_1 : Option Addr) (c0_1 : Nat) (l0_1 : List (S56)) (A1_0 : Option Addr) (c1_0 : Nat) (l1_0 : List Int) (A1_1 : Option Addr) (c1_1 : Nat) (l1_1 : List (S56)) (r : Bool) (w : World) (hr0_0 : Kd.C (Kd.int .i64) w A0_0 l0_0.length l0_0) (hc0_0 : l0_0.length ≤ c0_0) (hr0_1 : Kd.C k56 w A0_1 l0_1.length l0_1) (hc0_1 : l0_1.length ≤ c0_1) (hr1_0 : Kd.C (Kd.int .i64) w A1_0 l1_0.length l1_0) (hc1_0 : l1_0.length ≤ c1_0) (hr1_1 : Kd.C k56 w A1_1 l1_1.length l1_1) (hc1_1 : l1_1.length ≤ c1_1) (h : impl_DictSame.f k l0_0 l0_1 l1_0 l1_1 = some r) :
 Calls Try.prog 25 #[.agg #[.slice A0_0 l0_0.length c0_0, .slice A0_1 l0_1.length c0_1], .agg #[.slice A1_0 l1_0.length c1_0, .slice A1_1 l1_1.length c1_1]] w fun e w' => e = .returned (.bool r) ∧ Below w.heap.size w w' := by
 have hu26 := Try.underlying26; have hu56 := Try.underlying56; have HR0_0 := aS hr0_0; have HC0_0 := aS hc0_0; clear hr0_0 hc0_0; have HR0_1 := aS hr0_1; have HC0_1 := aS hc0_1; clear hr0_1 hc0_1; have HR1_0 := aS hr1_0; have HC1_0 := aS hc1_0; clear hr1_0 hc1_0; have HR1_1 := aS hr1_1; have HC1_1 := aS hc1_1; clear hr1_1 hc1_1; have HB := aS (Below.refl w.heap.size w); have H : ((impl_DictOk.f k l0_0 l0_1).bind fun t478 => (if t478 = true then ((impl_DictOk.f k l1_0 l1_1).bind fun t479 => (if t479 = true then ((impl_Dict_live.f k l0_0 l0_1).bind fun t480 => ((impl_Dict_live.f k l1_0 l1_1).bind fun t481 => (impl_DictSame.j0 k (t480 != t481) l0_0 l0_1 l1_0 l1_1))) else (impl_DictSame.j0 k true l0_0 l0_1 l1_0 l1_1))) else (impl_DictSame.j0 k true l0_0 l0_1 l1_0 l1_1))) = some r := h; clear h; have HC3 := aS H; clear H
 go_enter Try.func25, Try.ntmps25
 go_upto_region 1 with (first | ((with_reducible refine gD 2 ?_); refine boxS (N := 2) (cs := #[.slice A0_0 l0_0.length c0_0, .slice A0_1 l0_1.length c0_1]) (t := 26) ?_; intro gb476 hg w4 hbox hb; have BK476 := aS (hbox); have GW476 := gW (w := w) hg tB; have GE476 := GW476; replace HB := aS (below_step tB hb); clear hb hbox hg) | ((with_reducible refine gD 3 ?_); refine boxS (N := 3) (cs := #[.slice A1_0 l1_0.length c1_0, .slice A1_1 l1_1.length c1_1]) (t := 26) ?_; intro gb477 hg w5 hbox hb; have BK477 := aS (hbox); have GW477 := gW (w := w) hg tB; have GE477 := GW477; have NB476_477 := nL hg BK476; have NB477_476 := nR hg BK476; replace BK476 := bB BK476 hb; replace HB := aS (below_step tB hb); clear hb hbox hg))
 (try simp only [Act.put, List.setIfInBounds_toArray, List.set_cons_zero, List.set_cons_succ])
 go_cut [22] (fun v22 wc => ∃ (kq : Nat) (x22_2 : Bool), v22 = .bool x22_2 ∧ Aside0 (impl_DictSame.j0 kq x22_2 l0_0 l0_1 l1_0 l1_1 = some r) ∧ Aside0 (kq ≤ k) ∧ Aside0 (wc.heap[gb476]? = some (.cells #[(.slice A0_0 l0_0.length c0_0), (.slice A0_1 l0_1.length c0_1)] 26 (0, 0))) ∧ Aside0 (wc.heap[gb477]? = some (.cells #[(.slice A1_0 l1_0.length c1_0), (.slice A1_1 l1_1.length c1_1)] 26 (0, 0))) ∧ Aside0 (Below w.heap.size w wc))
 case first =>
  have H := HC3.out; clear HC3; replace H := oB H; obtain ⟨t478, A60, H⟩ := H; replace H : (if t478 = true then ((impl_DictOk.f k l1_0 l1_1).bind fun t479 => (if t479 = true then ((impl_Dict_live.f k l0_0 l0_1).bind fun t480 => ((impl_Dict_live.f k l1_0 l1_1).bind fun t481 => (impl_DictSame.j0 k (t480 != t481) l0_0 l0_1 l1_0 l1_1))) else (impl_DictSame.j0 k true l0_0 l0_1 l1_0 l1_1))) else (impl_DictSame.j0 k true l0_0 l0_1 l1_0 l1_1)) = some r := H; have A6 := aS A60; clear A60; by_cases c7 : t478 = true
  · subst c7; have H1 : ((impl_DictOk.f k l1_0 l1_1).bind fun t479 => (if t479 = true then ((impl_Dict_live.f k l0_0 l0_1).bind fun t480 => ((impl_Dict_live.f k l1_0 l1_1).bind fun t481 => (impl_DictSame.j0 k (t480 != t481) l0_0 l0_1 l1_0 l1_1))) else (impl_DictSame.j0 k true l0_0 l0_1 l1_0 l1_1))) = some r := by rw [if_pos rfl] at H; exact H
    clear H; have H := H1; clear H1; replace H := oB H; obtain ⟨t479, A80, H⟩ := H; replace H : (if t479 = true then ((impl_Dict_live.f k l0_0 l0_1).bind fun t480 => ((impl_Dict_live.f k l1_0 l1_1).bind fun t481 => (impl_DictSame.j0 k (t480 != t481) l0_0 l0_1 l1_0 l1_1))) else (impl_DictSame.j0 k true l0_0 l0_1 l1_0 l1_1)) = some r := H; have A8 := aS A80; clear A80; by_cases c9 : t479 = true
    · subst c9; have H1 : ((impl_Dict_live.f k l0_0 l0_1).bind fun t480 => ((impl_Dict_live.f k l1_0 l1_1).bind fun t481 => (impl_DictSame.j0 k (t480 != t481) l0_0 l0_1 l1_0 l1_1))) = some r := by rw [if_pos rfl] at H; exact H
      clear H; have H := H1; clear H1; replace H := oB H; obtain ⟨t480, A100, H⟩ := H; replace H : ((impl_Dict_live.f k l1_0 l1_1).bind fun t481 => (impl_DictSame.j0 k (t480 != t481) l0_0 l0_1 l1_0 l1_1)) = some r := H; have A10 := aS A100; clear A100; replace H := oB H; obtain ⟨t481, A110, H⟩ := H; replace H : (impl_DictSame.j0 k (t480 != t481) l0_0 l0_1 l1_0 l1_1) = some r := H; have A11 := aS A110; clear A110; have H' := aS H; clear H
      try go_wp2
      have n0_ := aS (blk_drew BK476.out); have n1_ := aS (blk_drew BK477.out); have n2_ := aS (below_drew1 HB.out); clear BK476; clear BK477; clear HB; have BK476 := n0_; have BK477 := n1_; have HB := n2_; clear n0_ n1_ n2_; refine start_ (n := 15) (S := fun w' => w'.cell? ⟨gb476, 0, none⟩ = some (.slice A0_0 l0_0.length c0_0) ∧ w'.cell? ⟨gb476, 1, none⟩ = some (.slice A0_1 l0_1.length c0_1) ∧ w'.cell? ⟨gb477, 0, none⟩ = some (.slice A1_0 l1_0.length c1_0) ∧ w'.cell? ⟨gb477, 1, none⟩ = some (.slice A1_1 l1_1.length c1_1)) (ds := []) (.replicate 15 false) (by kernel_rfl) rfl rfl ⟨(blk_cell BK476.out 0).trans rfl, (blk_cell BK476.out 1).trans rfl, (blk_cell BK477.out 0).trans rfl, (blk_cell BK477.out 1).trans rfl⟩ (fun hHeld => ?_); refine with_tabW impl_DictSame.tab1 impl_DictSame.bits1 (fun HT_ HW_ => ?_); generalize w5.drew = w12 at BK476 BK477 HB hHeld ⊢; refine tN 0 8 ?_; refine oN 1 9 (fun K hK => ?_); refine goes_ Try.func15 (by kernel_rfl) rfl #[.agg #[.slice A0_0 l0_0.length c0_0, .slice A0_1 l0_1.length c0_1]] (by rfl) rfl rfl tA ?_
      with_reducible refine (impl_DictOk.calls k _ _ l0_0 _ _ l0_1 true _ ?side1 ?side2 ?side3 ?side4 A6.out).mono ?_
      (case side1 => exact tC (Kd.C_below HR0_0.out HB.out))
      (case side2 => exact HC0_0.out)
      (case side3 => exact tC (Kd.C_below HR0_1.out HB.out))
      (case side4 => exact HC0_1.out)
      rintro e w13 ⟨rfl, hb⟩; refine ⟨_, rfl, ?_⟩; have n0_ := bB BK476 hb; have n1_ := bB BK477 hb; have n2_ := aS (below_step tB hb); clear BK476; clear BK477; clear HB; have BK476 := n0_; have BK477 := n1_; have HB := n2_; clear n0_ n1_ n2_
      try clear hb
      refine hK.out _ _ ⟨(blk_cell BK476.out 0).trans rfl, (blk_cell BK476.out 1).trans rfl, (blk_cell BK477.out 0).trans rfl, (blk_cell BK477.out 1).trans rfl⟩ (fun hHeld => ?_); clear hK K; refine norm_ (a' := ?_) ?_ ?_
      rotate_left
      · show Act.put _ (some 9) _ = _
        simp only [Act.put, List.setIfInBounds_toArray, List.set_cons_zero, List.set_cons_succ, i64_w, i32_w]
        rfl
      refine pN 2 10 ?_; refine pN 3 11 ?_; refine tN 4 12 ?_; refine oN 5 13 (fun K hK => ?_); refine goes_ Try.func15 (by kernel_rfl) rfl #[.agg #[.slice A1_0 l1_0.length c1_0, .slice A1_1 l1_1.length c1_1]] (by rfl) rfl rfl tA ?_
      with_reducible refine (impl_DictOk.calls k _ _ l1_0 _ _ l1_1 true _ ?side1 ?side2 ?side3 ?side4 A8.out).mono ?_
      (case side1 => exact tC (Kd.C_below HR1_0.out HB.out))
      (case side2 => exact HC1_0.out)
      (case side3 => exact tC (Kd.C_below HR1_1.out HB.out))
      (case side4 => exact HC1_1.out)
      rintro e w14 ⟨rfl, hb⟩; refine ⟨_, rfl, ?_⟩; have n0_ := bB BK476 hb; have n1_ := bB BK477 hb; have n2_ := aS (below_step tB hb); clear BK476; clear BK477; clear HB; have BK476 := n0_; have BK477 := n1_; have HB := n2_; clear n0_ n1_ n2_
      try clear hb
      refine hK.out _ _ ⟨(blk_cell BK476.out 0).trans rfl, (blk_cell BK476.out 1).trans rfl, (blk_cell BK477.out 0).trans rfl, (blk_cell BK477.out 1).trans rfl⟩ (fun hHeld => ?_); clear hK K; refine norm_ (a' := ?_) ?_ ?_
      rotate_left
      · show Act.put _ (some 13) _ = _
        simp only [Act.put, List.setIfInBounds_toArray, List.set_cons_zero, List.set_cons_succ, i64_w, i32_w]
        rfl
      refine pN 6 14 ?_; refine pN 7 15 ?_; refine pN 8 16 ?_; refine tN 9 17 ?_; refine tN 11 19 ?_; refine oN 10 18 (fun K hK => ?_); refine goes_ Try.func39 (by kernel_rfl) rfl #[.agg #[.slice A0_0 l0_0.length c0_0, .slice A0_1 l0_1.length c0_1]] (by rfl) rfl rfl tA ?_
      with_reducible refine (impl_Dict_live.calls k _ _ l0_0 _ _ l0_1 t480 _ ?side1 ?side2 ?side3 ?side4 A10.out).mono ?_
      (case side1 => exact tC (Kd.C_below HR0_0.out HB.out))
      (case side2 => exact HC0_0.out)
      (case side3 => exact tC (Kd.C_below HR0_1.out HB.out))
      (case side4 => exact HC0_1.out)
      rintro e w15 ⟨rfl, hb⟩; refine ⟨_, rfl, ?_⟩; have n0_ := bB BK476 hb; have n1_ := bB BK477 hb; have n2_ := aS (below_step tB hb); clear BK476; clear BK477; clear HB; have BK476 := n0_; have BK477 := n1_; have HB := n2_; clear n0_ n1_ n2_
      try clear hb
      refine hK.out _ _ ⟨(blk_cell BK476.out 0).trans rfl, (blk_cell BK476.out 1).trans rfl, (blk_cell BK477.out 0).trans rfl, (blk_cell BK477.out 1).trans rfl⟩ (fun hHeld => ?_); clear hK K; refine norm_ (a' := ?_) ?_ ?_
      rotate_left
      · show Act.put _ (some 18) _ = _
        simp only [Act.put, List.setIfInBounds_toArray, List.set_cons_zero, List.set_cons_succ, i64_w, i32_w]
        rfl
      refine oN 12 20 (fun K hK => ?_); refine goes_ Try.func39 (by kernel_rfl) rfl #[.agg #[.slice A1_0 l1_0.length c1_0, .slice A1_1 l1_1.length c1_1]] (by rfl) rfl rfl tA ?_
      with_reducible refine (impl_Dict_live.calls k _ _ l1_0 _ _ l1_1 t481 _ ?side1 ?side2 ?side3 ?side4 A11.out).mono ?_
      (case side1 => exact tC (Kd.C_below HR1_0.out HB.out))
      (case side2 => exact HC1_0.out)
      (case side3 => exact tC (Kd.C_below HR1_1.out HB.out))
      (case side4 => exact HC1_1.out)
      rintro e w16 ⟨rfl, hb⟩; refine ⟨_, rfl, ?_⟩; have n0_ := bB BK476 hb; have n1_ := bB BK477 hb; have n2_ := aS (below_step tB hb); clear BK476; clear BK477; clear HB; have BK476 := n0_; have BK477 := n1_; have HB := n2_; clear n0_ n1_ n2_
      try clear hb
      refine hK.out _ _ ⟨(blk_cell BK476.out 0).trans rfl, (blk_cell BK476.out 1).trans rfl, (blk_cell BK477.out 0).trans rfl, (blk_cell BK477.out 1).trans rfl⟩ (fun hHeld => ?_); clear hK K; refine norm_ (a' := ?_) ?_ ?_
      rotate_left
      · show Act.put _ (some 20) _ = _
        simp only [Act.put, List.setIfInBounds_toArray, List.set_cons_zero, List.set_cons_succ, i64_w, i32_w]
        rfl
      refine pN 13 21 ?_; refine pN 14 22 ?_; refine dN ?_
      try go_wp2
      go_meet
      case rel => exact ⟨_, ((t480 != t481)), tX, H', ⟨by first | omega | exact Nat.le_refl _⟩, ⟨tZ⟩, ⟨tZ⟩, ⟨tB⟩⟩
    replace c9 := Bool.eq_false_iff.mpr c9; subst c9; have H1 : (impl_DictSame.j0 k true l0_0 l0_1 l1_0 l1_1) = some r := by rw [if_neg (show ¬ (false = true) by decide)] at H; exact H
    clear H; have H := H1; clear H1; have H' := aS H; clear H
    try go_wp2
    have n0_ := aS (blk_drew BK476.out); have n1_ := aS (blk_drew BK477.out); have n2_ := aS (below_drew1 HB.out); clear BK476; clear BK477; clear HB; have BK476 := n0_; have BK477 := n1_; have HB := n2_; clear n0_ n1_ n2_; refine start_ (n := 15) (S := fun w' => w'.cell? ⟨gb476, 0, none⟩ = some (.slice A0_0 l0_0.length c0_0) ∧ w'.cell? ⟨gb476, 1, none⟩ = some (.slice A0_1 l0_1.length c0_1) ∧ w'.cell? ⟨gb477, 0, none⟩ = some (.slice A1_0 l1_0.length c1_0) ∧ w'.cell? ⟨gb477, 1, none⟩ = some (.slice A1_1 l1_1.length c1_1)) (ds := []) (.replicate 15 false) (by kernel_rfl) rfl rfl ⟨(blk_cell BK476.out 0).trans rfl, (blk_cell BK476.out 1).trans rfl, (blk_cell BK477.out 0).trans rfl, (blk_cell BK477.out 1).trans rfl⟩ (fun hHeld => ?_); refine with_tabW impl_DictSame.tab1 impl_DictSame.bits1 (fun HT_ HW_ => ?_); generalize w5.drew = w17 at BK476 BK477 HB hHeld ⊢; refine tN 0 8 ?_; refine oN 1 9 (fun K hK => ?_); refine goes_ Try.func15 (by kernel_rfl) rfl #[.agg #[.slice A0_0 l0_0.length c0_0, .slice A0_1 l0_1.length c0_1]] (by rfl) rfl rfl tA ?_
    with_reducible refine (impl_DictOk.calls k _ _ l0_0 _ _ l0_1 true _ ?side1 ?side2 ?side3 ?side4 A6.out).mono ?_
    (case side1 => exact tC (Kd.C_below HR0_0.out HB.out))
    (case side2 => exact HC0_0.out)
    (case side3 => exact tC (Kd.C_below HR0_1.out HB.out))
    (case side4 => exact HC0_1.out)
    rintro e w18 ⟨rfl, hb⟩; refine ⟨_, rfl, ?_⟩; have n0_ := bB BK476 hb; have n1_ := bB BK477 hb; have n2_ := aS (below_step tB hb); clear BK476; clear BK477; clear HB; have BK476 := n0_; have BK477 := n1_; have HB := n2_; clear n0_ n1_ n2_
    try clear hb
    refine hK.out _ _ ⟨(blk_cell BK476.out 0).trans rfl, (blk_cell BK476.out 1).trans rfl, (blk_cell BK477.out 0).trans rfl, (blk_cell BK477.out 1).trans rfl⟩ (fun hHeld => ?_); clear hK K; refine norm_ (a' := ?_) ?_ ?_
    rotate_left
    · show Act.put _ (some 9) _ = _
      simp only [Act.put, List.setIfInBounds_toArray, List.set_cons_zero, List.set_cons_succ, i64_w, i32_w]
      rfl
    refine pN 2 10 ?_; refine pN 3 11 ?_; refine tN 4 12 ?_; refine oN 5 13 (fun K hK => ?_); refine goes_ Try.func15 (by kernel_rfl) rfl #[.agg #[.slice A1_0 l1_0.length c1_0, .slice A1_1 l1_1.length c1_1]] (by rfl) rfl rfl tA ?_
    with_reducible refine (impl_DictOk.calls k _ _ l1_0 _ _ l1_1 false _ ?side1 ?side2 ?side3 ?side4 A8.out).mono ?_
    (case side1 => exact tC (Kd.C_below HR1_0.out HB.out))
    (case side2 => exact HC1_0.out)
    (case side3 => exact tC (Kd.C_below HR1_1.out HB.out))
    (case side4 => exact HC1_1.out)
    rintro e w19 ⟨rfl, hb⟩; refine ⟨_, rfl, ?_⟩; have n0_ := bB BK476 hb; have n1_ := bB BK477 hb; have n2_ := aS (below_step tB hb); clear BK476; clear BK477; clear HB; have BK476 := n0_; have BK477 := n1_; have HB := n2_; clear n0_ n1_ n2_
    try clear hb
    refine hK.out _ _ ⟨(blk_cell BK476.out 0).trans rfl, (blk_cell BK476.out 1).trans rfl, (blk_cell BK477.out 0).trans rfl, (blk_cell BK477.out 1).trans rfl⟩ (fun hHeld => ?_); clear hK K; refine norm_ (a' := ?_) ?_ ?_
    rotate_left
    · show Act.put _ (some 13) _ = _
      simp only [Act.put, List.setIfInBounds_toArray, List.set_cons_zero, List.set_cons_succ, i64_w, i32_w]
      rfl
    refine pN 6 14 ?_; refine pN 7 15 ?_; refine pN 8 16 ?_; refine uN 9 17 ?_; refine uN 10 18 ?_; refine uN 11 19 ?_; refine uN 12 20 ?_; refine uN 13 21 ?_; refine pN 14 22 ?_; refine dN ?_
    try go_wp2
    go_meet
    case rel => exact ⟨_, (true), tX, H', ⟨by first | omega | exact Nat.le_refl _⟩, ⟨tZ⟩, ⟨tZ⟩, ⟨tB⟩⟩
  replace c7 := Bool.eq_false_iff.mpr c7; subst c7; have H1 : (impl_DictSame.j0 k true l0_0 l0_1 l1_0 l1_1) = some r := by rw [if_neg (show ¬ (false = true) by decide)] at H; exact H
  clear H; have H := H1; clear H1; have H' := aS H; clear H
  try go_wp2
  have n0_ := aS (blk_drew BK476.out); have n1_ := aS (blk_drew BK477.out); have n2_ := aS (below_drew1 HB.out); clear BK476; clear BK477; clear HB; have BK476 := n0_; have BK477 := n1_; have HB := n2_; clear n0_ n1_ n2_; refine start_ (n := 15) (S := fun w' => w'.cell? ⟨gb476, 0, none⟩ = some (.slice A0_0 l0_0.length c0_0) ∧ w'.cell? ⟨gb476, 1, none⟩ = some (.slice A0_1 l0_1.length c0_1)) (ds := []) (.replicate 15 false) (by kernel_rfl) rfl rfl ⟨(blk_cell BK476.out 0).trans rfl, (blk_cell BK476.out 1).trans rfl⟩ (fun hHeld => ?_); refine with_tabW impl_DictSame.tab1 impl_DictSame.bits1 (fun HT_ HW_ => ?_); generalize w5.drew = w20 at BK476 BK477 HB hHeld ⊢; refine tN 0 8 ?_; refine oN 1 9 (fun K hK => ?_); refine goes_ Try.func15 (by kernel_rfl) rfl #[.agg #[.slice A0_0 l0_0.length c0_0, .slice A0_1 l0_1.length c0_1]] (by rfl) rfl rfl tA ?_
  with_reducible refine (impl_DictOk.calls k _ _ l0_0 _ _ l0_1 false _ ?side1 ?side2 ?side3 ?side4 A6.out).mono ?_
  (case side1 => exact tC (Kd.C_below HR0_0.out HB.out))
  (case side2 => exact HC0_0.out)
  (case side3 => exact tC (Kd.C_below HR0_1.out HB.out))
  (case side4 => exact HC0_1.out)
  rintro e w21 ⟨rfl, hb⟩; refine ⟨_, rfl, ?_⟩; have n0_ := bB BK476 hb; have n1_ := bB BK477 hb; have n2_ := aS (below_step tB hb); clear BK476; clear BK477; clear HB; have BK476 := n0_; have BK477 := n1_; have HB := n2_; clear n0_ n1_ n2_
  try clear hb
  refine hK.out _ _ ⟨(blk_cell BK476.out 0).trans rfl, (blk_cell BK476.out 1).trans rfl⟩ (fun hHeld => ?_); clear hK K; refine norm_ (a' := ?_) ?_ ?_
  rotate_left
  · show Act.put _ (some 9) _ = _
    simp only [Act.put, List.setIfInBounds_toArray, List.set_cons_zero, List.set_cons_succ, i64_w, i32_w]
    rfl
  refine pN 2 10 ?_; refine pN 3 11 ?_; refine uN 4 12 ?_; refine uN 5 13 ?_; refine uN 6 14 ?_; refine pN 7 15 ?_; refine pN 8 16 ?_; refine uN 9 17 ?_; refine uN 10 18 ?_; refine uN 11 19 ?_; refine uN 12 20 ?_; refine uN 13 21 ?_; refine pN 14 22 ?_; refine dN ?_
  try go_wp2
  go_meet
  case rel => exact ⟨_, (true), tX, H', ⟨by first | omega | exact Nat.le_refl _⟩, ⟨tZ⟩, ⟨tZ⟩, ⟨tB⟩⟩
 case rest =>
  clear HC3; obtain ⟨kq, x22_2, rfl, HA, HJ2, BK476, BK477, HB⟩ := hcut
  cases kq with
  | zero => exact absurd HA.out (by simp [impl_DictSame.j0])
  | succ kj2 =>
   have H := HA.out; clear HA; simp only [impl_DictSame.j0] at H; by_cases c22 : x22_2 = true
   · subst c22; have H1 : (some false) = some r := by rw [if_pos rfl] at H; exact H
     clear H; have H := H1; clear H1; obtain rfl := oI H; go_wp2; go_ret; exact ⟨tE, tB⟩
   replace c22 := Bool.eq_false_iff.mpr c22; subst c22; have H1 : (impl_DictSame.l0 kj2 l0_1 (l0_1.length : Int) 0 l1_0 l1_1) = some r := by rw [if_neg (show ¬ (false = true) by decide)] at H; exact H
   clear H; have H := H1; clear H1; have H' := aS H; clear H; obtain ⟨hnb23, hnc23⟩ := bO NB476_477 NB477_476; obtain ⟨hcz24_0, hcz24_1, hfz24_0, hfz24_1⟩ := c2 BK476; go_wp2
   go_loopg [26] kj2 (fun kq v26 w' => ∃ (x26_2 : Int), v26 = .int .i64 x26_2 ∧ Aside0 (impl_DictSame.l0 kq l0_1 (l0_1.length : Int) x26_2 l1_0 l1_1 = some r) ∧ Aside0 (kq ≤ kj2) ∧ Aside0 (w'.heap[gb476]? = some (.cells #[(.slice A0_0 l0_0.length c0_0), (.slice A0_1 l0_1.length c0_1)] 26 (0, 0))) ∧ Aside0 (w'.heap[gb477]? = some (.cells #[(.slice A1_0 l1_0.length c1_0), (.slice A1_1 l1_1.length c1_1)] 26 (0, 0))) ∧ Aside0 (Below w.heap.size w w'))
   case atStart => exact ⟨(0), tX, H', ⟨Nat.le_refl _⟩, ⟨tZ⟩, ⟨tZ⟩, ⟨tB⟩⟩
   case round =>
    clear H'; clear hcz24_0 hcz24_1 hfz24_0 hfz24_1; obtain ⟨x26_2, rfl, HA, HK2, BK476, BK477, HB⟩ := hrel
    cases gk with
    | zero => exact absurd HA.out (by simp [impl_DictSame.l0])
    | succ k2 =>
     have H := HA.out; clear HA; simp only [impl_DictSame.l0] at H; by_cases c25 : x26_2 < (l0_1.length : Int)
     · rw [if_pos c25] at H; have c25b0 : decide (x26_2 < (l0_1.length : Int)) = true := decide_eq_true c25; clear c25; by_cases c26 : 0 ≤ x26_2
       case neg =>
        rw [if_neg c26] at H; exact nS H
       rw [if_pos c26] at H; have c26b0 : decide (0 ≤ x26_2) = true := decide_eq_true c26; clear c26; by_cases c27 : x26_2 < (l0_1.length : Int)
       case neg =>
        rw [if_neg c27] at H; exact nS H
       rw [if_pos c27] at H; have c27b0 : decide (x26_2 < (l0_1.length : Int)) = true := decide_eq_true c27; clear c27; obtain ⟨bq28, hbq28⟩ : ∃ b_ : Bool, b_ = ((rd_T56 l0_1 x26_2).f3) := ⟨_, rfl⟩
       replace H : (if (bq28 = true) then ((impl_Dict_find.f k2 l1_0 l1_1 ((rd_T56 l0_1 x26_2).f0)).bind fun t484 => (if t484 < 0 then (some false) else (if 0 ≤ t484 then (if t484 < (l1_1.length : Int) then (if ((rd_T56 l1_1 t484).f2) = ((rd_T56 l0_1 x26_2).f2) then (impl_DictSame.l0 k2 l0_1 (l0_1.length : Int) (wrap64 (x26_2 + 1)) l1_0 l1_1) else (some false)) else (none)) else (none)))) else (impl_DictSame.l0 k2 l0_1 (l0_1.length : Int) (wrap64 (x26_2 + 1)) l1_0 l1_1)) = some r := by rw [← hbq28] at H; exact H
       have Nbq28 := aS hbq28; clear hbq28; by_cases c29 : (bq28 = true)
       · subst c29; have H1 : ((impl_Dict_find.f k2 l1_0 l1_1 ((rd_T56 l0_1 x26_2).f0)).bind fun t484 => (if t484 < 0 then (some false) else (if 0 ≤ t484 then (if t484 < (l1_1.length : Int) then (if ((rd_T56 l1_1 t484).f2) = ((rd_T56 l0_1 x26_2).f2) then (impl_DictSame.l0 k2 l0_1 (l0_1.length : Int) (wrap64 (x26_2 + 1)) l1_0 l1_1) else (some false)) else (none)) else (none)))) = some r := by rw [if_pos rfl] at H; exact H
         clear H; have H := H1; clear H1; replace H := oB H; obtain ⟨t484, A300, H⟩ := H; replace H : (if t484 < 0 then (some false) else (if 0 ≤ t484 then (if t484 < (l1_1.length : Int) then (if ((rd_T56 l1_1 t484).f2) = ((rd_T56 l0_1 x26_2).f2) then (impl_DictSame.l0 k2 l0_1 (l0_1.length : Int) (wrap64 (x26_2 + 1)) l1_0 l1_1) else (some false)) else (none)) else (none))) = some r := H; have A30 := aS A300; clear A300; by_cases c31 : t484 < 0
         · rw [if_pos c31] at H; have c31b0 : decide (t484 < 0) = true := decide_eq_true c31; clear c31; obtain rfl := oI H; have p482 : 0 ≤ (x26_2 : Int) := of_decide_eq_true tP; have q482 : x26_2 < (l0_1.length : Int) := of_decide_eq_true tP; obtain ⟨ad482, e482, hx482_0, hx482_1, hx482_2, hx482_3⟩ := at_T56 HR0_1.out x26_2 p482 q482
           (try rw [← Nbq28.out] at hx482_3); (try rw [← Nbq28.out] at hw482_3)
           cases e482; replace hx482_0 := cB HB hx482_0; replace hx482_1 := cB HB hx482_1; replace hx482_2 := cB HB hx482_2; replace hx482_3 := cB HB hx482_3; replace p482 := eq_true p482; replace q482 := eq_true q482
           try go_wp2_with (first | ((with_reducible refine gD 6 ?_); refine boxS (N := 6) (cs := #[.string (⟨#[]⟩ : ByteArray), .int .i64 0, .int .i64 0, .bool false]) (t := 56) ?_; intro gb483 hg w32 hbox hb; have BK483 := aS (hbox); have GW483 := gW (w := w) hg tB; have GE483 := GW483; have NB476_483 := nL hg BK476; have NB483_476 := nR hg BK476; replace BK476 := bB BK476 hb; have NB477_483 := nL hg BK477; have NB483_477 := nR hg BK477; replace BK477 := bB BK477 hb; replace HB := aS (below_step tB hb); clear hb hbox hg; obtain ⟨hnb33, hnc33⟩ := bO NB483_476 NB476_483; obtain ⟨hnb34, hnc34⟩ := bO NB483_477 NB477_483; obtain ⟨hcz35_0, hcz35_1, hcz35_2, hcz35_3, hfz35_0, hfz35_1, hfz35_2, hfz35_3⟩ := c4 BK483; obtain ⟨hnb36, hnc36⟩ := bO NB477_476 NB476_477; have hcz37_0 := cA BK477 0; have hcz37_1 := cA BK477 1; have hfz37_0 := bF BK477 0; have hfz37_1 := bF BK477 1) | ((with_reducible refine gC 37 ?_); refine goS (some 36) Try.func37 #[.agg #[.slice A1_0 l1_0.length c1_0, .slice A1_1 l1_1.length c1_1], .string ((rd_T56 l0_1 x26_2).f0)] ?_; (with_reducible refine (impl_Dict_find.calls k2 _ _ l1_0 _ _ l1_1 ((rd_T56 l0_1 x26_2).f0) t484 _ ?side1 ?side2 ?side3 ?side4 A30.out).mono ?_); (case side1 => exact Kd.C_below HR1_0.out tB); (case side2 => exact HC1_0.out); (case side3 => exact Kd.C_below HR1_1.out tB); (case side4 => exact HC1_1.out); rintro e w38 ⟨rfl, hb⟩; refine ⟨_, rfl, ?_⟩; have n0_ := aS (blk_below (g := gb476) (o := .cells #[.slice A0_0 l0_0.length c0_0, .slice (some ad482) l0_1.length c0_1] 26 (0, 0)) tZ hb); have n1_ := aS (blk_below (g := gb477) (o := .cells #[.slice A1_0 l1_0.length c1_0, .slice A1_1 l1_1.length c1_1] 26 (0, 0)) tZ hb); have n2_ := aS (blk_below (g := gb483) (o := .cells #[.string ((rd_T56 l0_1 x26_2).f0), .int .i64 ((rd_T56 l0_1 x26_2).f1), .int .i64 ((rd_T56 l0_1 x26_2).f2), .bool true] 56 (0, 0)) tZ hb); have n3_ := aS (below_step tB hb); clear BK476; clear BK477; clear BK483; clear HB; have BK476 := n0_; have BK477 := n1_; have BK483 := n2_; have HB := n3_; clear n0_ n1_ n2_ n3_; (try clear hb); (try clear hb2); (try clear hk); (try clear hi)))
           have n0_ := aS (blk_drew BK476.out); have n1_ := aS (blk_drew BK477.out); have n2_ := aS (blk_drew BK483.out); have n3_ := aS (below_drew1 HB.out); clear BK476; clear BK477; clear BK483; clear HB; have BK476 := n0_; have BK477 := n1_; have BK483 := n2_; have HB := n3_; clear n0_ n1_ n2_ n3_; refine start_ (n := 13) (S := fun w' => True) (ds := []) (.replicate 13 false) (by kernel_rfl) rfl rfl trivial (fun hHeld => ?_); refine with_tabW impl_DictSame.tab8 impl_DictSame.bits8 (fun HT_ HW_ => ?_); generalize w38.drew = w39 at BK476 BK477 BK483 HB hHeld ⊢; refine pN 0 37 ?_; refine pN 1 38 ?_; refine pN 2 39 ?_; refine uN 3 40 ?_; refine uN 4 41 ?_; refine uN 5 42 ?_; refine uN 6 43 ?_; refine uN 7 44 ?_; refine uN 8 45 ?_; refine uN 9 46 ?_; refine uN 10 47 ?_; refine uN 11 48 ?_; refine pN 12 49 ?_; refine dN ?_
           try go_wp2
           go_ret; exact ⟨tE, tB⟩
         rw [if_neg c31] at H; have c31b0 : decide (t484 < 0) = false := decide_eq_false c31; clear c31; by_cases c40 : 0 ≤ t484
         case neg =>
          rw [if_neg c40] at H; exact nS H
         rw [if_pos c40] at H; have c40b0 : decide (0 ≤ t484) = true := decide_eq_true c40; clear c40; by_cases c41 : t484 < (l1_1.length : Int)
         case neg =>
          rw [if_neg c41] at H; exact nS H
         rw [if_pos c41] at H; have c41b0 : decide (t484 < (l1_1.length : Int)) = true := decide_eq_true c41; clear c41; by_cases c42 : ((rd_T56 l1_1 t484).f2) = ((rd_T56 l0_1 x26_2).f2)
         · rw [if_pos c42] at H; have c42b0 : (((rd_T56 l1_1 t484).f2) == ((rd_T56 l0_1 x26_2).f2)) = true := beq_iff_eq.mpr c42; have c42b1 : (((rd_T56 l1_1 t484).f2) != ((rd_T56 l0_1 x26_2).f2)) = false := bne_eq_false_iff_eq.mpr c42; clear c42; have H' := aS H; clear H; have p482 : 0 ≤ (x26_2 : Int) := of_decide_eq_true tP; have q482 : x26_2 < (l0_1.length : Int) := of_decide_eq_true tP; obtain ⟨ad482, e482, hx482_0, hx482_1, hx482_2, hx482_3⟩ := at_T56 HR0_1.out x26_2 p482 q482
           (try rw [← Nbq28.out] at hx482_3); (try rw [← Nbq28.out] at hw482_3)
           cases e482; replace hx482_0 := cB HB hx482_0; replace hx482_1 := cB HB hx482_1; replace hx482_2 := cB HB hx482_2; replace hx482_3 := cB HB hx482_3; replace p482 := eq_true p482; replace q482 := eq_true q482
           try go_wp2_with (first | ((with_reducible refine gD 6 ?_); refine boxS (N := 6) (cs := #[.string (⟨#[]⟩ : ByteArray), .int .i64 0, .int .i64 0, .bool false]) (t := 56) ?_; intro gb483 hg w43 hbox hb; have BK483 := aS (hbox); have GW483 := gW (w := w) hg tB; have GE483 := GW483; have NB476_483 := nL hg BK476; have NB483_476 := nR hg BK476; replace BK476 := bB BK476 hb; have NB477_483 := nL hg BK477; have NB483_477 := nR hg BK477; replace BK477 := bB BK477 hb; replace HB := aS (below_step tB hb); clear hb hbox hg; obtain ⟨hnb44, hnc44⟩ := bO NB483_476 NB476_483; obtain ⟨hnb45, hnc45⟩ := bO NB483_477 NB477_483; obtain ⟨hcz46_0, hcz46_1, hcz46_2, hcz46_3, hfz46_0, hfz46_1, hfz46_2, hfz46_3⟩ := c4 BK483; obtain ⟨hnb47, hnc47⟩ := bO NB477_476 NB476_477; have hcz48_0 := cA BK477 0; have hcz48_1 := cA BK477 1; have hfz48_0 := bF BK477 0; have hfz48_1 := bF BK477 1) | ((with_reducible refine gC 37 ?_); refine goS (some 36) Try.func37 #[.agg #[.slice A1_0 l1_0.length c1_0, .slice A1_1 l1_1.length c1_1], .string ((rd_T56 l0_1 x26_2).f0)] ?_; (with_reducible refine (impl_Dict_find.calls k2 _ _ l1_0 _ _ l1_1 ((rd_T56 l0_1 x26_2).f0) t484 _ ?side1 ?side2 ?side3 ?side4 A30.out).mono ?_); (case side1 => exact Kd.C_below HR1_0.out tB); (case side2 => exact HC1_0.out); (case side3 => exact Kd.C_below HR1_1.out tB); (case side4 => exact HC1_1.out); rintro e w49 ⟨rfl, hb⟩; refine ⟨_, rfl, ?_⟩; have n0_ := aS (blk_below (g := gb476) (o := .cells #[.slice A0_0 l0_0.length c0_0, .slice (some ad482) l0_1.length c0_1] 26 (0, 0)) tZ hb); have n1_ := aS (blk_below (g := gb477) (o := .cells #[.slice A1_0 l1_0.length c1_0, .slice A1_1 l1_1.length c1_1] 26 (0, 0)) tZ hb); have n2_ := aS (blk_below (g := gb483) (o := .cells #[.string ((rd_T56 l0_1 x26_2).f0), .int .i64 ((rd_T56 l0_1 x26_2).f1), .int .i64 ((rd_T56 l0_1 x26_2).f2), .bool true] 56 (0, 0)) tZ hb); have n3_ := aS (below_step tB hb); clear BK476; clear BK477; clear BK483; clear HB; have BK476 := n0_; have BK477 := n1_; have BK483 := n2_; have HB := n3_; clear n0_ n1_ n2_ n3_; (try clear hb); (try clear hb2); (try clear hk); (try clear hi)))
           have n0_ := aS (blk_drew BK476.out); have n1_ := aS (blk_drew BK477.out); have n2_ := aS (blk_drew BK483.out); have n3_ := aS (below_drew1 HB.out); clear BK476; clear BK477; clear BK483; clear HB; have BK476 := n0_; have BK477 := n1_; have BK483 := n2_; have HB := n3_; clear n0_ n1_ n2_ n3_; have p485 : 0 ≤ (t484 : Int) := of_decide_eq_true tP; have q485 : t484 < (l1_1.length : Int) := of_decide_eq_true tP; obtain ⟨ad485, e485, hx485_0, hx485_1, hx485_2, hx485_3⟩ := at_T56 HR1_1.out t484 p485 q485; have hw485_3 := hx485_3; have hw485_2 := hx485_2; have hw485_1 := hx485_1; have hw485_0 := hx485_0
           (try rw [← Nbq28.out] at hx485_3); (try rw [← Nbq28.out] at hw485_3)
           cases e485; replace hx485_0 := cB HB hx485_0; replace hx485_1 := cB HB hx485_1; replace hx485_2 := cB HB hx485_2; replace hx485_3 := cB HB hx485_3; replace p485 := eq_true p485; replace q485 := eq_true q485; refine start_ (n := 13) (S := fun w' => w'.cell? ⟨gb477, 0, none⟩ = some (.slice A1_0 l1_0.length c1_0) ∧ w'.cell? ⟨gb477, 1, none⟩ = some (.slice (some ad485) l1_1.length c1_1) ∧ w'.cell? ⟨gb483, 0, none⟩ = some (.string ((rd_T56 l0_1 x26_2).f0)) ∧ w'.cell? ⟨gb483, 1, none⟩ = some (.int .i64 ((rd_T56 l0_1 x26_2).f1)) ∧ w'.cell? ⟨gb483, 2, none⟩ = some (.int .i64 ((rd_T56 l0_1 x26_2).f2)) ∧ w'.cell? ⟨gb483, 3, none⟩ = some (.bool true) ∧ w'.cell? (ad485.add ((t484).toNat * 4)) = some (.string ((rd_T56 l1_1 t484).f0)) ∧ w'.cell? ⟨(ad485.add ((t484).toNat * 4)).block, (ad485.add ((t484).toNat * 4)).off + 1, none⟩ = some (.int .i64 ((rd_T56 l1_1 t484).f1)) ∧ w'.cell? ⟨(ad485.add ((t484).toNat * 4)).block, (ad485.add ((t484).toNat * 4)).off + 2, none⟩ = some (.int .i64 ((rd_T56 l1_1 t484).f2)) ∧ w'.cell? ⟨(ad485.add ((t484).toNat * 4)).block, (ad485.add ((t484).toNat * 4)).off + 3, none⟩ = some (.bool ((rd_T56 l1_1 t484).f3))) (ds := []) (.replicate 13 false) (by kernel_rfl) rfl rfl ⟨(blk_cell BK477.out 0).trans rfl, (blk_cell BK477.out 1).trans rfl, (blk_cell BK483.out 0).trans rfl, (blk_cell BK483.out 1).trans rfl, (blk_cell BK483.out 2).trans rfl, (blk_cell BK483.out 3).trans rfl, ((HB.out.cell (World.block_lt_of_cell? w _ hw485_0)).trans hw485_0), ((HB.out.cell (World.block_lt_of_cell? w _ hw485_1)).trans hw485_1), ((HB.out.cell (World.block_lt_of_cell? w _ hw485_2)).trans hw485_2), ((HB.out.cell (World.block_lt_of_cell? w _ hw485_3)).trans hw485_3)⟩ (fun hHeld => ?_); refine with_tabW impl_DictSame.tab8 impl_DictSame.bits8 (fun HT_ HW_ => ?_); generalize w49.drew = w50 at BK476 BK477 BK483 HB hx485_0 hx485_1 hx485_2 hx485_3 hHeld ⊢; refine pN 0 37 ?_; refine pN 1 38 ?_; refine pN 2 39 ?_; refine pN 3 40 ?_; refine pN 5 42 ?_; refine pN 9 46 ?_; refine tN 4 41 ?_; refine pN 6 43 ?_; refine pN 7 44 ?_; refine tN 8 45 ?_; refine tN 10 47 ?_; refine pN 11 48 ?_; refine pN 12 49 ?_; refine dN ?_
           try go_wp2
           go_roundg k2
           case measure => have := HJ2.out; have := HK2.out; omega
           case rel => exact ⟨(wrap64 (x26_2 + 1)), tX, H', ⟨by have := HJ2.out; have := HK2.out; omega⟩, ⟨tZ⟩, ⟨tZ⟩, ⟨tB⟩⟩
         rw [if_neg c42] at H; have c42b0 : (((rd_T56 l1_1 t484).f2) == ((rd_T56 l0_1 x26_2).f2)) = false := beq_eq_false_iff_ne.mpr c42; have c42b1 : (((rd_T56 l1_1 t484).f2) != ((rd_T56 l0_1 x26_2).f2)) = true := bne_iff_ne.mpr c42; obtain rfl := oI H; have p482 : 0 ≤ (x26_2 : Int) := of_decide_eq_true tP; have q482 : x26_2 < (l0_1.length : Int) := of_decide_eq_true tP; obtain ⟨ad482, e482, hx482_0, hx482_1, hx482_2, hx482_3⟩ := at_T56 HR0_1.out x26_2 p482 q482
         (try rw [← Nbq28.out] at hx482_3); (try rw [← Nbq28.out] at hw482_3)
         cases e482; replace hx482_0 := cB HB hx482_0; replace hx482_1 := cB HB hx482_1; replace hx482_2 := cB HB hx482_2; replace hx482_3 := cB HB hx482_3; replace p482 := eq_true p482; replace q482 := eq_true q482
         try go_wp2_with (first | ((with_reducible refine gD 6 ?_); refine boxS (N := 6) (cs := #[.string (⟨#[]⟩ : ByteArray), .int .i64 0, .int .i64 0, .bool false]) (t := 56) ?_; intro gb483 hg w51 hbox hb; have BK483 := aS (hbox); have GW483 := gW (w := w) hg tB; have GE483 := GW483; have NB476_483 := nL hg BK476; have NB483_476 := nR hg BK476; replace BK476 := bB BK476 hb; have NB477_483 := nL hg BK477; have NB483_477 := nR hg BK477; replace BK477 := bB BK477 hb; replace HB := aS (below_step tB hb); clear hb hbox hg; obtain ⟨hnb52, hnc52⟩ := bO NB483_476 NB476_483; obtain ⟨hnb53, hnc53⟩ := bO NB483_477 NB477_483; obtain ⟨hcz54_0, hcz54_1, hcz54_2, hcz54_3, hfz54_0, hfz54_1, hfz54_2, hfz54_3⟩ := c4 BK483; obtain ⟨hnb55, hnc55⟩ := bO NB477_476 NB476_477; have hcz56_0 := cA BK477 0; have hcz56_1 := cA BK477 1; have hfz56_0 := bF BK477 0; have hfz56_1 := bF BK477 1) | ((with_reducible refine gC 37 ?_); refine goS (some 36) Try.func37 #[.agg #[.slice A1_0 l1_0.length c1_0, .slice A1_1 l1_1.length c1_1], .string ((rd_T56 l0_1 x26_2).f0)] ?_; (with_reducible refine (impl_Dict_find.calls k2 _ _ l1_0 _ _ l1_1 ((rd_T56 l0_1 x26_2).f0) t484 _ ?side1 ?side2 ?side3 ?side4 A30.out).mono ?_); (case side1 => exact Kd.C_below HR1_0.out tB); (case side2 => exact HC1_0.out); (case side3 => exact Kd.C_below HR1_1.out tB); (case side4 => exact HC1_1.out); rintro e w57 ⟨rfl, hb⟩; refine ⟨_, rfl, ?_⟩; have n0_ := aS (blk_below (g := gb476) (o := .cells #[.slice A0_0 l0_0.length c0_0, .slice (some ad482) l0_1.length c0_1] 26 (0, 0)) tZ hb); have n1_ := aS (blk_below (g := gb477) (o := .cells #[.slice A1_0 l1_0.length c1_0, .slice A1_1 l1_1.length c1_1] 26 (0, 0)) tZ hb); have n2_ := aS (blk_below (g := gb483) (o := .cells #[.string ((rd_T56 l0_1 x26_2).f0), .int .i64 ((rd_T56 l0_1 x26_2).f1), .int .i64 ((rd_T56 l0_1 x26_2).f2), .bool true] 56 (0, 0)) tZ hb); have n3_ := aS (below_step tB hb); clear BK476; clear BK477; clear BK483; clear HB; have BK476 := n0_; have BK477 := n1_; have BK483 := n2_; have HB := n3_; clear n0_ n1_ n2_ n3_; (try clear hb); (try clear hb2); (try clear hk); (try clear hi)))
         have n0_ := aS (blk_drew BK476.out); have n1_ := aS (blk_drew BK477.out); have n2_ := aS (blk_drew BK483.out); have n3_ := aS (below_drew1 HB.out); clear BK476; clear BK477; clear BK483; clear HB; have BK476 := n0_; have BK477 := n1_; have BK483 := n2_; have HB := n3_; clear n0_ n1_ n2_ n3_; have p485 : 0 ≤ (t484 : Int) := of_decide_eq_true tP; have q485 : t484 < (l1_1.length : Int) := of_decide_eq_true tP; obtain ⟨ad485, e485, hx485_0, hx485_1, hx485_2, hx485_3⟩ := at_T56 HR1_1.out t484 p485 q485; have hw485_3 := hx485_3; have hw485_2 := hx485_2; have hw485_1 := hx485_1; have hw485_0 := hx485_0
         (try rw [← Nbq28.out] at hx485_3); (try rw [← Nbq28.out] at hw485_3)
         cases e485; replace hx485_0 := cB HB hx485_0; replace hx485_1 := cB HB hx485_1; replace hx485_2 := cB HB hx485_2; replace hx485_3 := cB HB hx485_3; replace p485 := eq_true p485; replace q485 := eq_true q485; refine start_ (n := 13) (S := fun w' => w'.cell? ⟨gb477, 0, none⟩ = some (.slice A1_0 l1_0.length c1_0) ∧ w'.cell? ⟨gb477, 1, none⟩ = some (.slice (some ad485) l1_1.length c1_1) ∧ w'.cell? ⟨gb483, 0, none⟩ = some (.string ((rd_T56 l0_1 x26_2).f0)) ∧ w'.cell? ⟨gb483, 1, none⟩ = some (.int .i64 ((rd_T56 l0_1 x26_2).f1)) ∧ w'.cell? ⟨gb483, 2, none⟩ = some (.int .i64 ((rd_T56 l0_1 x26_2).f2)) ∧ w'.cell? ⟨gb483, 3, none⟩ = some (.bool true) ∧ w'.cell? (ad485.add ((t484).toNat * 4)) = some (.string ((rd_T56 l1_1 t484).f0)) ∧ w'.cell? ⟨(ad485.add ((t484).toNat * 4)).block, (ad485.add ((t484).toNat * 4)).off + 1, none⟩ = some (.int .i64 ((rd_T56 l1_1 t484).f1)) ∧ w'.cell? ⟨(ad485.add ((t484).toNat * 4)).block, (ad485.add ((t484).toNat * 4)).off + 2, none⟩ = some (.int .i64 ((rd_T56 l1_1 t484).f2)) ∧ w'.cell? ⟨(ad485.add ((t484).toNat * 4)).block, (ad485.add ((t484).toNat * 4)).off + 3, none⟩ = some (.bool ((rd_T56 l1_1 t484).f3))) (ds := []) (.replicate 13 false) (by kernel_rfl) rfl rfl ⟨(blk_cell BK477.out 0).trans rfl, (blk_cell BK477.out 1).trans rfl, (blk_cell BK483.out 0).trans rfl, (blk_cell BK483.out 1).trans rfl, (blk_cell BK483.out 2).trans rfl, (blk_cell BK483.out 3).trans rfl, ((HB.out.cell (World.block_lt_of_cell? w _ hw485_0)).trans hw485_0), ((HB.out.cell (World.block_lt_of_cell? w _ hw485_1)).trans hw485_1), ((HB.out.cell (World.block_lt_of_cell? w _ hw485_2)).trans hw485_2), ((HB.out.cell (World.block_lt_of_cell? w _ hw485_3)).trans hw485_3)⟩ (fun hHeld => ?_); refine with_tabW impl_DictSame.tab8 impl_DictSame.bits8 (fun HT_ HW_ => ?_); generalize w57.drew = w58 at BK476 BK477 BK483 HB hx485_0 hx485_1 hx485_2 hx485_3 hHeld ⊢; refine pN 0 37 ?_; refine pN 1 38 ?_; refine pN 2 39 ?_; refine pN 3 40 ?_; refine pN 5 42 ?_; refine pN 9 46 ?_; refine tN 4 41 ?_; refine pN 6 43 ?_; refine pN 7 44 ?_; refine tN 8 45 ?_; refine tN 10 47 ?_; refine pN 11 48 ?_; refine pN 12 49 ?_; refine dN ?_
         try go_wp2
         go_ret; exact ⟨tE, tB⟩
       replace c29 := Bool.eq_false_iff.mpr c29; subst c29; have H1 : (impl_DictSame.l0 k2 l0_1 (l0_1.length : Int) (wrap64 (x26_2 + 1)) l1_0 l1_1) = some r := by rw [if_neg (show ¬ (false = true) by decide)] at H; exact H
       clear H; have H := H1; clear H1; have H' := aS H; clear H; have p482 : 0 ≤ (x26_2 : Int) := of_decide_eq_true tP; have q482 : x26_2 < (l0_1.length : Int) := of_decide_eq_true tP; obtain ⟨ad482, e482, hx482_0, hx482_1, hx482_2, hx482_3⟩ := at_T56 HR0_1.out x26_2 p482 q482
       (try rw [← Nbq28.out] at hx482_3); (try rw [← Nbq28.out] at hw482_3)
       cases e482; replace hx482_0 := cB HB hx482_0; replace hx482_1 := cB HB hx482_1; replace hx482_2 := cB HB hx482_2; replace hx482_3 := cB HB hx482_3; replace p482 := eq_true p482; replace q482 := eq_true q482
       go_wp2_with (first | ((with_reducible refine gD 6 ?_); refine boxS (N := 6) (cs := #[.string (⟨#[]⟩ : ByteArray), .int .i64 0, .int .i64 0, .bool false]) (t := 56) ?_; intro gb483 hg w59 hbox hb; have BK483 := aS (hbox); have GW483 := gW (w := w) hg tB; have GE483 := GW483; have NB476_483 := nL hg BK476; have NB483_476 := nR hg BK476; replace BK476 := bB BK476 hb; have NB477_483 := nL hg BK477; have NB483_477 := nR hg BK477; replace BK477 := bB BK477 hb; replace HB := aS (below_step tB hb); clear hb hbox hg; obtain ⟨hnb60, hnc60⟩ := bO NB483_476 NB476_483; obtain ⟨hnb61, hnc61⟩ := bO NB483_477 NB477_483; have hcz62_0 := cA BK483 0; have hcz62_1 := cA BK483 1; have hcz62_2 := cA BK483 2; have hcz62_3 := cA BK483 3; have hfz62_0 := bF BK483 0; have hfz62_1 := bF BK483 1; have hfz62_2 := bF BK483 2; have hfz62_3 := bF BK483 3))
       go_roundg k2
       case measure => have := HJ2.out; have := HK2.out; omega
       case rel => exact ⟨(wrap64 (x26_2 + 1)), tX, H', ⟨by have := HJ2.out; have := HK2.out; omega⟩, ⟨tZ⟩, ⟨tZ⟩, ⟨tB⟩⟩
     rw [if_neg c25] at H; have c25b0 : decide (x26_2 < (l0_1.length : Int)) = false := decide_eq_false c25; clear c25; obtain rfl := oI H; go_wp2; go_ret; exact ⟨tE, tB⟩

end Go.Proofs.Ytihcollncjcpgaa.P
