/- Contracts of the Go functions that the seat's laws reach, one after the other: the machine's call comes to what the plain Lean function beside it says; no conditions but those that each contract names. Laid by this session's program wip/pp.py, which drives the kit's printer. -/
import Derived.Test.YtihcollncjcpgaaEx0
import Derived.Test.YtihcollncjcpgaaEx13
namespace Go.Proofs.Ytihcollncjcpgaa.E
open Go.RowKit Go.Proofs.YtihcollncjcpgaaW.PrintWords Go.Proofs.YtihcollncjcpgaaW.PrintLast Go.Proofs.YtihcollncjcpgaaW.PrintMore
attribute [local go_sem] max2_int min2_int max_two min_two max_three min_three max_four min_four   -- for this text's walks alone
set_option linter.unusedVariables false
set_option linter.unusedSimpArgs false

/-! ### laws_heldIntS: function 59 -/
def laws_heldIntS.l0 : Nat → List Int → Int → Int → Option (Int)
 | 0, _, _, _ => none
 | k + 1, x0, x1, x5 => if x5 < (x0.length : Int) then (if 0 ≤ x5 then (if (rd x0 x5) = x1 then (laws_heldIntS.l0 k x0 (wrap64 (x1 + 1)) (wrap64 (x5 + 1))) else (some (-1))) else (none)) else (some x1)
def laws_heldIntS.f (k : Nat) (l0 : List Int) (a1 : Int) : Option (Int) := laws_heldIntS.l0 k l0 a1 0
theorem laws_heldIntS.mono_l : ∀ k, (∀ y0 y1 y2, LeO (laws_heldIntS.l0 k y0 y1 y2) (laws_heldIntS.l0 (k + 1) y0 y1 y2))
 | 0 => fun _ _ _ r h => by simp [laws_heldIntS.l0] at h
 | k + 1 => by
  have ih0 := laws_heldIntS.mono_l k; intro y0 y1 y2
  unfold laws_heldIntS.l0
  exact tM
theorem laws_heldIntS.mono : ∀ a0 a1 k, LeO (laws_heldIntS.f k a0 a1) (laws_heldIntS.f (k + 1) a0 a1) := by
 intro a0 a1 k; have ih0 := laws_heldIntS.mono_l k
 unfold laws_heldIntS.f
 exact tM
set_option maxHeartbeats 8000000 in
set_option maxRecDepth 100000 in
theorem laws_heldIntS.calls (k : Nat) (A0 : Option Addr) (c0 : Nat) (l0 : List Int) (a1 : Int) (r : Int) (w : World) (hr0 : Kd.C (Kd.int .i64) w A0 l0.length l0) (hc0 : l0.length ≤ c0) (h : laws_heldIntS.f k l0 a1 = some r) :
 Calls Try.prog 59 #[.slice A0 l0.length c0, .int .i64 a1] w fun e w' => e = .returned (.int .i64 r) ∧ Drawn0 w w' := by
 have HR0 := aS hr0; have HC0 := aS hc0; clear hr0 hc0; have H : (laws_heldIntS.l0 k l0 a1 0) = some r := h; clear h; have H' := aS H; clear H
 go_enter Try.func59, Try.ntmps59
 go_wp2
 go_loopg [1, 5] k (fun kq v1 v5 w' => ∃ (x1_1 : Int) (x5_1 : Int), v1 = .int .i64 x1_1 ∧ v5 = .int .i64 x5_1 ∧ Aside0 (laws_heldIntS.l0 kq l0 x1_1 x5_1 = some r) ∧ Aside0 (kq ≤ k) ∧ Drawn0 w w')
 case atStart => exact ⟨(a1), (0), tX, tX, H', ⟨Nat.le_refl _⟩, by repeat (first | exact Drawn0.refl _ | apply Drawn0.step)⟩
 case round =>
  clear H'; obtain ⟨x1_1, x5_1, rfl, rfl, HA, HK1, ⟨m1, rfl⟩⟩ := hrel
  cases gk with
  | zero => exact absurd HA.out (by simp [laws_heldIntS.l0])
  | succ k1 =>
   have H := HA.out; clear HA; simp only [laws_heldIntS.l0] at H; by_cases c3 : x5_1 < (l0.length : Int)
   · rw [if_pos c3] at H; have c3b0 : decide (x5_1 < (l0.length : Int)) = true := decide_eq_true c3; clear c3; by_cases c4 : 0 ≤ x5_1
     case neg =>
      rw [if_neg c4] at H; exact nS H
     rw [if_pos c4] at H; have c4b0 : decide (0 ≤ x5_1) = true := decide_eq_true c4; clear c4; by_cases c5 : (rd l0 x5_1) = x1_1
     · rw [if_pos c5] at H; have c5b0 : ((rd l0 x5_1) == x1_1) = true := beq_iff_eq.mpr c5; have c5b1 : ((rd l0 x5_1) != x1_1) = false := bne_eq_false_iff_eq.mpr c5; clear c5; have H' := aS H; clear H; have p339 : 0 ≤ (x5_1 : Int) := of_decide_eq_true tP; have q339 : x5_1 < (l0.length : Int) := of_decide_eq_true tP; obtain ⟨ad339, e339, hx339_0⟩ := Kd.at_int HR0.out x5_1 p339 q339; cases e339; replace p339 := eq_true p339; replace q339 := eq_true q339; go_wp2; go_roundg k1
       case measure => have := HK1.out; omega
       case rel => exact ⟨(wrap64 (x1_1 + 1)), (wrap64 (x5_1 + 1)), tX, tX, H', ⟨by have := HK1.out; omega⟩, by repeat (first | exact Drawn0.refl _ | apply Drawn0.step)⟩
     rw [if_neg c5] at H; have c5b0 : ((rd l0 x5_1) == x1_1) = false := beq_eq_false_iff_ne.mpr c5; have c5b1 : ((rd l0 x5_1) != x1_1) = true := bne_iff_ne.mpr c5; obtain rfl := oI H; have p339 : 0 ≤ (x5_1 : Int) := of_decide_eq_true tP; have q339 : x5_1 < (l0.length : Int) := of_decide_eq_true tP; obtain ⟨ad339, e339, hx339_0⟩ := Kd.at_int HR0.out x5_1 p339 q339; cases e339; replace p339 := eq_true p339; replace q339 := eq_true q339; go_wp2; go_ret; exact ⟨by first | rfl | (simp; done) | (simp [*]; done), by repeat (first | exact Drawn0.refl _ | apply Drawn0.step)⟩
   rw [if_neg c3] at H; have c3b0 : decide (x5_1 < (l0.length : Int)) = false := decide_eq_false c3; clear c3; obtain rfl := oI H; go_wp2; go_ret; exact ⟨by first | rfl | (simp; done) | (simp [*]; done), by repeat (first | exact Drawn0.refl _ | apply Drawn0.step)⟩

/-! ### laws_heldEntryS: function 60 -/
def laws_heldEntryS.l0 : Nat → List (S56) → Int → Int → Option (Int)
 | 0, _, _, _ => none
 | k + 1, x0, x1, x5 => if x5 < (x0.length : Int) then (if 0 ≤ x5 then ((laws_markText.f k x1).bind fun t341 => (if ((rd_T56 x0 x5).f0).toList = t341.toList then (if ((rd_T56 x0 x5).f1) = (wrap64 (x1 + 1)) then (if ((rd_T56 x0 x5).f2) = (wrap64 ((wrap64 (x1 + 1)) + 1)) then (if (((rd_T56 x0 x5).f3) != ((Int.tmod (wrap64 ((wrap64 ((wrap64 (x1 + 1)) + 1)) + 1)) 3) == 0)) = true then (some (-1)) else (laws_heldEntryS.l0 k x0 (wrap64 ((wrap64 ((wrap64 ((wrap64 (x1 + 1)) + 1)) + 1)) + 1)) (wrap64 (x5 + 1)))) else (some (-1))) else (some (-1))) else (some (-1)))) else (none)) else (some x1)
def laws_heldEntryS.f (k : Nat) (l0 : List (S56)) (a1 : Int) : Option (Int) := laws_heldEntryS.l0 k l0 a1 0
theorem laws_heldEntryS.mono_l : ∀ k, (∀ y0 y1 y2, LeO (laws_heldEntryS.l0 k y0 y1 y2) (laws_heldEntryS.l0 (k + 1) y0 y1 y2))
 | 0 => fun _ _ _ r h => by simp [laws_heldEntryS.l0] at h
 | k + 1 => by
  have ih0 := laws_heldEntryS.mono_l k; intro y0 y1 y2
  unfold laws_heldEntryS.l0
  have m0_ := @laws_markText.mono; exact tM
theorem laws_heldEntryS.mono : ∀ a0 a1 k, LeO (laws_heldEntryS.f k a0 a1) (laws_heldEntryS.f (k + 1) a0 a1) := by
 intro a0 a1 k; have ih0 := laws_heldEntryS.mono_l k
 unfold laws_heldEntryS.f
 have m0_ := @laws_markText.mono; exact tM
def laws_heldEntryS.T4 : Bool × List (List Nat × List Nat) := (true, [([], []), ([], []), ([0, 1], [0, 1]), ([2], [2]), ([3], [3]), ([], []), ([5], [5]), ([4, 6], [4, 6])])
def laws_heldEntryS.B4 : List Nat := [0, 0, 3, 7, 15, 0, 32, 127]
theorem laws_heldEntryS.tab4 : rtab .any (opsOf Try.f60 4) = laws_heldEntryS.T4 := by kernel_rfl
theorem laws_heldEntryS.bits4 : waitsOk laws_heldEntryS.T4.2 laws_heldEntryS.B4 = true := by kernel_rfl
set_option maxHeartbeats 8000000 in
set_option maxRecDepth 100000 in
theorem laws_heldEntryS.calls (k : Nat) (A0 : Option Addr) (c0 : Nat) (l0 : List (S56)) (a1 : Int) (r : Int) (w : World) (hr0 : Kd.C k56 w A0 l0.length l0) (hc0 : l0.length ≤ c0) (h : laws_heldEntryS.f k l0 a1 = some r) :
 Calls Try.prog 60 #[.slice A0 l0.length c0, .int .i64 a1] w fun e w' => e = .returned (.int .i64 r) ∧ Below w.heap.size w w' := by
 have HR0 := aS hr0; have HC0 := aS hc0; clear hr0 hc0; have HB := aS (Below.refl w.heap.size w); have H : (laws_heldEntryS.l0 k l0 a1 0) = some r := h; clear h; have H' := aS H; clear H
 go_enter Try.func60, Try.ntmps60
 go_wp2
 go_loopg [1, 5] k (fun kq v1 v5 w' => ∃ (x1_1 : Int) (x5_1 : Int), v1 = .int .i64 x1_1 ∧ v5 = .int .i64 x5_1 ∧ Aside0 (laws_heldEntryS.l0 kq l0 x1_1 x5_1 = some r) ∧ Aside0 (kq ≤ k) ∧ Aside0 (Below w.heap.size w w'))
 case atStart => exact ⟨(a1), (0), tX, tX, H', ⟨Nat.le_refl _⟩, ⟨tB⟩⟩
 case round =>
  clear H'; obtain ⟨x1_1, x5_1, rfl, rfl, HA, HK1, HB⟩ := hrel
  cases gk with
  | zero => exact absurd HA.out (by simp [laws_heldEntryS.l0])
  | succ k1 =>
   have H := HA.out; clear HA; simp only [laws_heldEntryS.l0] at H; by_cases c3 : x5_1 < (l0.length : Int)
   · rw [if_pos c3] at H; have c3b0 : decide (x5_1 < (l0.length : Int)) = true := decide_eq_true c3; clear c3; by_cases c4 : 0 ≤ x5_1
     case neg =>
      rw [if_neg c4] at H; exact nS H
     rw [if_pos c4] at H; have c4b0 : decide (0 ≤ x5_1) = true := decide_eq_true c4; clear c4; replace H := oB H; obtain ⟨t341, A50, H⟩ := H; replace H : (if ((rd_T56 l0 x5_1).f0).toList = t341.toList then (if ((rd_T56 l0 x5_1).f1) = (wrap64 (x1_1 + 1)) then (if ((rd_T56 l0 x5_1).f2) = (wrap64 ((wrap64 (x1_1 + 1)) + 1)) then (if (((rd_T56 l0 x5_1).f3) != ((Int.tmod (wrap64 ((wrap64 ((wrap64 (x1_1 + 1)) + 1)) + 1)) 3) == 0)) = true then (some (-1)) else (laws_heldEntryS.l0 k1 l0 (wrap64 ((wrap64 ((wrap64 ((wrap64 (x1_1 + 1)) + 1)) + 1)) + 1)) (wrap64 (x5_1 + 1)))) else (some (-1))) else (some (-1))) else (some (-1))) = some r := H; have A5 := aS A50; clear A50; by_cases c6 : ((rd_T56 l0 x5_1).f0).toList = t341.toList
     · rw [if_pos c6] at H; have c6b0 : (((rd_T56 l0 x5_1).f0).toList == t341.toList) = true := beq_iff_eq.mpr c6; have c6b1 : (((rd_T56 l0 x5_1).f0).toList != t341.toList) = false := bne_eq_false_iff_eq.mpr c6; clear c6; by_cases c7 : ((rd_T56 l0 x5_1).f1) = (wrap64 (x1_1 + 1))
       · rw [if_pos c7] at H; have c7b0 : (((rd_T56 l0 x5_1).f1) == (wrap64 (x1_1 + 1))) = true := beq_iff_eq.mpr c7; have c7b1 : (((rd_T56 l0 x5_1).f1) != (wrap64 (x1_1 + 1))) = false := bne_eq_false_iff_eq.mpr c7; clear c7; by_cases c8 : ((rd_T56 l0 x5_1).f2) = (wrap64 ((wrap64 (x1_1 + 1)) + 1))
         · rw [if_pos c8] at H; have c8b0 : (((rd_T56 l0 x5_1).f2) == (wrap64 ((wrap64 (x1_1 + 1)) + 1))) = true := beq_iff_eq.mpr c8; have c8b1 : (((rd_T56 l0 x5_1).f2) != (wrap64 ((wrap64 (x1_1 + 1)) + 1))) = false := bne_eq_false_iff_eq.mpr c8; clear c8; by_cases c9 : (((rd_T56 l0 x5_1).f3) != ((Int.tmod (wrap64 ((wrap64 ((wrap64 (x1_1 + 1)) + 1)) + 1)) 3) == 0)) = true
           · rw [if_pos c9] at H; have c9b0 : (((rd_T56 l0 x5_1).f3) != ((Int.tmod (wrap64 ((wrap64 ((wrap64 (x1_1 + 1)) + 1)) + 1)) 3) == 0)) = true := c9
             (try (have c9b1 : decide (((rd_T56 l0 x5_1).f3) = ((Int.tmod (wrap64 ((wrap64 ((wrap64 (x1_1 + 1)) + 1)) + 1)) 3) == 0)) = false := by simpa using c9))
             (try (have c9b2 : (((rd_T56 l0 x5_1).f3) == ((Int.tmod (wrap64 ((wrap64 ((wrap64 (x1_1 + 1)) + 1)) + 1)) 3) == 0)) = false := by simpa using c9))
             (try (have c9b3 : ¬ (((rd_T56 l0 x5_1).f3) = ((Int.tmod (wrap64 ((wrap64 ((wrap64 (x1_1 + 1)) + 1)) + 1)) 3) == 0)) := by simpa using c9))
             clear c9; obtain rfl := oI H
             try go_wp2
             have n0_ := aS (below_drew1 HB.out); clear HB; have HB := n0_; clear n0_; have p340 : 0 ≤ (x5_1 : Int) := of_decide_eq_true tP; have q340 : x5_1 < (l0.length : Int) := of_decide_eq_true tP; obtain ⟨ad340, e340, hx340_0, hx340_1, hx340_2, hx340_3⟩ := at_T56 HR0.out x5_1 p340 q340; have hw340_3 := hx340_3; have hw340_2 := hx340_2; have hw340_1 := hx340_1; have hw340_0 := hx340_0; cases e340; replace hx340_0 := cB HB hx340_0; replace hx340_1 := cB HB hx340_1; replace hx340_2 := cB HB hx340_2; replace hx340_3 := cB HB hx340_3; replace p340 := eq_true p340; replace q340 := eq_true q340; refine start_ (n := 8) (S := fun w' => w'.cell? (ad340.add ((x5_1).toNat * 4)) = some (.string ((rd_T56 l0 x5_1).f0)) ∧ w'.cell? ⟨(ad340.add ((x5_1).toNat * 4)).block, (ad340.add ((x5_1).toNat * 4)).off + 1, none⟩ = some (.int .i64 ((rd_T56 l0 x5_1).f1)) ∧ w'.cell? ⟨(ad340.add ((x5_1).toNat * 4)).block, (ad340.add ((x5_1).toNat * 4)).off + 2, none⟩ = some (.int .i64 ((rd_T56 l0 x5_1).f2)) ∧ w'.cell? ⟨(ad340.add ((x5_1).toNat * 4)).block, (ad340.add ((x5_1).toNat * 4)).off + 3, none⟩ = some (.bool ((rd_T56 l0 x5_1).f3))) (ds := []) (.replicate 8 false) (by kernel_rfl) rfl rfl ⟨((HB.out.cell (World.block_lt_of_cell? w _ hw340_0)).trans hw340_0), ((HB.out.cell (World.block_lt_of_cell? w _ hw340_1)).trans hw340_1), ((HB.out.cell (World.block_lt_of_cell? w _ hw340_2)).trans hw340_2), ((HB.out.cell (World.block_lt_of_cell? w _ hw340_3)).trans hw340_3)⟩ (fun hHeld => ?_); refine with_tabW laws_heldEntryS.tab4 laws_heldEntryS.bits4 (fun HT_ HW_ => ?_); generalize wr.drew = w10 at HB hx340_0 hx340_1 hx340_2 hx340_3 hHeld ⊢; refine pN 0 12 ?_; refine pN 1 13 ?_; refine pN 2 14 ?_; refine pN 3 15 ?_; refine pN 5 17 ?_; refine tN 4 16 ?_; refine oN 6 18 (fun K hK => ?_); refine goes_ Try.func78 (by kernel_rfl) rfl #[.int .i64 x1_1] (by rfl) rfl rfl tA ?_
             with_reducible refine (laws_markText.calls k1 x1_1 t341 _ A5.out).mono ?_
             rintro e w11 ⟨rfl, hb⟩; refine ⟨_, rfl, ?_⟩; have n0_ := aS (below_step tB hb); clear HB; have HB := n0_; clear n0_
             try clear hb
             refine hK.out _ _ ⟨((HB.out.cell (World.block_lt_of_cell? w _ hw340_0)).trans hw340_0), ((HB.out.cell (World.block_lt_of_cell? w _ hw340_1)).trans hw340_1), ((HB.out.cell (World.block_lt_of_cell? w _ hw340_2)).trans hw340_2), ((HB.out.cell (World.block_lt_of_cell? w _ hw340_3)).trans hw340_3)⟩ (fun hHeld => ?_); clear hK K; refine norm_ (a' := ?_) ?_ ?_
             rotate_left
             · show Act.put _ (some 18) _ = _
               simp only [Act.put, List.setIfInBounds_toArray, List.set_cons_zero, List.set_cons_succ, i64_w, i32_w]
               rfl
             refine pN 7 19 ?_; refine dN ?_; have p342 : 0 ≤ (x5_1 : Int) := of_decide_eq_true tP; have q342 : x5_1 < (l0.length : Int) := of_decide_eq_true tP; obtain ⟨ad342, e342, hx342_0, hx342_1, hx342_2, hx342_3⟩ := at_T56 HR0.out x5_1 p342 q342; obtain rfl : ad340 = ad342 := (by injection e342); replace hx342_0 := cB HB hx342_0; replace hx342_1 := cB HB hx342_1; replace hx342_2 := cB HB hx342_2; replace hx342_3 := cB HB hx342_3; replace p342 := eq_true p342; replace q342 := eq_true q342; have p343 : 0 ≤ (x5_1 : Int) := of_decide_eq_true tP; have q343 : x5_1 < (l0.length : Int) := of_decide_eq_true tP; obtain ⟨ad343, e343, hx343_0, hx343_1, hx343_2, hx343_3⟩ := at_T56 HR0.out x5_1 p343 q343; obtain rfl : ad340 = ad343 := (by injection e343); replace hx343_0 := cB HB hx343_0; replace hx343_1 := cB HB hx343_1; replace hx343_2 := cB HB hx343_2; replace hx343_3 := cB HB hx343_3; replace p343 := eq_true p343; replace q343 := eq_true q343; have p344 : 0 ≤ (x5_1 : Int) := of_decide_eq_true tP; have q344 : x5_1 < (l0.length : Int) := of_decide_eq_true tP; obtain ⟨ad344, e344, hx344_0, hx344_1, hx344_2, hx344_3⟩ := at_T56 HR0.out x5_1 p344 q344; obtain rfl : ad340 = ad344 := (by injection e344); replace hx344_0 := cB HB hx344_0; replace hx344_1 := cB HB hx344_1; replace hx344_2 := cB HB hx344_2; replace hx344_3 := cB HB hx344_3; replace p344 := eq_true p344; replace q344 := eq_true q344
             try go_wp2
             go_ret; exact ⟨tE, tB⟩
           rw [if_neg c9] at H; have c9b0 : (((rd_T56 l0 x5_1).f3) != ((Int.tmod (wrap64 ((wrap64 ((wrap64 (x1_1 + 1)) + 1)) + 1)) 3) == 0)) = false := by simpa using c9
           (try (have c9b1 : decide (((rd_T56 l0 x5_1).f3) = ((Int.tmod (wrap64 ((wrap64 ((wrap64 (x1_1 + 1)) + 1)) + 1)) 3) == 0)) = true := by simpa using c9))
           (try (have c9b2 : (((rd_T56 l0 x5_1).f3) == ((Int.tmod (wrap64 ((wrap64 ((wrap64 (x1_1 + 1)) + 1)) + 1)) 3) == 0)) = true := by simpa using c9))
           clear c9; have H' := aS H; clear H
           try go_wp2
           have n0_ := aS (below_drew1 HB.out); clear HB; have HB := n0_; clear n0_; have p340 : 0 ≤ (x5_1 : Int) := of_decide_eq_true tP; have q340 : x5_1 < (l0.length : Int) := of_decide_eq_true tP; obtain ⟨ad340, e340, hx340_0, hx340_1, hx340_2, hx340_3⟩ := at_T56 HR0.out x5_1 p340 q340; have hw340_3 := hx340_3; have hw340_2 := hx340_2; have hw340_1 := hx340_1; have hw340_0 := hx340_0; cases e340; replace hx340_0 := cB HB hx340_0; replace hx340_1 := cB HB hx340_1; replace hx340_2 := cB HB hx340_2; replace hx340_3 := cB HB hx340_3; replace p340 := eq_true p340; replace q340 := eq_true q340; refine start_ (n := 8) (S := fun w' => w'.cell? (ad340.add ((x5_1).toNat * 4)) = some (.string ((rd_T56 l0 x5_1).f0)) ∧ w'.cell? ⟨(ad340.add ((x5_1).toNat * 4)).block, (ad340.add ((x5_1).toNat * 4)).off + 1, none⟩ = some (.int .i64 ((rd_T56 l0 x5_1).f1)) ∧ w'.cell? ⟨(ad340.add ((x5_1).toNat * 4)).block, (ad340.add ((x5_1).toNat * 4)).off + 2, none⟩ = some (.int .i64 ((rd_T56 l0 x5_1).f2)) ∧ w'.cell? ⟨(ad340.add ((x5_1).toNat * 4)).block, (ad340.add ((x5_1).toNat * 4)).off + 3, none⟩ = some (.bool ((rd_T56 l0 x5_1).f3))) (ds := []) (.replicate 8 false) (by kernel_rfl) rfl rfl ⟨((HB.out.cell (World.block_lt_of_cell? w _ hw340_0)).trans hw340_0), ((HB.out.cell (World.block_lt_of_cell? w _ hw340_1)).trans hw340_1), ((HB.out.cell (World.block_lt_of_cell? w _ hw340_2)).trans hw340_2), ((HB.out.cell (World.block_lt_of_cell? w _ hw340_3)).trans hw340_3)⟩ (fun hHeld => ?_); refine with_tabW laws_heldEntryS.tab4 laws_heldEntryS.bits4 (fun HT_ HW_ => ?_); generalize wr.drew = w12 at HB hx340_0 hx340_1 hx340_2 hx340_3 hHeld ⊢; refine pN 0 12 ?_; refine pN 1 13 ?_; refine pN 2 14 ?_; refine pN 3 15 ?_; refine pN 5 17 ?_; refine tN 4 16 ?_; refine oN 6 18 (fun K hK => ?_); refine goes_ Try.func78 (by kernel_rfl) rfl #[.int .i64 x1_1] (by rfl) rfl rfl tA ?_
           with_reducible refine (laws_markText.calls k1 x1_1 t341 _ A5.out).mono ?_
           rintro e w13 ⟨rfl, hb⟩; refine ⟨_, rfl, ?_⟩; have n0_ := aS (below_step tB hb); clear HB; have HB := n0_; clear n0_
           try clear hb
           refine hK.out _ _ ⟨((HB.out.cell (World.block_lt_of_cell? w _ hw340_0)).trans hw340_0), ((HB.out.cell (World.block_lt_of_cell? w _ hw340_1)).trans hw340_1), ((HB.out.cell (World.block_lt_of_cell? w _ hw340_2)).trans hw340_2), ((HB.out.cell (World.block_lt_of_cell? w _ hw340_3)).trans hw340_3)⟩ (fun hHeld => ?_); clear hK K; refine norm_ (a' := ?_) ?_ ?_
           rotate_left
           · show Act.put _ (some 18) _ = _
             simp only [Act.put, List.setIfInBounds_toArray, List.set_cons_zero, List.set_cons_succ, i64_w, i32_w]
             rfl
           refine pN 7 19 ?_; refine dN ?_; have p342 : 0 ≤ (x5_1 : Int) := of_decide_eq_true tP; have q342 : x5_1 < (l0.length : Int) := of_decide_eq_true tP; obtain ⟨ad342, e342, hx342_0, hx342_1, hx342_2, hx342_3⟩ := at_T56 HR0.out x5_1 p342 q342; obtain rfl : ad340 = ad342 := (by injection e342); replace hx342_0 := cB HB hx342_0; replace hx342_1 := cB HB hx342_1; replace hx342_2 := cB HB hx342_2; replace hx342_3 := cB HB hx342_3; replace p342 := eq_true p342; replace q342 := eq_true q342; have p343 : 0 ≤ (x5_1 : Int) := of_decide_eq_true tP; have q343 : x5_1 < (l0.length : Int) := of_decide_eq_true tP; obtain ⟨ad343, e343, hx343_0, hx343_1, hx343_2, hx343_3⟩ := at_T56 HR0.out x5_1 p343 q343; obtain rfl : ad340 = ad343 := (by injection e343); replace hx343_0 := cB HB hx343_0; replace hx343_1 := cB HB hx343_1; replace hx343_2 := cB HB hx343_2; replace hx343_3 := cB HB hx343_3; replace p343 := eq_true p343; replace q343 := eq_true q343; have p344 : 0 ≤ (x5_1 : Int) := of_decide_eq_true tP; have q344 : x5_1 < (l0.length : Int) := of_decide_eq_true tP; obtain ⟨ad344, e344, hx344_0, hx344_1, hx344_2, hx344_3⟩ := at_T56 HR0.out x5_1 p344 q344; obtain rfl : ad340 = ad344 := (by injection e344); replace hx344_0 := cB HB hx344_0; replace hx344_1 := cB HB hx344_1; replace hx344_2 := cB HB hx344_2; replace hx344_3 := cB HB hx344_3; replace p344 := eq_true p344; replace q344 := eq_true q344
           try go_wp2
           go_roundg k1
           case measure => have := HK1.out; omega
           case rel => exact ⟨(wrap64 ((wrap64 ((wrap64 ((wrap64 (x1_1 + 1)) + 1)) + 1)) + 1)), (wrap64 (x5_1 + 1)), tX, tX, H', ⟨by have := HK1.out; omega⟩, ⟨tB⟩⟩
         rw [if_neg c8] at H; have c8b0 : (((rd_T56 l0 x5_1).f2) == (wrap64 ((wrap64 (x1_1 + 1)) + 1))) = false := beq_eq_false_iff_ne.mpr c8; have c8b1 : (((rd_T56 l0 x5_1).f2) != (wrap64 ((wrap64 (x1_1 + 1)) + 1))) = true := bne_iff_ne.mpr c8; obtain rfl := oI H
         try go_wp2
         have n0_ := aS (below_drew1 HB.out); clear HB; have HB := n0_; clear n0_; have p340 : 0 ≤ (x5_1 : Int) := of_decide_eq_true tP; have q340 : x5_1 < (l0.length : Int) := of_decide_eq_true tP; obtain ⟨ad340, e340, hx340_0, hx340_1, hx340_2, hx340_3⟩ := at_T56 HR0.out x5_1 p340 q340; have hw340_3 := hx340_3; have hw340_2 := hx340_2; have hw340_1 := hx340_1; have hw340_0 := hx340_0; cases e340; replace hx340_0 := cB HB hx340_0; replace hx340_1 := cB HB hx340_1; replace hx340_2 := cB HB hx340_2; replace hx340_3 := cB HB hx340_3; replace p340 := eq_true p340; replace q340 := eq_true q340; refine start_ (n := 8) (S := fun w' => w'.cell? (ad340.add ((x5_1).toNat * 4)) = some (.string ((rd_T56 l0 x5_1).f0)) ∧ w'.cell? ⟨(ad340.add ((x5_1).toNat * 4)).block, (ad340.add ((x5_1).toNat * 4)).off + 1, none⟩ = some (.int .i64 ((rd_T56 l0 x5_1).f1)) ∧ w'.cell? ⟨(ad340.add ((x5_1).toNat * 4)).block, (ad340.add ((x5_1).toNat * 4)).off + 2, none⟩ = some (.int .i64 ((rd_T56 l0 x5_1).f2)) ∧ w'.cell? ⟨(ad340.add ((x5_1).toNat * 4)).block, (ad340.add ((x5_1).toNat * 4)).off + 3, none⟩ = some (.bool ((rd_T56 l0 x5_1).f3))) (ds := []) (.replicate 8 false) (by kernel_rfl) rfl rfl ⟨((HB.out.cell (World.block_lt_of_cell? w _ hw340_0)).trans hw340_0), ((HB.out.cell (World.block_lt_of_cell? w _ hw340_1)).trans hw340_1), ((HB.out.cell (World.block_lt_of_cell? w _ hw340_2)).trans hw340_2), ((HB.out.cell (World.block_lt_of_cell? w _ hw340_3)).trans hw340_3)⟩ (fun hHeld => ?_); refine with_tabW laws_heldEntryS.tab4 laws_heldEntryS.bits4 (fun HT_ HW_ => ?_); generalize wr.drew = w14 at HB hx340_0 hx340_1 hx340_2 hx340_3 hHeld ⊢; refine pN 0 12 ?_; refine pN 1 13 ?_; refine pN 2 14 ?_; refine pN 3 15 ?_; refine pN 5 17 ?_; refine tN 4 16 ?_; refine oN 6 18 (fun K hK => ?_); refine goes_ Try.func78 (by kernel_rfl) rfl #[.int .i64 x1_1] (by rfl) rfl rfl tA ?_
         with_reducible refine (laws_markText.calls k1 x1_1 t341 _ A5.out).mono ?_
         rintro e w15 ⟨rfl, hb⟩; refine ⟨_, rfl, ?_⟩; have n0_ := aS (below_step tB hb); clear HB; have HB := n0_; clear n0_
         try clear hb
         refine hK.out _ _ ⟨((HB.out.cell (World.block_lt_of_cell? w _ hw340_0)).trans hw340_0), ((HB.out.cell (World.block_lt_of_cell? w _ hw340_1)).trans hw340_1), ((HB.out.cell (World.block_lt_of_cell? w _ hw340_2)).trans hw340_2), ((HB.out.cell (World.block_lt_of_cell? w _ hw340_3)).trans hw340_3)⟩ (fun hHeld => ?_); clear hK K; refine norm_ (a' := ?_) ?_ ?_
         rotate_left
         · show Act.put _ (some 18) _ = _
           simp only [Act.put, List.setIfInBounds_toArray, List.set_cons_zero, List.set_cons_succ, i64_w, i32_w]
           rfl
         refine pN 7 19 ?_; refine dN ?_; have p342 : 0 ≤ (x5_1 : Int) := of_decide_eq_true tP; have q342 : x5_1 < (l0.length : Int) := of_decide_eq_true tP; obtain ⟨ad342, e342, hx342_0, hx342_1, hx342_2, hx342_3⟩ := at_T56 HR0.out x5_1 p342 q342; obtain rfl : ad340 = ad342 := (by injection e342); replace hx342_0 := cB HB hx342_0; replace hx342_1 := cB HB hx342_1; replace hx342_2 := cB HB hx342_2; replace hx342_3 := cB HB hx342_3; replace p342 := eq_true p342; replace q342 := eq_true q342; have p343 : 0 ≤ (x5_1 : Int) := of_decide_eq_true tP; have q343 : x5_1 < (l0.length : Int) := of_decide_eq_true tP; obtain ⟨ad343, e343, hx343_0, hx343_1, hx343_2, hx343_3⟩ := at_T56 HR0.out x5_1 p343 q343; obtain rfl : ad340 = ad343 := (by injection e343); replace hx343_0 := cB HB hx343_0; replace hx343_1 := cB HB hx343_1; replace hx343_2 := cB HB hx343_2; replace hx343_3 := cB HB hx343_3; replace p343 := eq_true p343; replace q343 := eq_true q343
         try go_wp2
         go_ret; exact ⟨tE, tB⟩
       rw [if_neg c7] at H; have c7b0 : (((rd_T56 l0 x5_1).f1) == (wrap64 (x1_1 + 1))) = false := beq_eq_false_iff_ne.mpr c7; have c7b1 : (((rd_T56 l0 x5_1).f1) != (wrap64 (x1_1 + 1))) = true := bne_iff_ne.mpr c7; obtain rfl := oI H
       try go_wp2
       have n0_ := aS (below_drew1 HB.out); clear HB; have HB := n0_; clear n0_; have p340 : 0 ≤ (x5_1 : Int) := of_decide_eq_true tP; have q340 : x5_1 < (l0.length : Int) := of_decide_eq_true tP; obtain ⟨ad340, e340, hx340_0, hx340_1, hx340_2, hx340_3⟩ := at_T56 HR0.out x5_1 p340 q340; have hw340_3 := hx340_3; have hw340_2 := hx340_2; have hw340_1 := hx340_1; have hw340_0 := hx340_0; cases e340; replace hx340_0 := cB HB hx340_0; replace hx340_1 := cB HB hx340_1; replace hx340_2 := cB HB hx340_2; replace hx340_3 := cB HB hx340_3; replace p340 := eq_true p340; replace q340 := eq_true q340; refine start_ (n := 8) (S := fun w' => w'.cell? (ad340.add ((x5_1).toNat * 4)) = some (.string ((rd_T56 l0 x5_1).f0)) ∧ w'.cell? ⟨(ad340.add ((x5_1).toNat * 4)).block, (ad340.add ((x5_1).toNat * 4)).off + 1, none⟩ = some (.int .i64 ((rd_T56 l0 x5_1).f1)) ∧ w'.cell? ⟨(ad340.add ((x5_1).toNat * 4)).block, (ad340.add ((x5_1).toNat * 4)).off + 2, none⟩ = some (.int .i64 ((rd_T56 l0 x5_1).f2)) ∧ w'.cell? ⟨(ad340.add ((x5_1).toNat * 4)).block, (ad340.add ((x5_1).toNat * 4)).off + 3, none⟩ = some (.bool ((rd_T56 l0 x5_1).f3))) (ds := []) (.replicate 8 false) (by kernel_rfl) rfl rfl ⟨((HB.out.cell (World.block_lt_of_cell? w _ hw340_0)).trans hw340_0), ((HB.out.cell (World.block_lt_of_cell? w _ hw340_1)).trans hw340_1), ((HB.out.cell (World.block_lt_of_cell? w _ hw340_2)).trans hw340_2), ((HB.out.cell (World.block_lt_of_cell? w _ hw340_3)).trans hw340_3)⟩ (fun hHeld => ?_); refine with_tabW laws_heldEntryS.tab4 laws_heldEntryS.bits4 (fun HT_ HW_ => ?_); generalize wr.drew = w16 at HB hx340_0 hx340_1 hx340_2 hx340_3 hHeld ⊢; refine pN 0 12 ?_; refine pN 1 13 ?_; refine pN 2 14 ?_; refine pN 3 15 ?_; refine pN 5 17 ?_; refine tN 4 16 ?_; refine oN 6 18 (fun K hK => ?_); refine goes_ Try.func78 (by kernel_rfl) rfl #[.int .i64 x1_1] (by rfl) rfl rfl tA ?_
       with_reducible refine (laws_markText.calls k1 x1_1 t341 _ A5.out).mono ?_
       rintro e w17 ⟨rfl, hb⟩; refine ⟨_, rfl, ?_⟩; have n0_ := aS (below_step tB hb); clear HB; have HB := n0_; clear n0_
       try clear hb
       refine hK.out _ _ ⟨((HB.out.cell (World.block_lt_of_cell? w _ hw340_0)).trans hw340_0), ((HB.out.cell (World.block_lt_of_cell? w _ hw340_1)).trans hw340_1), ((HB.out.cell (World.block_lt_of_cell? w _ hw340_2)).trans hw340_2), ((HB.out.cell (World.block_lt_of_cell? w _ hw340_3)).trans hw340_3)⟩ (fun hHeld => ?_); clear hK K; refine norm_ (a' := ?_) ?_ ?_
       rotate_left
       · show Act.put _ (some 18) _ = _
         simp only [Act.put, List.setIfInBounds_toArray, List.set_cons_zero, List.set_cons_succ, i64_w, i32_w]
         rfl
       refine pN 7 19 ?_; refine dN ?_; have p342 : 0 ≤ (x5_1 : Int) := of_decide_eq_true tP; have q342 : x5_1 < (l0.length : Int) := of_decide_eq_true tP; obtain ⟨ad342, e342, hx342_0, hx342_1, hx342_2, hx342_3⟩ := at_T56 HR0.out x5_1 p342 q342; obtain rfl : ad340 = ad342 := (by injection e342); replace hx342_0 := cB HB hx342_0; replace hx342_1 := cB HB hx342_1; replace hx342_2 := cB HB hx342_2; replace hx342_3 := cB HB hx342_3; replace p342 := eq_true p342; replace q342 := eq_true q342
       try go_wp2
       go_ret; exact ⟨tE, tB⟩
     rw [if_neg c6] at H; have c6b0 : (((rd_T56 l0 x5_1).f0).toList == t341.toList) = false := beq_eq_false_iff_ne.mpr c6; have c6b1 : (((rd_T56 l0 x5_1).f0).toList != t341.toList) = true := bne_iff_ne.mpr c6; obtain rfl := oI H
     try go_wp2
     have n0_ := aS (below_drew1 HB.out); clear HB; have HB := n0_; clear n0_; have p340 : 0 ≤ (x5_1 : Int) := of_decide_eq_true tP; have q340 : x5_1 < (l0.length : Int) := of_decide_eq_true tP; obtain ⟨ad340, e340, hx340_0, hx340_1, hx340_2, hx340_3⟩ := at_T56 HR0.out x5_1 p340 q340; have hw340_3 := hx340_3; have hw340_2 := hx340_2; have hw340_1 := hx340_1; have hw340_0 := hx340_0; cases e340; replace hx340_0 := cB HB hx340_0; replace hx340_1 := cB HB hx340_1; replace hx340_2 := cB HB hx340_2; replace hx340_3 := cB HB hx340_3; replace p340 := eq_true p340; replace q340 := eq_true q340; refine start_ (n := 8) (S := fun w' => w'.cell? (ad340.add ((x5_1).toNat * 4)) = some (.string ((rd_T56 l0 x5_1).f0)) ∧ w'.cell? ⟨(ad340.add ((x5_1).toNat * 4)).block, (ad340.add ((x5_1).toNat * 4)).off + 1, none⟩ = some (.int .i64 ((rd_T56 l0 x5_1).f1)) ∧ w'.cell? ⟨(ad340.add ((x5_1).toNat * 4)).block, (ad340.add ((x5_1).toNat * 4)).off + 2, none⟩ = some (.int .i64 ((rd_T56 l0 x5_1).f2)) ∧ w'.cell? ⟨(ad340.add ((x5_1).toNat * 4)).block, (ad340.add ((x5_1).toNat * 4)).off + 3, none⟩ = some (.bool ((rd_T56 l0 x5_1).f3))) (ds := []) (.replicate 8 false) (by kernel_rfl) rfl rfl ⟨((HB.out.cell (World.block_lt_of_cell? w _ hw340_0)).trans hw340_0), ((HB.out.cell (World.block_lt_of_cell? w _ hw340_1)).trans hw340_1), ((HB.out.cell (World.block_lt_of_cell? w _ hw340_2)).trans hw340_2), ((HB.out.cell (World.block_lt_of_cell? w _ hw340_3)).trans hw340_3)⟩ (fun hHeld => ?_); refine with_tabW laws_heldEntryS.tab4 laws_heldEntryS.bits4 (fun HT_ HW_ => ?_); generalize wr.drew = w18 at HB hx340_0 hx340_1 hx340_2 hx340_3 hHeld ⊢; refine pN 0 12 ?_; refine pN 1 13 ?_; refine pN 2 14 ?_; refine pN 3 15 ?_; refine pN 5 17 ?_; refine tN 4 16 ?_; refine oN 6 18 (fun K hK => ?_); refine goes_ Try.func78 (by kernel_rfl) rfl #[.int .i64 x1_1] (by rfl) rfl rfl tA ?_
     with_reducible refine (laws_markText.calls k1 x1_1 t341 _ A5.out).mono ?_
     rintro e w19 ⟨rfl, hb⟩; refine ⟨_, rfl, ?_⟩; have n0_ := aS (below_step tB hb); clear HB; have HB := n0_; clear n0_
     try clear hb
     refine hK.out _ _ ⟨((HB.out.cell (World.block_lt_of_cell? w _ hw340_0)).trans hw340_0), ((HB.out.cell (World.block_lt_of_cell? w _ hw340_1)).trans hw340_1), ((HB.out.cell (World.block_lt_of_cell? w _ hw340_2)).trans hw340_2), ((HB.out.cell (World.block_lt_of_cell? w _ hw340_3)).trans hw340_3)⟩ (fun hHeld => ?_); clear hK K; refine norm_ (a' := ?_) ?_ ?_
     rotate_left
     · show Act.put _ (some 18) _ = _
       simp only [Act.put, List.setIfInBounds_toArray, List.set_cons_zero, List.set_cons_succ, i64_w, i32_w]
       rfl
     refine pN 7 19 ?_; refine dN ?_
     try go_wp2
     go_ret; exact ⟨tE, tB⟩
   rw [if_neg c3] at H; have c3b0 : decide (x5_1 < (l0.length : Int)) = false := decide_eq_false c3; clear c3; obtain rfl := oI H; go_wp2; go_ret; exact ⟨tE, tB⟩

end Go.Proofs.Ytihcollncjcpgaa.E
