/- Contracts of the Go functions that the seat's laws reach, one after the other: the machine's call comes to what the plain Lean function beside it says; no conditions but those that each contract names. Laid by this session's program wip/pp.py, which drives the kit's printer. -/
import Derived.Test.YtihcollncjcpgaaPx0
import Derived.Test.YtihcollncjcpgaaPx12
import Derived.Test.YtihcollncjcpgaaPx13
namespace Go.Proofs.Ytihcollncjcpgaa.P
open Go.RowKit Go.Proofs.YtihcollncjcpgaaW.PrintWords Go.Proofs.YtihcollncjcpgaaW.PrintLast Go.Proofs.YtihcollncjcpgaaW.PrintMore
attribute [local go_sem] max2_int min2_int max_two min_two max_three min_three max_four min_four   -- for this text's walks alone
set_option linter.unusedVariables false
set_option linter.unusedSimpArgs false

/-! ### impl_DictGet: function 12 -/
def impl_DictGet.j0 : Nat → ByteArray → Bool → List Int → List (S56) → Option (Int × Bool)
 | 0, _, _, _, _ => none
 | k + 1, x1, x14, x435000, x435001 => if x14 = true then (some (0, false)) else ((impl_Dict_find.f k x435000 x435001 x1).bind fun t436 => (if t436 < 0 then (some (0, false)) else (if 0 ≤ t436 then (if t436 < (x435001.length : Int) then (some ((rd_T56 x435001 t436).f2, true)) else (none)) else (none))))
def impl_DictGet.f (k : Nat) (l0_0 : List Int) (l0_1 : List (S56)) (a1 : ByteArray) : Option (Int × Bool) := (impl_DictOk.f k l0_0 l0_1).bind fun t435 => (if t435 = true then (impl_DictGet.j0 k a1 (decide ((a1.size : Int) > 20)) l0_0 l0_1) else (impl_DictGet.j0 k a1 true l0_0 l0_1))
theorem impl_DictGet.mono_l : ∀ k, (∀ y0 y1 y2 y3, LeO (impl_DictGet.j0 k y0 y1 y2 y3) (impl_DictGet.j0 (k + 1) y0 y1 y2 y3))
 | 0 => fun _ _ _ _ r h => by simp [impl_DictGet.j0] at h
 | k + 1 => by
  have ih0 := impl_DictGet.mono_l k; intro y0 y1 y2 y3
  unfold impl_DictGet.j0
  have m0_ := @impl_DictOk.mono; have m1_ := @impl_Dict_find.mono; exact tM
theorem impl_DictGet.mono : ∀ a0 a1 a2 k, LeO (impl_DictGet.f k a0 a1 a2) (impl_DictGet.f (k + 1) a0 a1 a2) := by
 intro a0 a1 a2 k; have ih0 := impl_DictGet.mono_l k
 unfold impl_DictGet.f
 have m0_ := @impl_DictOk.mono; have m1_ := @impl_Dict_find.mono; exact tM
set_option maxHeartbeats 8000000 in
set_option maxRecDepth 100000 in
theorem impl_DictGet.calls (k : Nat) (A0_0 : Option Addr) (c0_0 : Nat) (l0_0 : List Int) (A0_1 : Option Addr) (c0_1 : Nat) (l0_1 : List (S56)) (a1 : ByteArray) (r1 : Int) (r2 : Bool) (w : World) (hr0_0 : Kd.C (Kd.int .i64) w A0_0 l0_0.length l0_0) (hc0_0 : l0_0.length ≤ c0_0) (hr0_1 : Kd.C k56 w A0_1 l0_1.length l0_1) (hc0_1 : l0_1.length ≤ c0_1) (h : impl_DictGet.f k l0_0 l0_1 a1 = some (r1, r2)) :
 Calls Try.prog 12 #[.agg #[.slice A0_0 l0_0.length c0_0, .slice A0_1 l0_1.length c0_1], .string a1] w fun e w' => e = .returned (.tuple #[.int .i64 r1, .bool r2]) ∧ Below w.heap.size w w' := by
 have hu26 := Try.underlying26; have HR0_0 := aS hr0_0; have HC0_0 := aS hc0_0; clear hr0_0 hc0_0; have HR0_1 := aS hr0_1; have HC0_1 := aS hc0_1; clear hr0_1 hc0_1; have HB := aS (Below.refl w.heap.size w); have H : ((impl_DictOk.f k l0_0 l0_1).bind fun t435 => (if t435 = true then (impl_DictGet.j0 k a1 (decide ((a1.size : Int) > 20)) l0_0 l0_1) else (impl_DictGet.j0 k a1 true l0_0 l0_1))) = some (r1, r2) := h; clear h; have HC3 := aS H; clear H
 go_enter Try.func12, Try.ntmps12
 go_upto_region 1 with (first | ((with_reducible refine gD 2 ?_); refine boxS (N := 2) (cs := #[.slice A0_0 l0_0.length c0_0, .slice A0_1 l0_1.length c0_1]) (t := 26) ?_; intro gb434 hg w4 hbox hb; have BK434 := aS (hbox); have GW434 := gW (w := w) hg tB; have GE434 := GW434; replace HB := aS (below_step tB hb); clear hb hbox hg))
 (try simp only [Act.put, List.setIfInBounds_toArray, List.set_cons_zero, List.set_cons_succ])
 go_cut [14] (fun v14 wc => ∃ (kq : Nat) (x14_2 : Bool), v14 = .bool x14_2 ∧ Aside0 (impl_DictGet.j0 kq a1 x14_2 l0_0 l0_1 = some (r1, r2)) ∧ Aside0 (kq ≤ k) ∧ Aside0 (wc.heap[gb434]? = some (.cells #[(.slice A0_0 l0_0.length c0_0), (.slice A0_1 l0_1.length c0_1)] 26 (0, 0))) ∧ Aside0 (Below w.heap.size w wc))
 case first =>
  have H := HC3.out; clear HC3; replace H := oB H; obtain ⟨t435, A50, H⟩ := H; replace H : (if t435 = true then (impl_DictGet.j0 k a1 (decide ((a1.size : Int) > 20)) l0_0 l0_1) else (impl_DictGet.j0 k a1 true l0_0 l0_1)) = some (r1, r2) := H; have A5 := aS A50; clear A50; by_cases c6 : t435 = true
  · subst c6; have H1 : (impl_DictGet.j0 k a1 (decide ((a1.size : Int) > 20)) l0_0 l0_1) = some (r1, r2) := by rw [if_pos rfl] at H; exact H
    clear H; have H := H1; clear H1; have H' := aS H; clear H; obtain ⟨hcz7_0, hcz7_1, hfz7_0, hfz7_1⟩ := c2 BK434
    go_wp2_with (first | ((with_reducible refine gC 15 ?_); refine goS (some 8) Try.func15 #[.agg #[.slice A0_0 l0_0.length c0_0, .slice A0_1 l0_1.length c0_1]] ?_; (with_reducible refine (impl_DictOk.calls k _ _ l0_0 _ _ l0_1 true _ ?side1 ?side2 ?side3 ?side4 A5.out).mono ?_); (case side1 => exact tC (Kd.C_below HR0_0.out HB.out)); (case side2 => exact HC0_0.out); (case side3 => exact tC (Kd.C_below HR0_1.out HB.out)); (case side4 => exact HC0_1.out); rintro e w8 ⟨rfl, hb⟩; refine ⟨_, rfl, ?_⟩; replace BK434 := bB BK434 hb; replace HB := aS (below_step tB hb); clear hb))
    go_meet
    case rel => exact ⟨_, (decide ((a1.size : Int) > 20)), tX, H', ⟨by first | omega | exact Nat.le_refl _⟩, ⟨tZ⟩, ⟨tB⟩⟩
  replace c6 := Bool.eq_false_iff.mpr c6; subst c6; have H1 : (impl_DictGet.j0 k a1 true l0_0 l0_1) = some (r1, r2) := by rw [if_neg (show ¬ (false = true) by decide)] at H; exact H
  clear H; have H := H1; clear H1; have H' := aS H; clear H; obtain ⟨hcz9_0, hcz9_1, hfz9_0, hfz9_1⟩ := c2 BK434
  go_wp2_with (first | ((with_reducible refine gC 15 ?_); refine goS (some 8) Try.func15 #[.agg #[.slice A0_0 l0_0.length c0_0, .slice A0_1 l0_1.length c0_1]] ?_; (with_reducible refine (impl_DictOk.calls k _ _ l0_0 _ _ l0_1 false _ ?side1 ?side2 ?side3 ?side4 A5.out).mono ?_); (case side1 => exact tC (Kd.C_below HR0_0.out HB.out)); (case side2 => exact HC0_0.out); (case side3 => exact tC (Kd.C_below HR0_1.out HB.out)); (case side4 => exact HC0_1.out); rintro e w10 ⟨rfl, hb⟩; refine ⟨_, rfl, ?_⟩; replace BK434 := bB BK434 hb; replace HB := aS (below_step tB hb); clear hb))
  go_meet
  case rel => exact ⟨_, (true), tX, H', ⟨by first | omega | exact Nat.le_refl _⟩, ⟨tZ⟩, ⟨tB⟩⟩
 case rest =>
  clear HC3; obtain ⟨kq, x14_2, rfl, HA, HJ2, BK434, HB⟩ := hcut
  cases kq with
  | zero => exact absurd HA.out (by simp [impl_DictGet.j0])
  | succ kj2 =>
   have H := HA.out; clear HA; simp only [impl_DictGet.j0] at H; by_cases c11 : x14_2 = true
   · subst c11; have H1 : (some (0, false)) = some (r1, r2) := by rw [if_pos rfl] at H; exact H
     clear H; have H := H1; clear H1; simp only [Option.some.injEq, Prod.mk.injEq] at H; obtain ⟨rfl, rfl⟩ := H; go_wp2
     go_ret2
     exact ⟨tE, tB⟩
   replace c11 := Bool.eq_false_iff.mpr c11; subst c11; have H1 : ((impl_Dict_find.f kj2 l0_0 l0_1 a1).bind fun t436 => (if t436 < 0 then (some (0, false)) else (if 0 ≤ t436 then (if t436 < (l0_1.length : Int) then (some ((rd_T56 l0_1 t436).f2, true)) else (none)) else (none)))) = some (r1, r2) := by rw [if_neg (show ¬ (false = true) by decide)] at H; exact H
   clear H; have H := H1; clear H1; replace H := oB H; obtain ⟨t436, A120, H⟩ := H; replace H : (if t436 < 0 then (some (0, false)) else (if 0 ≤ t436 then (if t436 < (l0_1.length : Int) then (some ((rd_T56 l0_1 t436).f2, true)) else (none)) else (none))) = some (r1, r2) := H; have A12 := aS A120; clear A120; by_cases c13 : t436 < 0
   · rw [if_pos c13] at H; have c13b0 : decide (t436 < 0) = true := decide_eq_true c13; clear c13; simp only [Option.some.injEq, Prod.mk.injEq] at H; obtain ⟨rfl, rfl⟩ := H; obtain ⟨hcz14_0, hcz14_1, hfz14_0, hfz14_1⟩ := c2 BK434
     go_wp2_with (first | ((with_reducible refine gC 37 ?_); refine goS (some 17) Try.func37 #[.agg #[.slice A0_0 l0_0.length c0_0, .slice A0_1 l0_1.length c0_1], .string a1] ?_; (with_reducible refine (impl_Dict_find.calls kj2 _ _ l0_0 _ _ l0_1 a1 t436 _ ?side1 ?side2 ?side3 ?side4 A12.out).mono ?_); (case side1 => exact tC (Kd.C_below HR0_0.out HB.out)); (case side2 => exact HC0_0.out); (case side3 => exact tC (Kd.C_below HR0_1.out HB.out)); (case side4 => exact HC0_1.out); rintro e w15 ⟨rfl, hb⟩; refine ⟨_, rfl, ?_⟩; replace BK434 := bB BK434 hb; replace HB := aS (below_step tB hb); clear hb))
     go_ret2
     exact ⟨tE, tB⟩
   rw [if_neg c13] at H; have c13b0 : decide (t436 < 0) = false := decide_eq_false c13; clear c13; by_cases c16 : 0 ≤ t436
   · rw [if_pos c16] at H; have c16b0 : decide (0 ≤ t436) = true := decide_eq_true c16; clear c16; by_cases c17 : t436 < (l0_1.length : Int)
     case neg =>
      rw [if_neg c17] at H; exact nS H
     rw [if_pos c17] at H; have c17b0 : decide (t436 < (l0_1.length : Int)) = true := decide_eq_true c17; clear c17; simp only [Option.some.injEq, Prod.mk.injEq] at H; obtain ⟨rfl, rfl⟩ := H; obtain ⟨hcz18_0, hcz18_1, hfz18_0, hfz18_1⟩ := c2 BK434
     go_wp2_with (first | ((with_reducible refine gC 37 ?_); refine goS (some 17) Try.func37 #[.agg #[.slice A0_0 l0_0.length c0_0, .slice A0_1 l0_1.length c0_1], .string a1] ?_; (with_reducible refine (impl_Dict_find.calls kj2 _ _ l0_0 _ _ l0_1 a1 t436 _ ?side1 ?side2 ?side3 ?side4 A12.out).mono ?_); (case side1 => exact tC (Kd.C_below HR0_0.out HB.out)); (case side2 => exact HC0_0.out); (case side3 => exact tC (Kd.C_below HR0_1.out HB.out)); (case side4 => exact HC0_1.out); rintro e w19 ⟨rfl, hb⟩; refine ⟨_, rfl, ?_⟩; replace BK434 := bB BK434 hb; replace HB := aS (below_step tB hb); obtain ⟨hcz20_0, hcz20_1, hfz20_0, hfz20_1⟩ := c2 BK434; have p437 : 0 ≤ (t436 : Int) := of_decide_eq_true tP; have q437 : t436 < (l0_1.length : Int) := of_decide_eq_true tP; obtain ⟨ad437, e437, hx437_0, hx437_1, hx437_2, hx437_3⟩ := at_T56 HR0_1.out t436 p437 q437; cases e437; replace hx437_0 := cB HB hx437_0; replace hx437_1 := cB HB hx437_1; replace hx437_2 := cB HB hx437_2; replace hx437_3 := cB HB hx437_3; replace p437 := eq_true p437; replace q437 := eq_true q437; clear hb))
     go_ret2
     exact ⟨tE, tB⟩
   rw [if_neg c16] at H; exact nS H

/-! ### impl_emptySlots: function 71 -/
def impl_emptySlots.l0 : Nat → List Int → Int → Int → Option (List Int)
 | 0, _, _, _ => none
 | k + 1, x3, x8, x9 => if x9 < x8 then (if 0 ≤ x9 then (if x9 < (x3.length : Int) then (impl_emptySlots.l0 k (x3.set (x9 : Int).toNat (-1)) x8 (wrap64 (x9 + 1))) else (none)) else (none)) else (some x3)
def impl_emptySlots.f (k : Nat) (a0 : Int) : Option (List Int) := if 0 ≤ a0 then (if (a0 : Int).toNat ≤ 35184372088832 then ((some (List.replicate (a0 : Int).toNat 0 : List Int)).bind fun y438 => (impl_emptySlots.l0 k y438 (y438.length : Int) 0)) else (none)) else (none)
theorem impl_emptySlots.mono_l : ∀ k, (∀ y0 y1 y2, LeO (impl_emptySlots.l0 k y0 y1 y2) (impl_emptySlots.l0 (k + 1) y0 y1 y2))
 | 0 => fun _ _ _ r h => by simp [impl_emptySlots.l0] at h
 | k + 1 => by
  have ih0 := impl_emptySlots.mono_l k; intro y0 y1 y2
  unfold impl_emptySlots.l0
  exact tM
theorem impl_emptySlots.mono : ∀ a0 k, LeO (impl_emptySlots.f k a0) (impl_emptySlots.f (k + 1) a0) := by
 intro a0 k; have ih0 := impl_emptySlots.mono_l k
 unfold impl_emptySlots.f
 exact tM
set_option maxHeartbeats 8000000 in
set_option maxRecDepth 100000 in
theorem impl_emptySlots.calls (k : Nat) (a0 : Int) (r : List Int) (w : World) (h : impl_emptySlots.f k a0 = some r) :
 Calls Try.prog 71 #[.int .i64 a0] w fun e w' => ∃ v0_ : Value, e = .returned (v0_) ∧ Kd.R (Kd.int .i64) 3 w' w.heap.size (fun _ => True) v0_ r ∧ Below w.heap.size w w' := by
 have HB := aS (Below.refl w.heap.size w); have H : (if 0 ≤ a0 then (if (a0 : Int).toNat ≤ 35184372088832 then ((some (List.replicate (a0 : Int).toNat 0 : List Int)).bind fun y438 => (impl_emptySlots.l0 k y438 (y438.length : Int) 0)) else (none)) else (none)) = some r := h; clear h; by_cases c2 : 0 ≤ a0
 · rw [if_pos c2] at H; have c2b0 := eq_true c2; have c2b1 : decide (0 ≤ a0) = true := decide_eq_true c2; clear c2; by_cases c3 : (a0 : Int).toNat ≤ 35184372088832
   case neg =>
    rw [if_neg c3] at H; exact nS H
   rw [if_pos c3] at H; have c3b0 := eq_true c3; have c3b1 : decide ((a0 : Int).toNat ≤ 35184372088832) = true := decide_eq_true c3; clear c3; obtain ⟨y438, hy438⟩ : ∃ y_ : List Int, y_ = (List.replicate (a0 : Int).toNat 0) := ⟨_, rfl⟩
   replace H : (impl_emptySlots.l0 k y438 (y438.length : Int) 0) = some r := by first | (rw [hy438]; with_reducible exact H) | (have H2_ := (Option.bind_some _ _).symm.trans H; rw [hy438]; with_reducible exact H2_) | (have H2_ := (Option.bind_some _ _).symm.trans H; with_reducible exact H2_) | with_reducible exact H | (rw [hy438]; exact H) | exact H
   have Ny438 := aS hy438; clear hy438; have H' := aS H; clear H
   go_enter Try.func71, Try.ntmps71
   go_wp2_with (first | ((with_reducible refine gD 6 ?_); refine Kd.R_make (Kd.int .i64) _ 3 rfl (N := 6) rfl 23 _ _ rfl a0 rfl rfl Try.underlying23 (.int .i64 0) 8 info3 rfl (by decide) (by omega) 0 (ok := fun _ => True) (okp := fun _ => True) rfl (fun _ hk => hk) trivial (of_decide_eq_true tP) (Nat.le_trans (Nat.mul_le_mul_right _ (of_decide_eq_true tP : a0.toNat ≤ 35184372088832)) (by omega)) (Below.refl _ _) (Nat.le_refl _) ?_; intro v439 w4 ho5 hb hg_ hnew_; clear hg_ hnew_; (first | rw [← Ny438.out] at ho5 | (simp only [Int.reduceToNat] at ho5; rw [← Ny438.out] at ho5)); have HO440 := aS (Kd.R_lower ho5 (below_size tB)); replace HB := aS (below_step tB hb); clear hb ho5; obtain ⟨Ao6, co6, eo6⟩ := Kd.R_slice HO440.out; subst eo6))
   go_loopg [9] k (fun kq v9 w' => ∃ (x3_1 : List Int) (x9_1 : Int), v9 = .int .i64 x9_1 ∧ Aside0 (impl_emptySlots.l0 kq x3_1 (y438.length : Int) x9_1 = some r) ∧ Aside0 (kq ≤ k) ∧ Aside0 (Kd.R (Kd.int .i64) 3 w' w.heap.size (fun _ => True) (.slice Ao6 y438.length co6) x3_1) ∧ Aside0 (Below w.heap.size w w'))
   case atStart => exact ⟨(y438), (0), tX, H', ⟨Nat.le_refl _⟩, ⟨tR HO440.out⟩, ⟨tB⟩⟩
   case round =>
    clear H'; clear c2b0 c2b1 c3b0 c3b1; obtain ⟨x3_1, x9_1, rfl, HA, HK1, HO_3, HB⟩ := hrel; have hl3_1 := (Kd.R_reads' HO_3.out).1; rw [hl3_1] at HO_3
    (try simp only [hl3_1])
    cases gk with
    | zero => exact absurd HA.out (by simp [impl_emptySlots.l0])
    | succ k1 =>
     have H := HA.out; clear HA; simp only [impl_emptySlots.l0] at H; by_cases c7 : x9_1 < (y438.length : Int)
     · rw [if_pos c7] at H; have c7b0 : decide (x9_1 < (y438.length : Int)) = true := decide_eq_true c7; clear c7; by_cases c8 : 0 ≤ x9_1
       case neg =>
        rw [if_neg c8] at H; exact nS H
       rw [if_pos c8] at H; have c8b0 : decide (0 ≤ x9_1) = true := decide_eq_true c8; clear c8; by_cases c9 : x9_1 < (x3_1.length : Int)
       case neg =>
        rw [if_neg c9] at H; exact nS H
       rw [if_pos c9] at H; have c9b0 : decide (x9_1 < (x3_1.length : Int)) = true := decide_eq_true c9; clear c9; obtain ⟨y441, hy441⟩ : ∃ y_ : List Int, y_ = (x3_1.set (x9_1 : Int).toNat (-1)) := ⟨_, rfl⟩
       replace H : (impl_emptySlots.l0 k1 y441 (y438.length : Int) (wrap64 (x9_1 + 1))) = some r := by first | (rw [hy441]; with_reducible exact H) | (have H2_ := (Option.bind_some _ _).symm.trans H; rw [hy441]; with_reducible exact H2_) | (have H2_ := (Option.bind_some _ _).symm.trans H; with_reducible exact H2_) | with_reducible exact H | (rw [hy441]; exact H) | exact H
       have Ny441 := aS hy441; clear hy441; have H' := aS H; clear H; have p10 : 0 ≤ (x9_1 : Int) := of_decide_eq_true tP; have q10 : (x9_1 : Int) < ((x3_1.length : Int) : Int) := of_decide_eq_true tP; obtain ⟨go10, co10, eo10, gb10, gl10, cl10, HG10⟩ := Kd.R_form HO_3.out (by omega)
       (first | cases eo10 | (injection eo10 with ea_ en_ ec_; (first | subst ea_ | (injection ea_ with ea_; subst ea_)); subst ec_; clear en_))
       have GB10 := aS gb10; have GG10 := aS HG10; clear gb10 gl10 HG10; obtain ⟨hx10_0, hf10_0⟩ := Kd.R_celln 0 HO_3.out (x9_1 : Int) p10 q10; replace p10 := eq_true p10; replace q10 := eq_true q10; have HP11 := Kd.R_putg HO_3.out (x9_1 : Int) (-1)
       go_wp2_with (first | ((with_reducible refine gate_store (t := 3) (p := 14) rfl ?_); refine store_event (t := 3) (p := 14) (v := ?vo_w12) (w1 := (wr.setCell ⟨go10, (x9_1 : Int).toNat, none⟩ (.int .i64 (-1)))) ?hg ?ho ?hn ?hr ?_; (case ho => rfl); (case hg => rfl); (case hn => rfl); (case hr => first | (go_simp; done) | (go_simp; rfl)); intro w12 hw; have hg : wr.grownBy w12 (some go10) := (by rw [hw]; exact HP11.2); have hp_ : Kd.R (Kd.int .i64) 3 w12 w.heap.size (fun _ => True) (.slice (some ⟨go10, 0, none⟩) x3_1.length co6) y441 := (by rw [hw, Ny441.out]; exact HP11.1); clear HP11; replace HO_3 := aS (hp_); replace HB := aS ((by rw [hw]; exact below_set (HB.out) GB10.out : Below w.heap.size w w12)); clear hg hw hp_))
       (try simp only [← hl3_1])
       go_roundg k1
       case measure => have := HK1.out; omega
       case rel => exact ⟨(y441), (wrap64 (x9_1 + 1)), tX, H', ⟨by have := HK1.out; omega⟩, ⟨by (try simp only [hl3_1]); (with_reducible repeat (first | apply Kd.R_alloc | apply Kd.R_drewN | apply Kd.R_drew)); exact HO_3.out⟩, ⟨tB⟩⟩
     rw [if_neg c7] at H; have c7b0 : decide (x9_1 < (y438.length : Int)) = false := decide_eq_false c7
     (try rw [hl3_1] at c7b0)
     clear c7; obtain rfl := oI H; go_wp2; go_ret; exact ⟨_, tE, by (with_reducible repeat (first | apply Kd.R_alloc | apply Kd.R_drewN | apply Kd.R_drew)); exact HO_3.out, tB⟩
 rw [if_neg c2] at H; exact nS H

end Go.Proofs.Ytihcollncjcpgaa.P
