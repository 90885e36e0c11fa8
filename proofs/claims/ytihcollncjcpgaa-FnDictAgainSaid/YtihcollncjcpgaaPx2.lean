/- Contracts of the Go functions that the seat's laws reach, one after the other: the machine's call comes to what the plain Lean function beside it says; no conditions but those that each contract names. Laid by this session's program wip/pp.py, which drives the kit's printer. -/
import Derived.Test.YtihcollncjcpgaaPx0
namespace Go.Proofs.Ytihcollncjcpgaa.P
open Go.RowKit Go.Proofs.YtihcollncjcpgaaW.PrintWords Go.Proofs.YtihcollncjcpgaaW.PrintLast Go.Proofs.YtihcollncjcpgaaW.PrintMore
attribute [local go_sem] max2_int min2_int max_two min_two max_three min_three max_four min_four   -- for this text's walks alone
set_option linter.unusedVariables false
set_option linter.unusedSimpArgs false

/-- A state of type 77 at block g of W; what its slices lead to came in by w0. -/
def IsS77 (w0 W : World) (g : Nat) (f0 : List Int) (f1 : Int) : Prop := ∃ A0 c0, W.heap[g]? = some (.cells #[.slice A0 f0.length c0, .int .i64 f1] 77 (0, 0)) ∧ w0.heap.size ≤ g ∧ Kd.C (Kd.int .u8) w0 A0 f0.length f0
theorem IsS77.grown {w0 W : World} {g : Nat} {f0 : List Int} {f1 : Int} {W1 : World} {row : Option Nat} (h : IsS77 w0 W g f0 f1) (hw : W.grownBy W1 row) (hne : some g ≠ row) : IsS77 w0 W1 g f0 f1 := by
 obtain ⟨A0, c0, hb, hg, hr0⟩ := h; exact ⟨A0, c0, blk_grown hb hw hne, hg, hr0⟩
theorem IsS77.own_neN {w0 W : World} {g : Nat} {f0 : List Int} {f1 : Int} {α : Type} {d : Kd α} {e : Nat} {base : Nat} {ok : Nat → Prop} {v : Value} {xs : List α} (h : IsS77 w0 W g f0 f1) (ho : Kd.N d e W base ok v xs) (ht : e ≠ 77) : some g ≠ v.ownBlock := by
 obtain ⟨A0, c0, hb, hg, hr0⟩ := h; exact Kd.N_ne ho hb ht
theorem IsS77.fresh {w0 W : World} {g : Nat} {f0 : List Int} {f1 : Int} (h : IsS77 w0 W g f0 f1) : ∀ k, W.heap.size ≤ k → k ≠ g := by
 obtain ⟨A0, c0, hb, hg, hr0⟩ := h; exact Kd.freshB hb
theorem IsS77.kept {w0 W : World} {g : Nat} {f0 : List Int} {f1 : Int} {W1 : World} {S : Nat → Prop} (h : IsS77 w0 W g f0 f1) (hk : Kept W W1 S) (hne : ¬ S g) : IsS77 w0 W1 g f0 f1 := by
 obtain ⟨A0, c0, hb, hg, hr0⟩ := h; exact ⟨A0, c0, blk_kept hb hk hne, hg, hr0⟩
theorem IsS77.below {w0 W : World} {g : Nat} {f0 : List Int} {f1 : Int} {W1 : World} (h : IsS77 w0 W g f0 f1) (hw : Below W.heap.size W W1) : IsS77 w0 W1 g f0 f1 := h.grown (grown_of_below hw none) (by simp)
theorem IsS77.alloc {w0 W : World} {g : Nat} {f0 : List Int} {f1 : Int} (h : IsS77 w0 W g f0 f1) (o : Obj) : IsS77 w0 (W.alloc o) g f0 f1 := h.below (below_alloc (Below.refl _ _) o)
theorem IsS77.drewN {w0 W : World} {g : Nat} {f0 : List Int} {f1 : Int} (h : IsS77 w0 W g f0 f1) (m : Nat) : IsS77 w0 (W.drewN m) g f0 f1 := h
theorem IsS77.drew {w0 W : World} {g : Nat} {f0 : List Int} {f1 : Int} (h : IsS77 w0 W g f0 f1) : IsS77 w0 W.drew g f0 f1 := h
theorem IsS77.at_ {w0 W : World} {g : Nat} {f0 : List Int} {f1 : Int} {w' : World} {m : Nat} (hq : W.drewN m = w') (h : IsS77 w0 W g f0 f1) : IsS77 w0 w' g f0 f1 := by subst hq; exact IsS77.drewN h m
theorem IsS77.apart {w0 W : World} {g : Nat} {f0 : List Int} {f1 : Int} {α : Type} {d : Kd α} {e : Nat} {base : Nat} {ok : Nat → Prop} {v : Value} {xs : List α} (h : IsS77 w0 W g f0 f1) (ho : d.R e W base ok v xs) (ht : ∀ q, q ∈ e :: d.E → q ≠ 77) : d.R e W base (fun k => ok k ∧ k ≠ g) v xs := by
 obtain ⟨A0, c0, hb, hg, hr0⟩ := h; exact Kd.R_types ho hb ht
theorem IsS77.own_ne {w0 W : World} {g : Nat} {f0 : List Int} {f1 : Int} {α : Type} {d : Kd α} {e : Nat} {base : Nat} {ok : Nat → Prop} {v : Value} {xs : List α} (h : IsS77 w0 W g f0 f1) (ho : d.R e W base ok v xs) (ht : e ≠ 77) : some g ≠ v.ownBlock := by
 obtain ⟨A0, c0, hb, hg, hr0⟩ := h; exact Kd.R_ne ho hb ht
theorem IsS77.apartQ {w0 W : World} {g : Nat} {f0 : List Int} {f1 : Int} {α : Type} {d : Kd α} {e : Nat} {base : Nat} {ok : Nat → Prop} {v : Value} {xs : List α} (h : IsS77 w0 W g f0 f1) (ho : d.Q e W base ok v xs) (ht : ∀ q, q ∈ e :: d.E → q ≠ 77) : d.Q e W base (fun k => ok k ∧ k ≠ g) v xs := by
 obtain ⟨A0, c0, hb, hg, hr0⟩ := h; exact Kd.Q_types ho hb ht
theorem IsS77.own_neQ {w0 W : World} {g : Nat} {f0 : List Int} {f1 : Int} {α : Type} {d : Kd α} {e : Nat} {base : Nat} {ok : Nat → Prop} {v : Value} {xs : List α} (h : IsS77 w0 W g f0 f1) (ho : d.Q e W base ok v xs) (ht : e ≠ 77) : some g ≠ v.ownBlock := by
 obtain ⟨A0, c0, hb, hg, hr0⟩ := h; exact Kd.Q_ne ho hb ht
theorem IsS77.apartS {w0 W : World} {g : Nat} {f0 : List Int} {f1 : Int} {α : Type} {d : Kd α} {e : Nat} {base : Nat} {ok : Nat → Prop} {v : Value} {xs : List α} (h : IsS77 w0 W g f0 f1) (ho : d.S e W base ok v xs) (ht : ∀ q, q ∈ e :: d.E → q ≠ 77) : d.S e W base (fun k => ok k ∧ k ≠ g) v xs := by
 obtain ⟨A0, c0, hb, hg, hr0⟩ := h; exact Kd.S_types ho hb ht
theorem IsS77.own_neS {w0 W : World} {g : Nat} {f0 : List Int} {f1 : Int} {α : Type} {d : Kd α} {e : Nat} {base : Nat} {ok : Nat → Prop} {v : Value} {xs : List α} (h : IsS77 w0 W g f0 f1) (ho : d.S e W base ok v xs) (ht : e ≠ 77) : some g ≠ v.ownBlock := by
 obtain ⟨A0, c0, hb, hg, hr0⟩ := h; exact Kd.S_ne ho hb ht
theorem IsS77.lt {w0 W : World} {g : Nat} {f0 : List Int} {f1 : Int} (h : IsS77 w0 W g f0 f1) : g < W.heap.size := by
 obtain ⟨A0, c0, hb, hg, hr0⟩ := h; exact blk_lt hb
theorem IsS77.ge {w0 W : World} {g : Nat} {f0 : List Int} {f1 : Int} (h : IsS77 w0 W g f0 f1) : w0.heap.size ≤ g := by
 obtain ⟨A0, c0, hb, hg, hr0⟩ := h; exact hg
theorem IsS77.ne_blk {w0 W : World} {g : Nat} {f0 : List Int} {f1 : Int} {a : Nat} {cs : Array Value} {t : TypeId} {fr : Nat × Nat} (h : IsS77 w0 W g f0 f1) (hb2 : W.heap[a]? = some (.cells cs t fr)) (ht : t ≠ 77) : g ≠ a := by
 obtain ⟨A0, c0, hb, hg, hr0⟩ := h; rintro rfl; rw [hb] at hb2
 injection hb2 with hb2
 injection hb2 with _ ht2
 exact ht ht2.symm
theorem IsS77.far {w0 W : World} {g : Nat} {f0 : List Int} {f1 : Int} {p : Addr} (h : IsS77 w0 W g f0 f1) (hne : g ≠ p.block) (u : Value) : IsS77 w0 (W.setCell p u) g f0 f1 := by
 obtain ⟨A0, c0, hb, hg, hr0⟩ := h; exact ⟨A0, c0, blk_far hb hne u, hg, hr0⟩
theorem cellS77_0 {W : World} {g : Nat} {A0 : Option Addr} {c0 : Nat} {f0 : List Int} {f1 : Int} (h : W.heap[g]? = some (.cells #[.slice A0 f0.length c0, .int .i64 f1] 77 (0, 0))) : W.cell? ⟨g, 0, none⟩ = some (.slice A0 f0.length c0) := (blk_cell h 0).trans rfl
theorem cellS77_1 {W : World} {g : Nat} {A0 : Option Addr} {c0 : Nat} {f0 : List Int} {f1 : Int} (h : W.heap[g]? = some (.cells #[.slice A0 f0.length c0, .int .i64 f1] 77 (0, 0))) : W.cell? ⟨g, 1, none⟩ = some (.int .i64 f1) := (blk_cell h 1).trans rfl
theorem IsS77.set_1 {w0 W : World} {g : Nat} {f0 : List Int} {f1 : Int} (h : IsS77 w0 W g f0 f1) (x : Int) : IsS77 w0 (W.setCell ⟨g, 1, none⟩ (.int .i64 x)) g f0 x := by
 obtain ⟨A0, c0, hb, hg, hr0⟩ := h; exact ⟨A0, c0, by simpa using blk_set hb 1 (.int .i64 x), hg, hr0⟩
theorem IsS77.new (w0 W : World) (A0 : Option Addr) (c0 : Nat) (f0 : List Int) (f1 : Int) (hB : Below w0.heap.size w0 W) (hr0 : Kd.C (Kd.int .u8) w0 A0 f0.length f0) : IsS77 w0 (W.alloc (.cells #[.slice A0 f0.length c0, .int .i64 f1] 77)) W.heap.size f0 f1 := ⟨A0, c0, by simpa using heap_alloc_new W _, hB.size, hr0⟩

/-! ### spec_newRnd: function 26 -/
def spec_newRnd.f (l0 : List Int) : Option (List Int × Int) := if 0 ≤ (mn (l0.length : Int) 4000) then (if (mn (l0.length : Int) 4000) ≤ (l0.length : Int) then (some (l0.take ((mn (l0.length : Int) 4000) : Int).toNat, 0)) else (none)) else (none)
set_option maxHeartbeats 8000000 in
set_option maxRecDepth 100000 in
theorem spec_newRnd.calls (A0 : Option Addr) (c0 : Nat) (l0 : List Int) (r1 : List Int) (r2 : Int) (w0 w : World) (hB : Below w0.heap.size w0 w) (hr0 : Kd.C (Kd.int .u8) w0 A0 l0.length l0) (hc0 : l0.length ≤ c0) (h : spec_newRnd.f l0 = some (r1, r2)) :
 Calls Try.prog 26 #[.slice A0 l0.length c0] w fun e w' => ∃ g_ : Nat, e = .returned (.pointer (some ⟨g_, 0, none⟩)) ∧ IsS77 w0 w' g_ r1 r2 ∧ Below w0.heap.size w0 w' ∧ Below w.heap.size w w' := by
 have hu77 := Try.underlying77; have HR0 := aS hr0; have HC0 := aS hc0; clear hr0 hc0; have HBW := aS (Below.refl w.heap.size w); have HW0 := aS hB.size; have HB := aS hB; clear hB; have H : (if 0 ≤ (mn (l0.length : Int) 4000) then (if (mn (l0.length : Int) 4000) ≤ (l0.length : Int) then (some (l0.take ((mn (l0.length : Int) 4000) : Int).toNat, 0)) else (none)) else (none)) = some (r1, r2) := h; clear h; obtain ⟨ji2, hji2⟩ : ∃ j_ : Int, (mn (l0.length : Int) 4000) = j_ := ⟨_, rfl⟩
 replace H : (if 0 ≤ (ji2) then (if (ji2) ≤ (l0.length : Int) then (some (l0.take ((ji2) : Int).toNat, 0)) else (none)) else (none)) = some (r1, r2) := by first | (rw [hji2] at H; exact H) | (simp only [hji2] at H ⊢; exact H)
 (try (have hji2h : ji2 ≤ 4000 := by (rw [← hji2]; unfold mn; (repeat' split) <;> omega)))
 (try (have hji2g : ji2 ≤ 64 := by omega))
 (try (have hji2l : 0 ≤ ji2 := by (rw [← hji2]; unfold mn; (repeat' split) <;> omega)))
 (try (have hji2m : 0 ≤ ji2 := by omega))
 have hji2_ : (if 4000 < (l0.length : Int) then 4000 else (l0.length : Int)) = ji2 := hji2; by_cases c3 : 0 ≤ (ji2)
 · rw [if_pos c3] at H; have c3b0 := eq_true c3; have c3b1 : decide (0 ≤ (ji2)) = true := decide_eq_true c3; clear c3; by_cases c4 : (ji2) ≤ (l0.length : Int)
   case neg =>
    rw [if_neg c4] at H; exact nS H
   rw [if_pos c4] at H; have c4b0 := eq_true c4; have c4b1 : decide ((ji2) ≤ (l0.length : Int)) = true := decide_eq_true c4; clear c4; simp only [Option.some.injEq, Prod.mk.injEq] at H; obtain ⟨rfl, rfl⟩ := H; obtain ⟨i05, hi05, _, hsz5, _⟩ := info_parts info5; obtain ⟨hcut5, hA5, hC5⟩ := print_take_of (P := Try.prog) (Value.int .u8) 0 22 5 .i64 Try.underlying22 hi05 hsz5 A0 c0 l0 (ji2) (of_decide_eq_true tP) (of_decide_eq_true tP) HC0.out; have HR101 := aS (Kd.C_of_reads (h1 := fun _ => rfl) (hA5 _ (Kd.reads_of_C HR0.out))); have HC101 := aS hC5; clear hA5 hC5 hi05 hsz5
   go_enter Try.func26, Try.ntmps26
   go_wp2_with (first | ((with_reducible refine gD 9 ?_); refine boxS (N := 9) (cs := #[.slice A0 (l0.take ((ji2) : Int).toNat).length c0, .int .i64 0]) (t := 77) ?_; intro gb102 hg w6 hbox hb; have BK102 := aS (hbox); have GW102 := aS ((by rw [hg]; exact (below_size (by repeat (first | (with_reducible first | exact HBW.out | apply below_alloc | apply pw_below_drewN | apply below_drew1) | exact HBW.out))) : w.heap.size ≤ gb102)); have GE102 := aS ((Nat.le_trans HW0.out (by rw [hg]; exact (below_size (by repeat (first | (with_reducible first | exact HBW.out | apply below_alloc | apply pw_below_drewN | apply below_drew1) | exact HBW.out))) : w.heap.size ≤ gb102) : w0.heap.size ≤ gb102)); replace HBW := aS (below_step HBW.out hb); replace HB := aS (below_step tB hb); clear hb hbox hg))
   go_ret; exact ⟨_, rfl, (show IsS77 w0 _ gb102 (l0.take ((ji2) : Int).toNat) 0 from ⟨_, _, by (with_reducible repeat (first | refine blk_drewN ?_ _ | refine blk_drew ?_ | refine blk_alloc ?_ _)); exact BK102.out, GE102.out, HR101.out⟩), tB, by repeat (first | (with_reducible first | exact HBW.out | apply below_alloc | apply pw_below_drewN | apply below_drew1 | refine below_set ?_ GW102.out) | exact HBW.out)⟩
 rw [if_neg c3] at H; exact nS H

/-! ### spec_validKey: function 32 -/
def spec_validKey.f (a0 : ByteArray) : Option (Bool) := some (decide ((a0.size : Int) ≤ 20))
set_option maxHeartbeats 8000000 in
set_option maxRecDepth 100000 in
theorem spec_validKey.calls (a0 : ByteArray) (r : Bool) (w : World) (h : spec_validKey.f a0 = some r) :
 Calls Try.prog 32 #[.string a0] w fun e w' => e = .returned (.bool r) ∧ Drawn0 w w' := by
 have H : (some (decide ((a0.size : Int) ≤ 20))) = some r := h; clear h; obtain rfl := oI H
 go_enter Try.func32, Try.ntmps32
 go_wp2; go_ret; exact ⟨by first | rfl | (simp; done) | (simp [*]; done), by repeat (first | exact Drawn0.refl _ | apply Drawn0.step)⟩

/-! ### spec_hashOf: function 68 -/
def spec_hashOf.l0 : Nat → ByteArray → Int → Int → Option (Int)
 | 0, _, _, _ => none
 | k + 1, x0, x3, x4 => if x4 < (x0.size : Int) then (if 0 ≤ x4 then (spec_hashOf.l0 k x0 (Int.tmod (wrap64 ((wrap64 (x3 * 31)) + (wrap64 (bt x0 x4)))) 65536) (wrap64 (x4 + 1))) else (none)) else (some x3)
def spec_hashOf.f (k : Nat) (a0 : ByteArray) : Option (Int) := spec_hashOf.l0 k a0 7 0
theorem spec_hashOf.mono_l : ∀ k, (∀ y0 y1 y2, LeO (spec_hashOf.l0 k y0 y1 y2) (spec_hashOf.l0 (k + 1) y0 y1 y2))
 | 0 => fun _ _ _ r h => by simp [spec_hashOf.l0] at h
 | k + 1 => by
  have ih0 := spec_hashOf.mono_l k; intro y0 y1 y2
  unfold spec_hashOf.l0
  exact tM
theorem spec_hashOf.mono : ∀ a0 k, LeO (spec_hashOf.f k a0) (spec_hashOf.f (k + 1) a0) := by
 intro a0 k; have ih0 := spec_hashOf.mono_l k
 unfold spec_hashOf.f
 exact tM
set_option maxHeartbeats 8000000 in
set_option maxRecDepth 100000 in
theorem spec_hashOf.calls (k : Nat) (a0 : ByteArray) (r : Int) (w : World) (h : spec_hashOf.f k a0 = some r) :
 Calls Try.prog 68 #[.string a0] w fun e w' => e = .returned (.int .i64 r) ∧ Drawn0 w w' := by
 have H : (spec_hashOf.l0 k a0 7 0) = some r := h; clear h; have H' := aS H; clear H
 go_enter Try.func68, Try.ntmps68
 go_wp2
 go_loopg [3, 4] k (fun kq v3 v4 w' => ∃ (x3_1 : Int) (x4_1 : Int), v3 = .int .i64 x3_1 ∧ v4 = .int .i64 x4_1 ∧ Aside0 (spec_hashOf.l0 kq a0 x3_1 x4_1 = some r) ∧ Aside0 (kq ≤ k) ∧ Drawn0 w w')
 case atStart => exact ⟨(7), (0), tX, tX, H', ⟨Nat.le_refl _⟩, by repeat (first | exact Drawn0.refl _ | apply Drawn0.step)⟩
 case round =>
  clear H'; obtain ⟨x3_1, x4_1, rfl, rfl, HA, HK1, ⟨m1, rfl⟩⟩ := hrel
  cases gk with
  | zero => exact absurd HA.out (by simp [spec_hashOf.l0])
  | succ k1 =>
   have H := HA.out; clear HA; simp only [spec_hashOf.l0] at H; by_cases c2 : x4_1 < (a0.size : Int)
   · rw [if_pos c2] at H; have c2b0 : decide (x4_1 < (a0.size : Int)) = true := decide_eq_true c2; clear c2; by_cases c3 : 0 ≤ x4_1
     case neg =>
      rw [if_neg c3] at H; exact nS H
     rw [if_pos c3] at H; have c3b0 : decide (0 ≤ x4_1) = true := decide_eq_true c3; clear c3; have H' := aS H; clear H; have p4 : 0 ≤ (x4_1 : Int) := of_decide_eq_true tP; have q4 : x4_1 < (a0.size : Int) := of_decide_eq_true tP; have hx4 := bt_at a0 x4_1; replace p4 := eq_true p4; replace q4 := eq_true q4; go_wp2; go_roundg k1
     case measure => have := HK1.out; omega
     case rel => exact ⟨(Int.tmod (wrap64 ((wrap64 (x3_1 * 31)) + (wrap64 (bt a0 x4_1)))) 65536), (wrap64 (x4_1 + 1)), tX, tX, H', ⟨by have := HK1.out; omega⟩, by repeat (first | exact Drawn0.refl _ | apply Drawn0.step)⟩
   rw [if_neg c2] at H; have c2b0 : decide (x4_1 < (a0.size : Int)) = false := decide_eq_false c2; clear c2; obtain rfl := oI H; go_wp2; go_ret; exact ⟨by first | rfl | (simp; done) | (simp [*]; done), by repeat (first | exact Drawn0.refl _ | apply Drawn0.step)⟩

/-! ### spec_probesOf: function 70 -/
def spec_probesOf.l0 : Nat → ByteArray → Int → Int → Int → List Int → List Int → List (S56) → Option (List Int)
 | 0, _, _, _, _, _, _, _ => none
 | k + 1, x1, x5, x6, x7, x8, x104000, x104001 => if x8.length < 17592186044416 then ((some (x8 ++ [x7] : List Int)).bind fun y108 => (if 0 ≤ x7 then (if x7 < (x104000.length : Int) then (if (rd x104000 x7) = (-1) then (some y108) else (if (rd x104000 x7) ≥ 0 then (if 0 ≤ (rd x104000 x7) then (if (rd x104000 x7) < (x104001.length : Int) then (if ((rd_T56 x104001 (rd x104000 x7)).f0).toList = x1.toList then (some y108) else (if x5 = 0 then (none) else (spec_probesOf.l0 k x1 x5 (wrap64 (Int.tdiv x6 8)) (Int.tmod (wrap64 ((wrap64 ((wrap64 (5 * x7)) + (wrap64 (Int.tdiv x6 8)))) + 1)) x5) y108 x104000 x104001))) else (none)) else (none)) else (if x5 = 0 then (none) else (spec_probesOf.l0 k x1 x5 (wrap64 (Int.tdiv x6 8)) (Int.tmod (wrap64 ((wrap64 ((wrap64 (5 * x7)) + (wrap64 (Int.tdiv x6 8)))) + 1)) x5) y108 x104000 x104001)))) else (none)) else (none))) else (none)
def spec_probesOf.f (k : Nat) (l0_0 : List Int) (l0_1 : List (S56)) (a1 : ByteArray) : Option (List Int) := (spec_hashOf.f k a1).bind fun t104 => (if (l0_0.length : Int) = 0 then (none) else (spec_probesOf.l0 k a1 (l0_0.length : Int) t104 (Int.tmod t104 (l0_0.length : Int)) (([] : List Int)) l0_0 l0_1))
theorem spec_probesOf.mono_l : ∀ k, (∀ y0 y1 y2 y3 y4 y5 y6, LeO (spec_probesOf.l0 k y0 y1 y2 y3 y4 y5 y6) (spec_probesOf.l0 (k + 1) y0 y1 y2 y3 y4 y5 y6))
 | 0 => fun _ _ _ _ _ _ _ r h => by simp [spec_probesOf.l0] at h
 | k + 1 => by
  have ih0 := spec_probesOf.mono_l k; intro y0 y1 y2 y3 y4 y5 y6
  unfold spec_probesOf.l0
  have m0_ := @spec_hashOf.mono; exact tM
theorem spec_probesOf.mono : ∀ a0 a1 a2 k, LeO (spec_probesOf.f k a0 a1 a2) (spec_probesOf.f (k + 1) a0 a1 a2) := by
 intro a0 a1 a2 k; have ih0 := spec_probesOf.mono_l k
 unfold spec_probesOf.f
 have m0_ := @spec_hashOf.mono; exact tM
set_option maxHeartbeats 8000000 in
set_option maxRecDepth 100000 in
theorem spec_probesOf.calls (k : Nat) (A0_0 : Option Addr) (c0_0 : Nat) (l0_0 : List Int) (A0_1 : Option Addr) (c0_1 : Nat) (l0_1 : List (S56)) (a1 : ByteArray) (r : List Int) (w : World) (hr0_0 : Kd.C (Kd.int .i64) w A0_0 l0_0.length l0_0) (hc0_0 : l0_0.length ≤ c0_0) (hr0_1 : Kd.C k56 w A0_1 l0_1.length l0_1) (hc0_1 : l0_1.length ≤ c0_1) (h : spec_probesOf.f k l0_0 l0_1 a1 = some r) :
 Calls Try.prog 70 #[.agg #[.slice A0_0 l0_0.length c0_0, .slice A0_1 l0_1.length c0_1], .string a1] w fun e w' => ∃ v0_ : Value, e = .returned (v0_) ∧ Kd.R (Kd.int .i64) 3 w' w.heap.size (fun _ => True) v0_ r ∧ Below w.heap.size w w' := by
 have hu26 := Try.underlying26; have HR0_0 := aS hr0_0; have HC0_0 := aS hc0_0; clear hr0_0 hc0_0; have HR0_1 := aS hr0_1; have HC0_1 := aS hc0_1; clear hr0_1 hc0_1; have HB := aS (Below.refl w.heap.size w); have H : ((spec_hashOf.f k a1).bind fun t104 => (if (l0_0.length : Int) = 0 then (none) else (spec_probesOf.l0 k a1 (l0_0.length : Int) t104 (Int.tmod t104 (l0_0.length : Int)) (([] : List Int)) l0_0 l0_1))) = some r := h; clear h; replace H := oB H; obtain ⟨t104, A30, H⟩ := H; replace H : (if (l0_0.length : Int) = 0 then (none) else (spec_probesOf.l0 k a1 (l0_0.length : Int) t104 (Int.tmod t104 (l0_0.length : Int)) (([] : List Int)) l0_0 l0_1)) = some r := H; have A3 := aS A30; clear A30; by_cases c4 : (l0_0.length : Int) = 0
 · rw [if_pos c4] at H; exact nS H
 rw [if_neg c4] at H; have c4b0 : ((l0_0.length : Int) == 0) = false := beq_eq_false_iff_ne.mpr c4; have c4b1 : ((l0_0.length : Int) != 0) = true := bne_iff_ne.mpr c4; have c4b2 : ¬ (l0_0 = []) := fun h_ => c4 (by rw [h_]; rfl)
 obtain ⟨y105, hy105⟩ : ∃ y_ : List Int, y_ = (([] : List Int)) := ⟨_, rfl⟩
 replace H : (spec_probesOf.l0 k a1 (l0_0.length : Int) t104 (Int.tmod t104 (l0_0.length : Int)) y105 l0_0 l0_1) = some r := by first | (rw [hy105]; with_reducible exact H) | (have H2_ := (Option.bind_some _ _).symm.trans H; rw [hy105]; with_reducible exact H2_) | (have H2_ := (Option.bind_some _ _).symm.trans H; with_reducible exact H2_) | with_reducible exact H | (rw [hy105]; exact H) | exact H
 have Ny105 := aS hy105; clear hy105; have H' := aS H; clear H
 go_enter Try.func70, Try.ntmps70
 go_wp2_with (first | ((with_reducible refine gD 2 ?_); refine boxS (N := 2) (cs := #[.slice A0_0 l0_0.length c0_0, .slice A0_1 l0_1.length c0_1]) (t := 26) ?_; intro gb103 hg w5 hbox hb; have BK103 := aS (hbox); have GW103 := gW (w := w) hg tB; have GE103 := GW103; replace HB := aS (below_step tB hb); clear hb hbox hg; have hcz6_0 := cA BK103 0; have hcz6_1 := cA BK103 1; have hfz6_0 := bF BK103 0; have hfz6_1 := bF BK103 1) | ((with_reducible refine gC 68 ?_); refine goS (some 14) Try.func68 #[.string a1] ?_; (with_reducible refine (spec_hashOf.calls k a1 t104 _ A3.out).mono ?_); rintro e w' ⟨rfl, ⟨nd, rfl⟩⟩; refine ⟨_, rfl, ?_⟩) | ((with_reducible refine gD 18 ?_); refine Kd.R_lit (Kd.int .i64) _ 3 ?hg (N := 18) ?hd (xs := ([] : List Int)) (inner := []) (ok := fun _ => True) (okp := fun _ => True) ?hr ?hp (fun _ hk => hk) trivial (Below.refl _ _) (Nat.le_refl _) (by simp) ?_; (case hd => rfl); (case hg => rfl); (case hr => first | (go_simp; done) | (go_simp; rfl)); (case hp => exact (Reps.none _ _)); intro v106 w7 ho8 hb hg_ hnew_; clear hg_ hnew_; (first | rw [← Ny105.out] at ho8 | (simp only [Int.reduceToNat] at ho8; rw [← Ny105.out] at ho8)); have HO107 := aS (Kd.R_lower ho8 (below_size tB)); replace BK103 := bB BK103 hb; replace HB := aS (below_step tB hb); clear hb ho8))
 go_loopg [6, 7, 8] k (fun kq v6 v7 v8 w' => ∃ (x6_1 : Int) (x7_1 : Int) (x8_1 : List Int), v6 = .int .i64 x6_1 ∧ v7 = .int .i64 x7_1 ∧ Aside0 (spec_probesOf.l0 kq a1 (l0_0.length : Int) x6_1 x7_1 x8_1 l0_0 l0_1 = some r) ∧ Aside0 (kq ≤ k) ∧ Aside0 (Kd.R (Kd.int .i64) 3 w' w.heap.size (fun _ => True) v8 x8_1) ∧ Aside0 (w'.heap[gb103]? = some (.cells #[(.slice A0_0 l0_0.length c0_0), (.slice A0_1 l0_1.length c0_1)] 26 (0, 0))) ∧ Aside0 (Below w.heap.size w w'))
 case atStart => exact ⟨(t104), (Int.tmod t104 (l0_0.length : Int)), (y105), tX, tX, H', ⟨Nat.le_refl _⟩, ⟨tR HO107.out⟩, ⟨tZ⟩, ⟨tB⟩⟩
 case round =>
  clear H'; clear c4 c4b0 c4b1 c4b2 hcz6_0 hcz6_1 hfz6_0 hfz6_1; obtain ⟨x6_1, x7_1, x8_1, rfl, rfl, HA, HK1, HO_8, BK103, HB⟩ := hrel
  cases gk with
  | zero => exact absurd HA.out (by simp [spec_probesOf.l0])
  | succ k1 =>
   have H := HA.out; clear HA; simp only [spec_probesOf.l0] at H; by_cases c9 : x8_1.length < 17592186044416
   · rw [if_pos c9] at H; have LMc9 := aS c9; clear c9; obtain ⟨y108, hy108⟩ : ∃ y_ : List Int, y_ = (x8_1 ++ [x7_1]) := ⟨_, rfl⟩
     replace H : (if 0 ≤ x7_1 then (if x7_1 < (l0_0.length : Int) then (if (rd l0_0 x7_1) = (-1) then (some y108) else (if (rd l0_0 x7_1) ≥ 0 then (if 0 ≤ (rd l0_0 x7_1) then (if (rd l0_0 x7_1) < (l0_1.length : Int) then (if ((rd_T56 l0_1 (rd l0_0 x7_1)).f0).toList = a1.toList then (some y108) else (if (l0_0.length : Int) = 0 then (none) else (spec_probesOf.l0 k1 a1 (l0_0.length : Int) (wrap64 (Int.tdiv x6_1 8)) (Int.tmod (wrap64 ((wrap64 ((wrap64 (5 * x7_1)) + (wrap64 (Int.tdiv x6_1 8)))) + 1)) (l0_0.length : Int)) y108 l0_0 l0_1))) else (none)) else (none)) else (if (l0_0.length : Int) = 0 then (none) else (spec_probesOf.l0 k1 a1 (l0_0.length : Int) (wrap64 (Int.tdiv x6_1 8)) (Int.tmod (wrap64 ((wrap64 ((wrap64 (5 * x7_1)) + (wrap64 (Int.tdiv x6_1 8)))) + 1)) (l0_0.length : Int)) y108 l0_0 l0_1)))) else (none)) else (none)) = some r := by first | (rw [hy108]; with_reducible exact H) | (have H2_ := (Option.bind_some _ _).symm.trans H; rw [hy108]; with_reducible exact H2_) | (have H2_ := (Option.bind_some _ _).symm.trans H; with_reducible exact H2_) | with_reducible exact H | (rw [hy108]; exact H) | exact H
     have Ny108 := aS hy108; clear hy108; by_cases c10 : 0 ≤ x7_1
     case neg =>
      rw [if_neg c10] at H; exact nS H
     rw [if_pos c10] at H; have c10b0 : decide (0 ≤ x7_1) = true := decide_eq_true c10; clear c10; by_cases c11 : x7_1 < (l0_0.length : Int)
     case neg =>
      rw [if_neg c11] at H; exact nS H
     rw [if_pos c11] at H; have c11b0 : decide (x7_1 < (l0_0.length : Int)) = true := decide_eq_true c11; clear c11; by_cases c12 : (rd l0_0 x7_1) = (-1)
     · rw [if_pos c12] at H; have c12b0 : ((rd l0_0 x7_1) == (-1)) = true := beq_iff_eq.mpr c12; have c12b1 : ((rd l0_0 x7_1) != (-1)) = false := bne_eq_false_iff_eq.mpr c12; clear c12; obtain rfl := oI H
       go_wp2_with (first | ((with_reducible refine gate_builtin (b := .append) (xs := #[.tmp 19, .tmp 21]) rfl ?_); at_builtin; refine Kd.R_append (Kd.int .i64) (w0 := w) w.heap.size rfl (.tmp 19) (.tmp 21) 23 3 (.int .i64 0) 8 rfl Try.underlying23 info3 rfl (by decide) (by omega) u8 x8_1 x7_1 [.int .i64 x7_1] (fun _ => True) (fun _ => False) rfl rfl ?aP (fun _ hk => hk.elim) ?aF ?aO ?aB ?aS ?aL ?_; (case aP => exact rfl); (case aB => exact tB); (case aF => exact (fun _ _ => trivial)); (case aO => exact (tR HO_8.out)); (case aS => exact (below_size tB)); (case aL => have := LMc9.out; omega); intro v109 w13 ho hb hg hat; rw [← Ny108.out] at ho; have n0_ := aS (blk_grown (g := gb103) (o := .cells #[.slice A0_0 l0_0.length c0_0, .slice A0_1 l0_1.length c0_1] 26 (0, 0)) (tK BK103.out) hg (Kd.R_ne HO_8.out BK103.out (by decide))); have n1_ := aS (hb); have n2_ := aS (ho); clear BK103; clear HB; clear HO_8; have BK103 := n0_; have HB := n1_; have HO110 := n2_; clear n0_ n1_ n2_; clear ho hb hg hat; obtain ⟨hcz14_0, hcz14_1, hfz14_0, hfz14_1⟩ := c2 BK103; have p111 : 0 ≤ (x7_1 : Int) := of_decide_eq_true tP; have q111 : x7_1 < (l0_0.length : Int) := of_decide_eq_true tP; obtain ⟨ad111, e111, hx111_0⟩ := Kd.at_int HR0_0.out x7_1 p111 q111; cases e111; replace hx111_0 := cB HB hx111_0; replace p111 := eq_true p111; replace q111 := eq_true q111))
       go_ret; exact ⟨_, tE, by (with_reducible repeat (first | apply Kd.R_alloc | apply Kd.R_drewN | apply Kd.R_drew)); exact HO110.out, tB⟩
     rw [if_neg c12] at H; have c12b0 : ((rd l0_0 x7_1) == (-1)) = false := beq_eq_false_iff_ne.mpr c12; have c12b1 : ((rd l0_0 x7_1) != (-1)) = true := bne_iff_ne.mpr c12; by_cases c15 : (rd l0_0 x7_1) ≥ 0
     · rw [if_pos c15] at H; have c15b0 : decide (0 ≤ (rd l0_0 x7_1)) = true := decide_eq_true c15; clear c15; by_cases c16 : 0 ≤ (rd l0_0 x7_1)
       case neg =>
        rw [if_neg c16] at H; exact nS H
       rw [if_pos c16] at H; have c16b0 : decide (0 ≤ (rd l0_0 x7_1)) = true := decide_eq_true c16; clear c16; by_cases c17 : (rd l0_0 x7_1) < (l0_1.length : Int)
       case neg =>
        rw [if_neg c17] at H; exact nS H
       rw [if_pos c17] at H; have c17b0 : decide ((rd l0_0 x7_1) < (l0_1.length : Int)) = true := decide_eq_true c17; clear c17; by_cases c18 : ((rd_T56 l0_1 (rd l0_0 x7_1)).f0).toList = a1.toList
       · rw [if_pos c18] at H; have c18b0 : (((rd_T56 l0_1 (rd l0_0 x7_1)).f0).toList == a1.toList) = true := beq_iff_eq.mpr c18; have c18b1 : (((rd_T56 l0_1 (rd l0_0 x7_1)).f0).toList != a1.toList) = false := bne_eq_false_iff_eq.mpr c18; clear c18; obtain rfl := oI H
         go_wp2_with (first | ((with_reducible refine gate_builtin (b := .append) (xs := #[.tmp 19, .tmp 21]) rfl ?_); at_builtin; refine Kd.R_append (Kd.int .i64) (w0 := w) w.heap.size rfl (.tmp 19) (.tmp 21) 23 3 (.int .i64 0) 8 rfl Try.underlying23 info3 rfl (by decide) (by omega) u8 x8_1 x7_1 [.int .i64 x7_1] (fun _ => True) (fun _ => False) rfl rfl ?aP (fun _ hk => hk.elim) ?aF ?aO ?aB ?aS ?aL ?_; (case aP => exact rfl); (case aB => exact tB); (case aF => exact (fun _ _ => trivial)); (case aO => exact (tR HO_8.out)); (case aS => exact (below_size tB)); (case aL => have := LMc9.out; omega); intro v109 w19 ho hb hg hat; rw [← Ny108.out] at ho; have n0_ := aS (blk_grown (g := gb103) (o := .cells #[.slice A0_0 l0_0.length c0_0, .slice A0_1 l0_1.length c0_1] 26 (0, 0)) (tK BK103.out) hg (Kd.R_ne HO_8.out BK103.out (by decide))); have n1_ := aS (hb); have n2_ := aS (ho); clear BK103; clear HB; clear HO_8; have BK103 := n0_; have HB := n1_; have HO110 := n2_; clear n0_ n1_ n2_; clear ho hb hg hat; obtain ⟨hcz20_0, hcz20_1, hfz20_0, hfz20_1⟩ := c2 BK103; have p111 : 0 ≤ (x7_1 : Int) := of_decide_eq_true tP; have q111 : x7_1 < (l0_0.length : Int) := of_decide_eq_true tP; obtain ⟨ad111, e111, hx111_0⟩ := Kd.at_int HR0_0.out x7_1 p111 q111; cases e111; replace hx111_0 := cB HB hx111_0; replace p111 := eq_true p111; replace q111 := eq_true q111; have p112 : 0 ≤ ((rd l0_0 x7_1) : Int) := of_decide_eq_true tP; have q112 : (rd l0_0 x7_1) < (l0_1.length : Int) := of_decide_eq_true tP; obtain ⟨ad112, e112, hx112_0, hx112_1, hx112_2, hx112_3⟩ := at_T56 HR0_1.out (rd l0_0 x7_1) p112 q112; cases e112; replace hx112_0 := cB HB hx112_0; replace hx112_1 := cB HB hx112_1; replace hx112_2 := cB HB hx112_2; replace hx112_3 := cB HB hx112_3; replace p112 := eq_true p112; replace q112 := eq_true q112))
         go_ret; exact ⟨_, tE, by (with_reducible repeat (first | apply Kd.R_alloc | apply Kd.R_drewN | apply Kd.R_drew)); exact HO110.out, tB⟩
       rw [if_neg c18] at H; have c18b0 : (((rd_T56 l0_1 (rd l0_0 x7_1)).f0).toList == a1.toList) = false := beq_eq_false_iff_ne.mpr c18; have c18b1 : (((rd_T56 l0_1 (rd l0_0 x7_1)).f0).toList != a1.toList) = true := bne_iff_ne.mpr c18; by_cases c21 : (l0_0.length : Int) = 0
       · rw [if_pos c21] at H; exact nS H
       rw [if_neg c21] at H; have c21b0 : ((l0_0.length : Int) == 0) = false := beq_eq_false_iff_ne.mpr c21; have c21b1 : ((l0_0.length : Int) != 0) = true := bne_iff_ne.mpr c21; have c21b2 : ¬ (l0_0 = []) := fun h_ => c21 (by rw [h_]; rfl)
       have H' := aS H; clear H
       go_wp2_with (first | ((with_reducible refine gate_builtin (b := .append) (xs := #[.tmp 19, .tmp 21]) rfl ?_); at_builtin; refine Kd.R_append (Kd.int .i64) (w0 := w) w.heap.size rfl (.tmp 19) (.tmp 21) 23 3 (.int .i64 0) 8 rfl Try.underlying23 info3 rfl (by decide) (by omega) u8 x8_1 x7_1 [.int .i64 x7_1] (fun _ => True) (fun _ => False) rfl rfl ?aP (fun _ hk => hk.elim) ?aF ?aO ?aB ?aS ?aL ?_; (case aP => exact rfl); (case aB => exact tB); (case aF => exact (fun _ _ => trivial)); (case aO => exact (tR HO_8.out)); (case aS => exact (below_size tB)); (case aL => have := LMc9.out; omega); intro v109 w22 ho hb hg hat; rw [← Ny108.out] at ho; have n0_ := aS (blk_grown (g := gb103) (o := .cells #[.slice A0_0 l0_0.length c0_0, .slice A0_1 l0_1.length c0_1] 26 (0, 0)) (tK BK103.out) hg (Kd.R_ne HO_8.out BK103.out (by decide))); have n1_ := aS (hb); have n2_ := aS (ho); clear BK103; clear HB; clear HO_8; have BK103 := n0_; have HB := n1_; have HO110 := n2_; clear n0_ n1_ n2_; clear ho hb hg hat; obtain ⟨hcz23_0, hcz23_1, hfz23_0, hfz23_1⟩ := c2 BK103; have p111 : 0 ≤ (x7_1 : Int) := of_decide_eq_true tP; have q111 : x7_1 < (l0_0.length : Int) := of_decide_eq_true tP; obtain ⟨ad111, e111, hx111_0⟩ := Kd.at_int HR0_0.out x7_1 p111 q111; cases e111; replace hx111_0 := cB HB hx111_0; replace p111 := eq_true p111; replace q111 := eq_true q111; have p112 : 0 ≤ ((rd l0_0 x7_1) : Int) := of_decide_eq_true tP; have q112 : (rd l0_0 x7_1) < (l0_1.length : Int) := of_decide_eq_true tP; obtain ⟨ad112, e112, hx112_0, hx112_1, hx112_2, hx112_3⟩ := at_T56 HR0_1.out (rd l0_0 x7_1) p112 q112; cases e112; replace hx112_0 := cB HB hx112_0; replace hx112_1 := cB HB hx112_1; replace hx112_2 := cB HB hx112_2; replace hx112_3 := cB HB hx112_3; replace p112 := eq_true p112; replace q112 := eq_true q112))
       go_roundg k1
       case measure => have := HK1.out; omega
       case rel => exact ⟨(wrap64 (Int.tdiv x6_1 8)), (Int.tmod (wrap64 ((wrap64 ((wrap64 (5 * x7_1)) + (wrap64 (Int.tdiv x6_1 8)))) + 1)) (l0_0.length : Int)), (y108), tX, tX, H', ⟨by have := HK1.out; omega⟩, ⟨tR HO110.out⟩, ⟨tZ⟩, ⟨tB⟩⟩
     rw [if_neg c15] at H; have c15b0 : decide (0 ≤ (rd l0_0 x7_1)) = false := decide_eq_false c15; clear c15; by_cases c24 : (l0_0.length : Int) = 0
     · rw [if_pos c24] at H; exact nS H
     rw [if_neg c24] at H; have c24b0 : ((l0_0.length : Int) == 0) = false := beq_eq_false_iff_ne.mpr c24; have c24b1 : ((l0_0.length : Int) != 0) = true := bne_iff_ne.mpr c24; have c24b2 : ¬ (l0_0 = []) := fun h_ => c24 (by rw [h_]; rfl)
     have H' := aS H; clear H
     go_wp2_with (first | ((with_reducible refine gate_builtin (b := .append) (xs := #[.tmp 19, .tmp 21]) rfl ?_); at_builtin; refine Kd.R_append (Kd.int .i64) (w0 := w) w.heap.size rfl (.tmp 19) (.tmp 21) 23 3 (.int .i64 0) 8 rfl Try.underlying23 info3 rfl (by decide) (by omega) u8 x8_1 x7_1 [.int .i64 x7_1] (fun _ => True) (fun _ => False) rfl rfl ?aP (fun _ hk => hk.elim) ?aF ?aO ?aB ?aS ?aL ?_; (case aP => exact rfl); (case aB => exact tB); (case aF => exact (fun _ _ => trivial)); (case aO => exact (tR HO_8.out)); (case aS => exact (below_size tB)); (case aL => have := LMc9.out; omega); intro v109 w25 ho hb hg hat; rw [← Ny108.out] at ho; have n0_ := aS (blk_grown (g := gb103) (o := .cells #[.slice A0_0 l0_0.length c0_0, .slice A0_1 l0_1.length c0_1] 26 (0, 0)) (tK BK103.out) hg (Kd.R_ne HO_8.out BK103.out (by decide))); have n1_ := aS (hb); have n2_ := aS (ho); clear BK103; clear HB; clear HO_8; have BK103 := n0_; have HB := n1_; have HO110 := n2_; clear n0_ n1_ n2_; clear ho hb hg hat; obtain ⟨hcz26_0, hcz26_1, hfz26_0, hfz26_1⟩ := c2 BK103; have p111 : 0 ≤ (x7_1 : Int) := of_decide_eq_true tP; have q111 : x7_1 < (l0_0.length : Int) := of_decide_eq_true tP; obtain ⟨ad111, e111, hx111_0⟩ := Kd.at_int HR0_0.out x7_1 p111 q111; cases e111; replace hx111_0 := cB HB hx111_0; replace p111 := eq_true p111; replace q111 := eq_true q111))
     go_roundg k1
     case measure => have := HK1.out; omega
     case rel => exact ⟨(wrap64 (Int.tdiv x6_1 8)), (Int.tmod (wrap64 ((wrap64 ((wrap64 (5 * x7_1)) + (wrap64 (Int.tdiv x6_1 8)))) + 1)) (l0_0.length : Int)), (y108), tX, tX, H', ⟨by have := HK1.out; omega⟩, ⟨tR HO110.out⟩, ⟨tZ⟩, ⟨tB⟩⟩
   rw [if_neg c9] at H; exact nS H

/-! ### spec_slotOf: function 34 -/
def spec_slotOf.f (k : Nat) (l0_0 : List Int) (l0_1 : List (S56)) (a1 : ByteArray) : Option (Int) := (spec_probesOf.f k l0_0 l0_1 a1).bind fun t114 => (if 0 ≤ (wrap64 ((t114.length : Int) - 1)) then (if (wrap64 ((t114.length : Int) - 1)) < (t114.length : Int) then (some (rd t114 (wrap64 ((t114.length : Int) - 1)))) else (none)) else (none))
theorem spec_slotOf.mono : ∀ a0 a1 a2 k, LeO (spec_slotOf.f k a0 a1 a2) (spec_slotOf.f (k + 1) a0 a1 a2) := by
 intro a0 a1 a2 k
 unfold spec_slotOf.f
 have m0_ := @spec_probesOf.mono; exact tM
set_option maxHeartbeats 8000000 in
set_option maxRecDepth 100000 in
theorem spec_slotOf.calls (k : Nat) (A0_0 : Option Addr) (c0_0 : Nat) (l0_0 : List Int) (A0_1 : Option Addr) (c0_1 : Nat) (l0_1 : List (S56)) (a1 : ByteArray) (r : Int) (w : World) (hr0_0 : Kd.C (Kd.int .i64) w A0_0 l0_0.length l0_0) (hc0_0 : l0_0.length ≤ c0_0) (hr0_1 : Kd.C k56 w A0_1 l0_1.length l0_1) (hc0_1 : l0_1.length ≤ c0_1) (h : spec_slotOf.f k l0_0 l0_1 a1 = some r) :
 Calls Try.prog 34 #[.agg #[.slice A0_0 l0_0.length c0_0, .slice A0_1 l0_1.length c0_1], .string a1] w fun e w' => e = .returned (.int .i64 r) ∧ Below w.heap.size w w' := by
 have hu26 := Try.underlying26; have HR0_0 := aS hr0_0; have HC0_0 := aS hc0_0; clear hr0_0 hc0_0; have HR0_1 := aS hr0_1; have HC0_1 := aS hc0_1; clear hr0_1 hc0_1; have HB := aS (Below.refl w.heap.size w); have H : ((spec_probesOf.f k l0_0 l0_1 a1).bind fun t114 => (if 0 ≤ (wrap64 ((t114.length : Int) - 1)) then (if (wrap64 ((t114.length : Int) - 1)) < (t114.length : Int) then (some (rd t114 (wrap64 ((t114.length : Int) - 1)))) else (none)) else (none))) = some r := h; clear h; replace H := oB H; obtain ⟨t114, A30, H⟩ := H; replace H : (if 0 ≤ (wrap64 ((t114.length : Int) - 1)) then (if (wrap64 ((t114.length : Int) - 1)) < (t114.length : Int) then (some (rd t114 (wrap64 ((t114.length : Int) - 1)))) else (none)) else (none)) = some r := H; have A3 := aS A30; clear A30; obtain ⟨ji4, hji4⟩ : ∃ j_ : Int, (wrap64 ((t114.length : Int) - 1)) = j_ := ⟨_, rfl⟩
 replace H : (if 0 ≤ (ji4) then (if (ji4) < (t114.length : Int) then (some (rd t114 (ji4))) else (none)) else (none)) = some r := by first | (rw [hji4] at H; exact H) | (simp only [hji4] at H ⊢; exact H)
 (try rw [hji4] at A3)
 have hji4w : (IntKind.i64.wrap ((t114.length : Int) - 1)) = ji4 := (i64_w _).trans hji4; by_cases c5 : 0 ≤ (ji4)
 · rw [if_pos c5] at H; have c5b0 : decide (0 ≤ (ji4)) = true := decide_eq_true c5; clear c5; by_cases c6 : (ji4) < (t114.length : Int)
   case neg =>
    rw [if_neg c6] at H; exact nS H
   rw [if_pos c6] at H; have c6b0 : decide ((ji4) < (t114.length : Int)) = true := decide_eq_true c6; clear c6; obtain rfl := oI H
   go_enter Try.func34, Try.ntmps34
   go_wp2_with (first | ((with_reducible refine gD 2 ?_); refine boxS (N := 2) (cs := #[.slice A0_0 l0_0.length c0_0, .slice A0_1 l0_1.length c0_1]) (t := 26) ?_; intro gb113 hg w7 hbox hb; have BK113 := aS (hbox); have GW113 := gW (w := w) hg tB; have GE113 := GW113; replace HB := aS (below_step tB hb); clear hb hbox hg; have hcz8_0 := cA BK113 0; have hcz8_1 := cA BK113 1; have hfz8_0 := bF BK113 0; have hfz8_1 := bF BK113 1) | ((with_reducible refine gC 70 ?_); refine goS (some 8) Try.func70 #[.agg #[.slice A0_0 l0_0.length c0_0, .slice A0_1 l0_1.length c0_1], .string a1] ?_; (with_reducible refine (spec_probesOf.calls k _ _ l0_0 _ _ l0_1 a1 t114 _ ?side1 ?side2 ?side3 ?side4 A3.out).mono ?_); (case side1 => exact tC (Kd.C_below HR0_0.out HB.out)); (case side2 => exact HC0_0.out); (case side3 => exact tC (Kd.C_below HR0_1.out HB.out)); (case side4 => exact HC0_1.out); rintro e w9 ⟨v115, rfl, ho0, hb⟩; refine ⟨_, rfl, ?_⟩; have HO116 := aS (Kd.R_lower ho0 (below_size tB)); replace BK113 := bB BK113 hb; replace HB := aS (below_step tB hb); obtain ⟨Ao10, co10, eo10⟩ := Kd.R_slice HO116.out; subst eo10; have p117 : 0 ≤ ((ji4) : Int) := of_decide_eq_true tP; have q117 : (ji4) < (t114.length : Int) := of_decide_eq_true tP; obtain ⟨ad117, e117, hx117_0⟩ := Kd.at_int (Kd.R_reads' HO116.out).2.2 (ji4) p117 q117; cases e117; replace p117 := eq_true p117; replace q117 := eq_true q117; clear ho0 hb))
   go_ret; exact ⟨by first | rfl | (simp [errW_none, errW_some] <;> rfl) | (simp only [← hji4]; first | rfl | (simp [errW_none, errW_some] <;> rfl)) | (simp [*, errW_none, errW_some] <;> rfl), tB⟩
 rw [if_neg c5] at H; exact nS H

/-! ### spec_inRange: function 46 -/
def spec_inRange.f (a0 : Int) (a1 : Int) (a2 : Int) : Option (Bool) := if a0 ≥ a1 then (some (decide (a0 ≤ a2))) else (some false)
set_option maxHeartbeats 8000000 in
set_option maxRecDepth 100000 in
theorem spec_inRange.calls (a0 : Int) (a1 : Int) (a2 : Int) (r : Bool) (w : World) (h : spec_inRange.f a0 a1 a2 = some r) :
 Calls Try.prog 46 #[.int .i64 a0, .int .i64 a1, .int .i64 a2] w fun e w' => e = .returned (.bool r) ∧ Drawn0 w w' := by
 have H : (if a0 ≥ a1 then (some (decide (a0 ≤ a2))) else (some false)) = some r := h; clear h; by_cases c4 : a0 ≥ a1
 · rw [if_pos c4] at H; have c4b0 : decide (a1 ≤ a0) = true := decide_eq_true c4; clear c4; obtain rfl := oI H
   go_enter Try.func46, Try.ntmps46
   go_wp2; go_ret; exact ⟨by first | rfl | (simp; done) | (simp [*]; done), by repeat (first | exact Drawn0.refl _ | apply Drawn0.step)⟩
 rw [if_neg c4] at H; have c4b0 : decide (a1 ≤ a0) = false := decide_eq_false c4; clear c4; obtain rfl := oI H
 go_enter Try.func46, Try.ntmps46
 go_wp2; go_ret; exact ⟨by first | rfl | (simp; done) | (simp [*]; done), by repeat (first | exact Drawn0.refl _ | apply Drawn0.step)⟩

/-! ### spec_liveEntries: function 47 -/
def spec_liveEntries.l0 : Nat → Int → Int → List Int → List (S56) → Option (Int)
 | 0, _, _, _, _ => none
 | k + 1, x3, x4, x119000, x119001 => if x4 < (x119001.length : Int) then (if 0 ≤ x4 then (if (rd_T56 x119001 x4).f3 = true then (spec_liveEntries.l0 k (wrap64 (x3 + 1)) (wrap64 (x4 + 1)) x119000 x119001) else (spec_liveEntries.l0 k x3 (wrap64 (x4 + 1)) x119000 x119001)) else (none)) else (some x3)
def spec_liveEntries.f (k : Nat) (l0_0 : List Int) (l0_1 : List (S56)) : Option (Int) := spec_liveEntries.l0 k 0 0 l0_0 l0_1
theorem spec_liveEntries.mono_l : ∀ k, (∀ y0 y1 y2 y3, LeO (spec_liveEntries.l0 k y0 y1 y2 y3) (spec_liveEntries.l0 (k + 1) y0 y1 y2 y3))
 | 0 => fun _ _ _ _ r h => by simp [spec_liveEntries.l0] at h
 | k + 1 => by
  have ih0 := spec_liveEntries.mono_l k; intro y0 y1 y2 y3
  unfold spec_liveEntries.l0
  exact tM
theorem spec_liveEntries.mono : ∀ a0 a1 k, LeO (spec_liveEntries.f k a0 a1) (spec_liveEntries.f (k + 1) a0 a1) := by
 intro a0 a1 k; have ih0 := spec_liveEntries.mono_l k
 unfold spec_liveEntries.f
 exact tM
set_option maxHeartbeats 8000000 in
set_option maxRecDepth 100000 in
theorem spec_liveEntries.calls (k : Nat) (A0_0 : Option Addr) (c0_0 : Nat) (l0_0 : List Int) (A0_1 : Option Addr) (c0_1 : Nat) (l0_1 : List (S56)) (r : Int) (w : World) (hr0_0 : Kd.C (Kd.int .i64) w A0_0 l0_0.length l0_0) (hc0_0 : l0_0.length ≤ c0_0) (hr0_1 : Kd.C k56 w A0_1 l0_1.length l0_1) (hc0_1 : l0_1.length ≤ c0_1) (h : spec_liveEntries.f k l0_0 l0_1 = some r) :
 Calls Try.prog 47 #[.agg #[.slice A0_0 l0_0.length c0_0, .slice A0_1 l0_1.length c0_1]] w fun e w' => e = .returned (.int .i64 r) ∧ Below w.heap.size w w' := by
 have hu26 := Try.underlying26; have HR0_0 := aS hr0_0; have HC0_0 := aS hc0_0; clear hr0_0 hc0_0; have HR0_1 := aS hr0_1; have HC0_1 := aS hc0_1; clear hr0_1 hc0_1; have HB := aS (Below.refl w.heap.size w); have H : (spec_liveEntries.l0 k 0 0 l0_0 l0_1) = some r := h; clear h; have H' := aS H; clear H
 go_enter Try.func47, Try.ntmps47
 go_wp2_with (first | ((with_reducible refine gD 1 ?_); refine boxS (N := 1) (cs := #[.slice A0_0 l0_0.length c0_0, .slice A0_1 l0_1.length c0_1]) (t := 26) ?_; intro gb118 hg w2 hbox hb; have BK118 := aS (hbox); have GW118 := gW (w := w) hg tB; have GE118 := GW118; replace HB := aS (below_step tB hb); clear hb hbox hg))
 go_loopg [3, 4] k (fun kq v3 v4 w' => ∃ (x3_1 : Int) (x4_1 : Int), v3 = .int .i64 x3_1 ∧ v4 = .int .i64 x4_1 ∧ Aside0 (spec_liveEntries.l0 kq x3_1 x4_1 l0_0 l0_1 = some r) ∧ Aside0 (kq ≤ k) ∧ Aside0 (w'.heap[gb118]? = some (.cells #[(.slice A0_0 l0_0.length c0_0), (.slice A0_1 l0_1.length c0_1)] 26 (0, 0))) ∧ Aside0 (Below w.heap.size w w'))
 case atStart => exact ⟨(0), (0), tX, tX, H', ⟨Nat.le_refl _⟩, ⟨tZ⟩, ⟨tB⟩⟩
 case round =>
  clear H'; obtain ⟨x3_1, x4_1, rfl, rfl, HA, HK1, BK118, HB⟩ := hrel
  cases gk with
  | zero => exact absurd HA.out (by simp [spec_liveEntries.l0])
  | succ k1 =>
   have H := HA.out; clear HA; simp only [spec_liveEntries.l0] at H; by_cases c3 : x4_1 < (l0_1.length : Int)
   · rw [if_pos c3] at H; have c3b0 : decide (x4_1 < (l0_1.length : Int)) = true := decide_eq_true c3; clear c3; by_cases c4 : 0 ≤ x4_1
     case neg =>
      rw [if_neg c4] at H; exact nS H
     rw [if_pos c4] at H; have c4b0 : decide (0 ≤ x4_1) = true := decide_eq_true c4; clear c4; obtain ⟨bq5, hbq5⟩ : ∃ b_ : Bool, b_ = ((rd_T56 l0_1 x4_1).f3) := ⟨_, rfl⟩
     replace H : (if bq5 = true then (spec_liveEntries.l0 k1 (wrap64 (x3_1 + 1)) (wrap64 (x4_1 + 1)) l0_0 l0_1) else (spec_liveEntries.l0 k1 x3_1 (wrap64 (x4_1 + 1)) l0_0 l0_1)) = some r := by rw [← hbq5] at H; exact H
     have Nbq5 := aS hbq5; clear hbq5; by_cases c6 : bq5 = true
     · subst c6; have H1 : (spec_liveEntries.l0 k1 (wrap64 (x3_1 + 1)) (wrap64 (x4_1 + 1)) l0_0 l0_1) = some r := by rw [if_pos rfl] at H; exact H
       clear H; have H := H1; clear H1; have H' := aS H; clear H; obtain ⟨hcz7_0, hcz7_1, hfz7_0, hfz7_1⟩ := c2 BK118; have p119 : 0 ≤ (x4_1 : Int) := of_decide_eq_true tP; have q119 : x4_1 < (l0_1.length : Int) := of_decide_eq_true tP; obtain ⟨ad119, e119, hx119_0, hx119_1, hx119_2, hx119_3⟩ := at_T56 HR0_1.out x4_1 p119 q119
       (try rw [← Nbq5.out] at hx119_3); (try rw [← Nbq5.out] at hw119_3)
       cases e119; replace hx119_0 := cB HB hx119_0; replace hx119_1 := cB HB hx119_1; replace hx119_2 := cB HB hx119_2; replace hx119_3 := cB HB hx119_3; replace p119 := eq_true p119; replace q119 := eq_true q119; go_wp2; go_roundg k1
       case measure => have := HK1.out; omega
       case rel => exact ⟨(wrap64 (x3_1 + 1)), (wrap64 (x4_1 + 1)), tX, tX, H', ⟨by have := HK1.out; omega⟩, ⟨tZ⟩, ⟨tB⟩⟩
     replace c6 := Bool.eq_false_iff.mpr c6; subst c6; have H1 : (spec_liveEntries.l0 k1 x3_1 (wrap64 (x4_1 + 1)) l0_0 l0_1) = some r := by rw [if_neg (show ¬ (false = true) by decide)] at H; exact H
     clear H; have H := H1; clear H1; have H' := aS H; clear H; obtain ⟨hcz8_0, hcz8_1, hfz8_0, hfz8_1⟩ := c2 BK118; have p119 : 0 ≤ (x4_1 : Int) := of_decide_eq_true tP; have q119 : x4_1 < (l0_1.length : Int) := of_decide_eq_true tP; obtain ⟨ad119, e119, hx119_0, hx119_1, hx119_2, hx119_3⟩ := at_T56 HR0_1.out x4_1 p119 q119
     (try rw [← Nbq5.out] at hx119_3); (try rw [← Nbq5.out] at hw119_3)
     cases e119; replace hx119_0 := cB HB hx119_0; replace hx119_1 := cB HB hx119_1; replace hx119_2 := cB HB hx119_2; replace hx119_3 := cB HB hx119_3; replace p119 := eq_true p119; replace q119 := eq_true q119; go_wp2; go_roundg k1
     case measure => have := HK1.out; omega
     case rel => exact ⟨(x3_1), (wrap64 (x4_1 + 1)), tX, tX, H', ⟨by have := HK1.out; omega⟩, ⟨tZ⟩, ⟨tB⟩⟩
   rw [if_neg c3] at H; have c3b0 : decide (x4_1 < (l0_1.length : Int)) = false := decide_eq_false c3; clear c3; obtain rfl := oI H; obtain ⟨hcz9_0, hcz9_1, hfz9_0, hfz9_1⟩ := c2 BK118; go_wp2; go_ret; exact ⟨tE, tB⟩

end Go.Proofs.Ytihcollncjcpgaa.P
