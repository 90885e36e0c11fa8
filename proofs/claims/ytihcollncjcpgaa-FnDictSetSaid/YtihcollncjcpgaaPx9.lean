/- Contracts of the Go functions that the seat's laws reach, one after the other: the machine's call comes to what the plain Lean function beside it says; no conditions but those that each contract names. Laid by this session's program wip/pp.py, which drives the kit's printer. -/
import Derived.Test.YtihcollncjcpgaaPx0
import Derived.Test.YtihcollncjcpgaaPx2
import Derived.Test.YtihcollncjcpgaaPx5
import Derived.Test.YtihcollncjcpgaaPx8
namespace Go.Proofs.Ytihcollncjcpgaa.P
open Go.RowKit Go.Proofs.YtihcollncjcpgaaW.PrintWords Go.Proofs.YtihcollncjcpgaaW.PrintLast Go.Proofs.YtihcollncjcpgaaW.PrintMore
attribute [local go_sem] max2_int min2_int max_two min_two max_three min_three max_four min_four   -- for this text's walks alone
set_option linter.unusedVariables false
set_option linter.unusedSimpArgs false

/-! ### spec_DictNew: function 61 -/
def spec_DictNew.f (k : Nat)  : Option (List Int × (List (S56))) := (spec_newIndex.f k 8).bind fun t252 => (some (t252, ([] : List (S56))))
theorem spec_DictNew.mono : ∀ k, LeO (spec_DictNew.f k ) (spec_DictNew.f (k + 1) ) := by
 intro  k
 unfold spec_DictNew.f
 have m0_ := @spec_newIndex.mono; exact tM
set_option maxHeartbeats 8000000 in
set_option maxRecDepth 100000 in
theorem spec_DictNew.calls (k : Nat)  (r1 : List Int) (r2 : List (S56)) (w : World) (h : spec_DictNew.f k  = some (r1, r2)) :
 Calls Try.prog 61 #[] w fun e w' => ∃ v0_ v1_ : Value, e = .returned (.agg #[v0_, v1_]) ∧ Kd.R (Kd.int .i64) 3 w' w.heap.size (fun _ => True) v0_ r1 ∧ Kd.R k56 56 w' w.heap.size (fun _ => True) v1_ r2 ∧ Below w.heap.size w w' := by
 have hu26 := Try.underlying26; have HB := aS (Below.refl w.heap.size w); have H : ((spec_newIndex.f k 8).bind fun t252 => (some (t252, ([] : List (S56))))) = some (r1, r2) := h; clear h; replace H := oB H; obtain ⟨t252, A10, H⟩ := H; replace H : (some (t252, ([] : List (S56)))) = some (r1, r2) := H; have A1 := aS A10; clear A10; simp only [Option.some.injEq, Prod.mk.injEq] at H; obtain ⟨rfl, rfl⟩ := H
 go_enter Try.func61, Try.ntmps61
 go_wp2_with (first | ((with_reducible refine gD 0 ?_); refine boxS (N := 0) (cs := #[.slice none 0 0, .slice none 0 0]) (t := 26) ?_; intro gb251 hg w2 hbox hb; have BK251 := aS (hbox); have GW251 := gW (w := w) hg tB; have GE251 := GW251; replace HB := aS (below_step tB hb); clear hb hbox hg) | ((with_reducible refine gC 79 ?_); refine goS (some 1) Try.func79 #[.int .i64 8] ?_; (with_reducible refine (spec_newIndex.calls k 8 t252 _ A1.out).mono ?_); rintro e w3 ⟨v253, rfl, ho0, hb⟩; refine ⟨_, rfl, ?_⟩; have HO254 := aS (Kd.R_lower ho0 (below_size tB)); replace BK251 := bB BK251 hb; replace HB := aS (below_step tB hb); obtain ⟨Ao4, co4, eo4⟩ := Kd.R_slice HO254.out; subst eo4; obtain ⟨hcz5_0, hcz5_1, hfz5_0, hfz5_1⟩ := c2 BK251; clear ho0 hb))
 refine bodyPost_ret (results_cell_row rfl _ _ gb251 26 #[.slice Ao4 t252.length co4, .slice none 0 0] (0, 0) _ rfl tZ Try.underlying26 rfl (by kernel_rfl)) rfl ?_; exact ⟨_, _, tE, by (with_reducible repeat (first | apply Kd.R_alloc | apply Kd.R_drewN | apply Kd.R_drew)); exact Kd.R_mono (Kd.R_far (p := ⟨gb251, 1, none⟩) (Kd.R_far (p := ⟨gb251, 0, none⟩) (Kd.R_types HO254.out BK251.out (by decide)) (fun _ hk => hk.2) (.slice Ao4 t252.length co4)) (fun _ hk => hk.2) (.slice none 0 0)) (fun _ hk => trivial), by first | exact Kd.R_nil _ _ _ _ _ | exact Kd.N_nil _ _ _ _ _ | exact Kd.V_nil _ _ _ _ _ | exact Kd.Q_nil _ _ _ _ _ | exact Kd.S_nil _ _ _ _ _, tB⟩

/-! ### spec_rnd_one: function 62 -/
def spec_rnd_one.f (s0_0 : List Int) (s0_1 : Int) (l1 : List Int) : Option (Int × Int) := (spec_rnd_pick.f s0_0 s0_1 (l1.length : Int)).bind fun bt255 => (if 0 ≤ bt255.1 then (if bt255.1 < (l1.length : Int) then (some (rd l1 bt255.1, bt255.2)) else (none)) else (none))
set_option maxHeartbeats 8000000 in
set_option maxRecDepth 100000 in
theorem spec_rnd_one.calls (g : Nat) (s0_0 : List Int) (s0_1 : Int) (A1 : Option Addr) (c1 : Nat) (l1 : List Int) (r1 : Int) (r2 : Int) (w0 w : World) (hI : IsS77 w0 w g s0_0 s0_1) (hB : Below w0.heap.size w0 w) (hr1 : Kd.C (Kd.int .i64) w A1 l1.length l1) (hc1 : l1.length ≤ c1) (hf1 : ∀ ad, A1 = some ad → 0 < l1.length → ad.block ≠ g) (h : spec_rnd_one.f s0_0 s0_1 l1 = some (r1, r2)) :
 Calls Try.prog 62 #[.pointer (some ⟨g, 0, none⟩), .slice A1 l1.length c1] w fun e w' => e = .returned (.int .i64 r1) ∧ IsS77 w0 w' g s0_0 r2 ∧ Below w0.heap.size w0 w' ∧ KeepBut w w' g none := by
 have HR1 := aS hr1; have HC1 := aS hc1; clear hr1 hc1; have HI0 := aS hI; have HK := aS (KeepBut.refl w g none); have HL := aS hB.size; clear hI; have HW0 := aS hB.size; have HB := aS hB; clear hB; have H : ((spec_rnd_pick.f s0_0 s0_1 (l1.length : Int)).bind fun bt255 => (if 0 ≤ bt255.1 then (if bt255.1 < (l1.length : Int) then (some (rd l1 bt255.1, bt255.2)) else (none)) else (none))) = some (r1, r2) := h; clear h; replace H := oB H; obtain ⟨⟨t255, t256⟩, A30, H⟩ := H; replace H : (if 0 ≤ t255 then (if t255 < (l1.length : Int) then (some (rd l1 t255, t256)) else (none)) else (none)) = some (r1, r2) := H; have A3 := aS A30; clear A30; by_cases c4 : 0 ≤ t255
 · rw [if_pos c4] at H; have c4b0 : decide (0 ≤ t255) = true := decide_eq_true c4; clear c4; by_cases c5 : t255 < (l1.length : Int)
   case neg =>
    rw [if_neg c5] at H; exact nS H
   rw [if_pos c5] at H; have c5b0 : decide (t255 < (l1.length : Int)) = true := decide_eq_true c5; clear c5; simp only [Option.some.injEq, Prod.mk.injEq] at H; obtain ⟨rfl, rfl⟩ := H
   go_enter Try.func62, Try.ntmps62
   go_wp2_with (first | ((with_reducible refine gC 45 ?_); refine goS (some 9) Try.func45 #[.pointer (some ⟨g, 0, none⟩), .int .i64 (l1.length : Int)] ?_; (with_reducible refine (spec_rnd_pick.calls g s0_0 s0_1 (l1.length : Int) t255 t256 w0 _ ?side1 ?side2 A3.out).mono ?_); (case side1 => exact tI77); (case side2 => exact tB77); rintro e w6 ⟨rfl, hi, hb, hk⟩; refine ⟨_, rfl, ?_⟩; replace HK := aS (KeepBut.trans tH hk (.inl rfl)); replace HI0 := aS (hi); replace HB := aS (hb); have p257 : 0 ≤ (t255 : Int) := of_decide_eq_true tP; have q257 : t255 < (l1.length : Int) := of_decide_eq_true tP; obtain ⟨ad257, e257, hx257_0⟩ := Kd.at_int HR1.out t255 p257 q257; cases e257; replace hx257_0 := keep_cell HK.out hx257_0 (by first | (rw [add_block]; exact hf1 _ rfl (by omega)) | exact hf1 _ rfl (by omega) | exact hf1 ad257 rfl (by omega)); replace p257 := eq_true p257; replace q257 := eq_true q257; clear hi hb hk))
   go_ret; exact ⟨tE, by repeat (first | (with_reducible first | exact HI0.out | apply IsS77.alloc | apply IsS77.drewN | apply IsS77.drew | apply IsS77.set_1) | exact HI0.out), tB77, tH⟩
 rw [if_neg c4] at H; exact nS H

/-! ### spec_rnd_of: function 63 -/
def spec_rnd_of.f (s0_0 : List Int) (s0_1 : Int) (l1 : List ByteArray) : Option (ByteArray × Int) := (spec_rnd_pick.f s0_0 s0_1 (l1.length : Int)).bind fun bt258 => (if 0 ≤ bt258.1 then (if bt258.1 < (l1.length : Int) then (some (rdOf ByteArray.empty l1 bt258.1, bt258.2)) else (none)) else (none))
set_option maxHeartbeats 8000000 in
set_option maxRecDepth 100000 in
theorem spec_rnd_of.calls (g : Nat) (s0_0 : List Int) (s0_1 : Int) (A1 : Option Addr) (c1 : Nat) (l1 : List ByteArray) (r1 : ByteArray) (r2 : Int) (w0 w : World) (hI : IsS77 w0 w g s0_0 s0_1) (hB : Below w0.heap.size w0 w) (hr1 : Kd.C Kd.string w A1 l1.length l1) (hc1 : l1.length ≤ c1) (hf1 : ∀ ad, A1 = some ad → 0 < l1.length → ad.block ≠ g) (h : spec_rnd_of.f s0_0 s0_1 l1 = some (r1, r2)) :
 Calls Try.prog 63 #[.pointer (some ⟨g, 0, none⟩), .slice A1 l1.length c1] w fun e w' => e = .returned (.string r1) ∧ IsS77 w0 w' g s0_0 r2 ∧ Below w0.heap.size w0 w' ∧ KeepBut w w' g none := by
 have HR1 := aS hr1; have HC1 := aS hc1; clear hr1 hc1; have HI0 := aS hI; have HK := aS (KeepBut.refl w g none); have HL := aS hB.size; clear hI; have HW0 := aS hB.size; have HB := aS hB; clear hB; have H : ((spec_rnd_pick.f s0_0 s0_1 (l1.length : Int)).bind fun bt258 => (if 0 ≤ bt258.1 then (if bt258.1 < (l1.length : Int) then (some (rdOf ByteArray.empty l1 bt258.1, bt258.2)) else (none)) else (none))) = some (r1, r2) := h; clear h; replace H := oB H; obtain ⟨⟨t258, t259⟩, A30, H⟩ := H; replace H : (if 0 ≤ t258 then (if t258 < (l1.length : Int) then (some (rdOf ByteArray.empty l1 t258, t259)) else (none)) else (none)) = some (r1, r2) := H; have A3 := aS A30; clear A30; by_cases c4 : 0 ≤ t258
 · rw [if_pos c4] at H; have c4b0 : decide (0 ≤ t258) = true := decide_eq_true c4; clear c4; by_cases c5 : t258 < (l1.length : Int)
   case neg =>
    rw [if_neg c5] at H; exact nS H
   rw [if_pos c5] at H; have c5b0 : decide (t258 < (l1.length : Int)) = true := decide_eq_true c5; clear c5; simp only [Option.some.injEq, Prod.mk.injEq] at H; obtain ⟨rfl, rfl⟩ := H
   go_enter Try.func63, Try.ntmps63
   go_wp2_with (first | ((with_reducible refine gC 45 ?_); refine goS (some 9) Try.func45 #[.pointer (some ⟨g, 0, none⟩), .int .i64 (l1.length : Int)] ?_; (with_reducible refine (spec_rnd_pick.calls g s0_0 s0_1 (l1.length : Int) t258 t259 w0 _ ?side1 ?side2 A3.out).mono ?_); (case side1 => exact tI77); (case side2 => exact tB77); rintro e w6 ⟨rfl, hi, hb, hk⟩; refine ⟨_, rfl, ?_⟩; replace HK := aS (KeepBut.trans tH hk (.inl rfl)); replace HI0 := aS (hi); replace HB := aS (hb); have p260 : 0 ≤ (t258 : Int) := of_decide_eq_true tP; have q260 : t258 < (l1.length : Int) := of_decide_eq_true tP; obtain ⟨ad260, e260, hx260_0⟩ := Kd.at_string HR1.out t258 p260 q260; cases e260; replace hx260_0 := keep_cell HK.out hx260_0 (by first | (rw [add_block]; exact hf1 _ rfl (by omega)) | exact hf1 _ rfl (by omega) | exact hf1 ad260 rfl (by omega)); replace p260 := eq_true p260; replace q260 := eq_true q260; clear hi hb hk))
   go_ret; exact ⟨tE, by repeat (first | (with_reducible first | exact HI0.out | apply IsS77.alloc | apply IsS77.drewN | apply IsS77.drew | apply IsS77.set_1) | exact HI0.out), tB77, tH⟩
 rw [if_neg c4] at H; exact nS H

/-! ### spec_positive: function 80 -/
def spec_positive.l0 : Nat → Int → ByteArray → Option (ByteArray)
 | 0, _, _ => none
 | k + 1, x0, x3 => if (Int.tmod x0 10) < 0 then ((some (([(wrap64 (48 + (wrap64 (-(Int.tmod x0 10))))) % 256] : List Int) : List Int)).bind fun y261 => (if (strOfNums y261).size + x3.size ≤ 9223372036854775807 then (if (wrap64 (Int.tdiv x0 10)) = 0 then (some ((strOfNums y261) ++ x3)) else (spec_positive.l0 k (wrap64 (Int.tdiv x0 10)) ((strOfNums y261) ++ x3))) else (none))) else ((some (([(wrap64 (48 + (Int.tmod x0 10))) % 256] : List Int) : List Int)).bind fun y264 => (if (strOfNums y264).size + x3.size ≤ 9223372036854775807 then (if (wrap64 (Int.tdiv x0 10)) = 0 then (some ((strOfNums y264) ++ x3)) else (spec_positive.l0 k (wrap64 (Int.tdiv x0 10)) ((strOfNums y264) ++ x3))) else (none)))
def spec_positive.f (k : Nat) (a0 : Int) : Option (ByteArray) := spec_positive.l0 k a0 (⟨#[]⟩ : ByteArray)
theorem spec_positive.mono_l : ∀ k, (∀ y0 y1, LeO (spec_positive.l0 k y0 y1) (spec_positive.l0 (k + 1) y0 y1))
 | 0 => fun _ _ r h => by simp [spec_positive.l0] at h
 | k + 1 => by
  have ih0 := spec_positive.mono_l k; intro y0 y1
  unfold spec_positive.l0
  exact tM
theorem spec_positive.mono : ∀ a0 k, LeO (spec_positive.f k a0) (spec_positive.f (k + 1) a0) := by
 intro a0 k; have ih0 := spec_positive.mono_l k
 unfold spec_positive.f
 exact tM
set_option maxHeartbeats 8000000 in
set_option maxRecDepth 100000 in
theorem spec_positive.calls (k : Nat) (a0 : Int) (r : ByteArray) (w : World) (h : spec_positive.f k a0 = some r) :
 Calls Try.prog 80 #[.int .i64 a0] w fun e w' => e = .returned (.string r) ∧ Below w.heap.size w w' := by
 have HB := aS (Below.refl w.heap.size w); have H : (spec_positive.l0 k a0 (⟨#[]⟩ : ByteArray)) = some r := h; clear h; have H' := aS H; clear H
 go_enter Try.func80, Try.ntmps80
 go_wp2
 go_loopg [0, 3] k (fun kq v0 v3 w' => ∃ (x0_1 : Int) (x3_1 : ByteArray), v0 = .int .i64 x0_1 ∧ v3 = .string x3_1 ∧ Aside0 (spec_positive.l0 kq x0_1 x3_1 = some r) ∧ Aside0 (kq ≤ k) ∧ Aside0 (Below w.heap.size w w'))
 case atStart => exact ⟨(a0), ((⟨#[]⟩ : ByteArray)), tX, tX, H', ⟨Nat.le_refl _⟩, ⟨tB⟩⟩
 case round =>
  clear H'; obtain ⟨x0_1, x3_1, rfl, rfl, HA, HK1, HB⟩ := hrel
  cases gk with
  | zero => exact absurd HA.out (by simp [spec_positive.l0])
  | succ k1 =>
   have H := HA.out; clear HA; simp only [spec_positive.l0] at H; by_cases c2 : (Int.tmod x0_1 10) < 0
   · rw [if_pos c2] at H; have c2b0 : decide ((Int.tmod x0_1 10) < 0) = true := decide_eq_true c2; clear c2; obtain ⟨y261, hy261⟩ : ∃ y_ : List Int, y_ = (([(wrap64 (48 + (wrap64 (-(Int.tmod x0_1 10))))) % 256] : List Int)) := ⟨_, rfl⟩
     replace H : (if (strOfNums y261).size + x3_1.size ≤ 9223372036854775807 then (if (wrap64 (Int.tdiv x0_1 10)) = 0 then (some ((strOfNums y261) ++ x3_1)) else (spec_positive.l0 k1 (wrap64 (Int.tdiv x0_1 10)) ((strOfNums y261) ++ x3_1))) else (none)) = some r := by first | (rw [hy261]; with_reducible exact H) | (have H2_ := (Option.bind_some _ _).symm.trans H; rw [hy261]; with_reducible exact H2_) | (have H2_ := (Option.bind_some _ _).symm.trans H; with_reducible exact H2_) | with_reducible exact H | (rw [hy261]; exact H) | exact H
     have Ny261 := aS hy261; clear hy261; by_cases c3 : (strOfNums y261).size + x3_1.size ≤ 9223372036854775807
     case neg =>
      rw [if_neg c3] at H; exact nS H
     rw [if_pos c3] at H; have c3b0 := eq_true c3; have c3b1 : decide ((strOfNums y261).size + x3_1.size ≤ 9223372036854775807) = true := decide_eq_true c3
     try have c3b2 : (9223372036854775807 < (strOfNums y261).size + x3_1.size) = False := eq_false (Nat.not_lt.2 c3)
     by_cases c4 : (wrap64 (Int.tdiv x0_1 10)) = 0
     · rw [if_pos c4] at H; have c4b0 : ((wrap64 (Int.tdiv x0_1 10)) == 0) = true := beq_iff_eq.mpr c4; have c4b1 : ((wrap64 (Int.tdiv x0_1 10)) != 0) = false := bne_eq_false_iff_eq.mpr c4; clear c4; obtain rfl := oI H
       go_wp2_with (first | ((with_reducible refine gD 14 ?_); refine Kd.R_lit (Kd.int .u8) _ 5 ?hg (N := 14) ?hd (xs := ([(wrap64 (48 + (wrap64 (-(Int.tmod x0_1 10))))) % 256] : List Int)) (inner := [.int .u8 ((wrap64 (48 + (wrap64 (-(Int.tmod x0_1 10))))) % 256)]) (ok := fun _ => True) (okp := fun _ => True) ?hr ?hp (fun _ hk => hk) trivial (Below.refl _ _) (Nat.le_refl _) (by simp) ?_; (case hd => rfl); (case hg => rfl); (case hr => first | (go_simp; done) | (go_simp; rfl)); (case hp => exact (Reps.one (show Kd.M (Kd.int .u8) _ _ _ ((wrap64 (48 + (wrap64 (-(Int.tmod x0_1 10))))) % 256) [.int .u8 ((wrap64 (48 + (wrap64 (-(Int.tmod x0_1 10))))) % 256)] from rfl) (Reps.none _ _))); intro v262 w5 ho6 hb hg_ hnew_; clear hg_ hnew_; (first | rw [← Ny261.out] at ho6 | (simp only [Int.reduceToNat] at ho6; rw [← Ny261.out] at ho6)); have HO263 := aS (Kd.R_lower ho6 (below_size tB)); replace HB := aS (below_step tB hb); clear hb ho6; have hcv7 := own_string (P := Try.prog) Try.underlying22 Try.underlying5 Try.underlying9 (Kd.own_of_R HO263.out)))
       go_ret; exact ⟨tE, tB⟩
     rw [if_neg c4] at H; have c4b0 : ((wrap64 (Int.tdiv x0_1 10)) == 0) = false := beq_eq_false_iff_ne.mpr c4; have c4b1 : ((wrap64 (Int.tdiv x0_1 10)) != 0) = true := bne_iff_ne.mpr c4; have H' := aS H; clear H
     go_wp2_with (first | ((with_reducible refine gD 14 ?_); refine Kd.R_lit (Kd.int .u8) _ 5 ?hg (N := 14) ?hd (xs := ([(wrap64 (48 + (wrap64 (-(Int.tmod x0_1 10))))) % 256] : List Int)) (inner := [.int .u8 ((wrap64 (48 + (wrap64 (-(Int.tmod x0_1 10))))) % 256)]) (ok := fun _ => True) (okp := fun _ => True) ?hr ?hp (fun _ hk => hk) trivial (Below.refl _ _) (Nat.le_refl _) (by simp) ?_; (case hd => rfl); (case hg => rfl); (case hr => first | (go_simp; done) | (go_simp; rfl)); (case hp => exact (Reps.one (show Kd.M (Kd.int .u8) _ _ _ ((wrap64 (48 + (wrap64 (-(Int.tmod x0_1 10))))) % 256) [.int .u8 ((wrap64 (48 + (wrap64 (-(Int.tmod x0_1 10))))) % 256)] from rfl) (Reps.none _ _))); intro v262 w8 ho9 hb hg_ hnew_; clear hg_ hnew_; (first | rw [← Ny261.out] at ho9 | (simp only [Int.reduceToNat] at ho9; rw [← Ny261.out] at ho9)); have HO263 := aS (Kd.R_lower ho9 (below_size tB)); replace HB := aS (below_step tB hb); clear hb ho9; have hcv10 := own_string (P := Try.prog) Try.underlying22 Try.underlying5 Try.underlying9 (Kd.own_of_R HO263.out)))
     go_roundg k1
     case measure => have := HK1.out; omega
     case rel => exact ⟨(wrap64 (Int.tdiv x0_1 10)), ((strOfNums y261) ++ x3_1), tX, tX, H', ⟨by have := HK1.out; omega⟩, ⟨tB⟩⟩
   rw [if_neg c2] at H; have c2b0 : decide ((Int.tmod x0_1 10) < 0) = false := decide_eq_false c2; clear c2; obtain ⟨y264, hy264⟩ : ∃ y_ : List Int, y_ = (([(wrap64 (48 + (Int.tmod x0_1 10))) % 256] : List Int)) := ⟨_, rfl⟩
   replace H : (if (strOfNums y264).size + x3_1.size ≤ 9223372036854775807 then (if (wrap64 (Int.tdiv x0_1 10)) = 0 then (some ((strOfNums y264) ++ x3_1)) else (spec_positive.l0 k1 (wrap64 (Int.tdiv x0_1 10)) ((strOfNums y264) ++ x3_1))) else (none)) = some r := by first | (rw [hy264]; with_reducible exact H) | (have H2_ := (Option.bind_some _ _).symm.trans H; rw [hy264]; with_reducible exact H2_) | (have H2_ := (Option.bind_some _ _).symm.trans H; with_reducible exact H2_) | with_reducible exact H | (rw [hy264]; exact H) | exact H
   have Ny264 := aS hy264; clear hy264; by_cases c11 : (strOfNums y264).size + x3_1.size ≤ 9223372036854775807
   · rw [if_pos c11] at H; have c11b0 := eq_true c11; have c11b1 : decide ((strOfNums y264).size + x3_1.size ≤ 9223372036854775807) = true := decide_eq_true c11
     try have c11b2 : (9223372036854775807 < (strOfNums y264).size + x3_1.size) = False := eq_false (Nat.not_lt.2 c11)
     by_cases c12 : (wrap64 (Int.tdiv x0_1 10)) = 0
     · rw [if_pos c12] at H; have c12b0 : ((wrap64 (Int.tdiv x0_1 10)) == 0) = true := beq_iff_eq.mpr c12; have c12b1 : ((wrap64 (Int.tdiv x0_1 10)) != 0) = false := bne_eq_false_iff_eq.mpr c12; clear c12; obtain rfl := oI H
       go_wp2_with (first | ((with_reducible refine gD 14 ?_); refine Kd.R_lit (Kd.int .u8) _ 5 ?hg (N := 14) ?hd (xs := ([(wrap64 (48 + (Int.tmod x0_1 10))) % 256] : List Int)) (inner := [.int .u8 ((wrap64 (48 + (Int.tmod x0_1 10))) % 256)]) (ok := fun _ => True) (okp := fun _ => True) ?hr ?hp (fun _ hk => hk) trivial (Below.refl _ _) (Nat.le_refl _) (by simp) ?_; (case hd => rfl); (case hg => rfl); (case hr => first | (go_simp; done) | (go_simp; rfl)); (case hp => exact (Reps.one (show Kd.M (Kd.int .u8) _ _ _ ((wrap64 (48 + (Int.tmod x0_1 10))) % 256) [.int .u8 ((wrap64 (48 + (Int.tmod x0_1 10))) % 256)] from rfl) (Reps.none _ _))); intro v265 w13 ho14 hb hg_ hnew_; clear hg_ hnew_; (first | rw [← Ny264.out] at ho14 | (simp only [Int.reduceToNat] at ho14; rw [← Ny264.out] at ho14)); have HO266 := aS (Kd.R_lower ho14 (below_size tB)); replace HB := aS (below_step tB hb); clear hb ho14; have hcv15 := own_string (P := Try.prog) Try.underlying22 Try.underlying5 Try.underlying9 (Kd.own_of_R HO266.out)))
       go_ret; exact ⟨tE, tB⟩
     rw [if_neg c12] at H; have c12b0 : ((wrap64 (Int.tdiv x0_1 10)) == 0) = false := beq_eq_false_iff_ne.mpr c12; have c12b1 : ((wrap64 (Int.tdiv x0_1 10)) != 0) = true := bne_iff_ne.mpr c12; have H' := aS H; clear H
     go_wp2_with (first | ((with_reducible refine gD 14 ?_); refine Kd.R_lit (Kd.int .u8) _ 5 ?hg (N := 14) ?hd (xs := ([(wrap64 (48 + (Int.tmod x0_1 10))) % 256] : List Int)) (inner := [.int .u8 ((wrap64 (48 + (Int.tmod x0_1 10))) % 256)]) (ok := fun _ => True) (okp := fun _ => True) ?hr ?hp (fun _ hk => hk) trivial (Below.refl _ _) (Nat.le_refl _) (by simp) ?_; (case hd => rfl); (case hg => rfl); (case hr => first | (go_simp; done) | (go_simp; rfl)); (case hp => exact (Reps.one (show Kd.M (Kd.int .u8) _ _ _ ((wrap64 (48 + (Int.tmod x0_1 10))) % 256) [.int .u8 ((wrap64 (48 + (Int.tmod x0_1 10))) % 256)] from rfl) (Reps.none _ _))); intro v265 w16 ho17 hb hg_ hnew_; clear hg_ hnew_; (first | rw [← Ny264.out] at ho17 | (simp only [Int.reduceToNat] at ho17; rw [← Ny264.out] at ho17)); have HO266 := aS (Kd.R_lower ho17 (below_size tB)); replace HB := aS (below_step tB hb); clear hb ho17; have hcv18 := own_string (P := Try.prog) Try.underlying22 Try.underlying5 Try.underlying9 (Kd.own_of_R HO266.out)))
     go_roundg k1
     case measure => have := HK1.out; omega
     case rel => exact ⟨(wrap64 (Int.tdiv x0_1 10)), ((strOfNums y264) ++ x3_1), tX, tX, H', ⟨by have := HK1.out; omega⟩, ⟨tB⟩⟩
   rw [if_neg c11] at H; exact nS H

/-! ### spec_decimal: function 64 -/
def spec_decimal.f (k : Nat) (a0 : Int) : Option (ByteArray) := if a0 < 0 then ((spec_positive.f k a0).bind fun t267 => (if 1 + t267.size ≤ 9223372036854775807 then (some ((⟨#[45]⟩ : ByteArray) ++ t267)) else (none))) else ((spec_positive.f k a0).bind fun t268 => (some t268))
theorem spec_decimal.mono : ∀ a0 k, LeO (spec_decimal.f k a0) (spec_decimal.f (k + 1) a0) := by
 intro a0 k
 unfold spec_decimal.f
 have m0_ := @spec_positive.mono; exact tM
set_option maxHeartbeats 8000000 in
set_option maxRecDepth 100000 in
theorem spec_decimal.calls (k : Nat) (a0 : Int) (r : ByteArray) (w : World) (h : spec_decimal.f k a0 = some r) :
 Calls Try.prog 64 #[.int .i64 a0] w fun e w' => e = .returned (.string r) ∧ Below w.heap.size w w' := by
 have HB := aS (Below.refl w.heap.size w); have H : (if a0 < 0 then ((spec_positive.f k a0).bind fun t267 => (if 1 + t267.size ≤ 9223372036854775807 then (some ((⟨#[45]⟩ : ByteArray) ++ t267)) else (none))) else ((spec_positive.f k a0).bind fun t268 => (some t268))) = some r := h; clear h; by_cases c2 : a0 < 0
 · rw [if_pos c2] at H; have c2b0 : decide (a0 < 0) = true := decide_eq_true c2; clear c2; replace H := oB H; obtain ⟨t267, A30, H⟩ := H; replace H : (if 1 + t267.size ≤ 9223372036854775807 then (some ((⟨#[45]⟩ : ByteArray) ++ t267)) else (none)) = some r := H; have A3 := aS A30; clear A30; by_cases c4 : 1 + t267.size ≤ 9223372036854775807
   case neg =>
    rw [if_neg c4] at H; exact nS H
   rw [if_pos c4] at H; have c4b0 := eq_true c4; have c4b1 : decide (1 + t267.size ≤ 9223372036854775807) = true := decide_eq_true c4
   try have c4b2 : (9223372036854775807 < 1 + t267.size) = False := eq_false (Nat.not_lt.2 c4)
   obtain rfl := oI H
   go_enter Try.func64, Try.ntmps64
   go_wp2_with (first | ((with_reducible refine gC 80 ?_); refine goS (some 6) Try.func80 #[.int .i64 a0] ?_; (with_reducible refine (spec_positive.calls k a0 t267 _ A3.out).mono ?_); rintro e w5 ⟨rfl, hb⟩; refine ⟨_, rfl, ?_⟩; replace HB := aS (below_step tB hb); clear hb))
   go_ret; exact ⟨tE, tB⟩
 rw [if_neg c2] at H; have c2b0 : decide (a0 < 0) = false := decide_eq_false c2; clear c2; replace H := oB H; obtain ⟨t268, A60, H⟩ := H; replace H : (some t268) = some r := H; have A6 := aS A60; clear A60; obtain rfl := oI H
 go_enter Try.func64, Try.ntmps64
 go_wp2_with (first | ((with_reducible refine gC 80 ?_); refine goS (some 9) Try.func80 #[.int .i64 a0] ?_; (with_reducible refine (spec_positive.calls k a0 t268 _ A6.out).mono ?_); rintro e w7 ⟨rfl, hb⟩; refine ⟨_, rfl, ?_⟩; replace HB := aS (below_step tB hb); clear hb))
 go_ret; exact ⟨tE, tB⟩

/-! ### spec_rnd_odd: function 65 -/
def spec_rnd_odd.f (s0_0 : List Int) (s0_1 : Int) : Option (Int × Int) := (spec_rnd_one.f s0_0 s0_1 (([(-1), 4611686018427387904, (-4611686018427387904), 1001, 7, 1000001, (-9223372036854775808), 9223372036854775807] : List Int))).bind fun bt272 => (some (bt272.1, bt272.2))
set_option maxHeartbeats 8000000 in
set_option maxRecDepth 100000 in
theorem spec_rnd_odd.calls (g : Nat) (s0_0 : List Int) (s0_1 : Int) (r1 : Int) (r2 : Int) (w0 w : World) (hI : IsS77 w0 w g s0_0 s0_1) (hB : Below w0.heap.size w0 w) (h : spec_rnd_odd.f s0_0 s0_1 = some (r1, r2)) :
 Calls Try.prog 65 #[.pointer (some ⟨g, 0, none⟩)] w fun e w' => e = .returned (.int .i64 r1) ∧ IsS77 w0 w' g s0_0 r2 ∧ Below w0.heap.size w0 w' ∧ KeepBut w w' g none := by
 have HI0 := aS hI; have HK := aS (KeepBut.refl w g none); have HL := aS hB.size; clear hI; have HW0 := aS hB.size; have HB := aS hB; clear hB; have H : ((spec_rnd_one.f s0_0 s0_1 (([(-1), 4611686018427387904, (-4611686018427387904), 1001, 7, 1000001, (-9223372036854775808), 9223372036854775807] : List Int))).bind fun bt272 => (some (bt272.1, bt272.2))) = some (r1, r2) := h; clear h; obtain ⟨y269, hy269⟩ : ∃ y_ : List Int, y_ = (([(-1), 4611686018427387904, (-4611686018427387904), 1001, 7, 1000001, (-9223372036854775808), 9223372036854775807] : List Int)) := ⟨_, rfl⟩
 replace H : ((spec_rnd_one.f s0_0 s0_1 y269).bind fun bt272 => (some (bt272.1, bt272.2))) = some (r1, r2) := by first | (rw [hy269]; with_reducible exact H) | (have H2_ := (Option.bind_some _ _).symm.trans H; rw [hy269]; with_reducible exact H2_) | (have H2_ := (Option.bind_some _ _).symm.trans H; with_reducible exact H2_) | with_reducible exact H | (rw [hy269]; exact H) | exact H
 have Ny269 := aS hy269; clear hy269; replace H := oB H; obtain ⟨⟨t272, t273⟩, A20, H⟩ := H; replace H : (some (t272, t273)) = some (r1, r2) := H; have A2 := aS A20; clear A20; simp only [Option.some.injEq, Prod.mk.injEq] at H; obtain ⟨rfl, rfl⟩ := H
 go_enter Try.func65, Try.ntmps65
 go_wp2_with (first | ((with_reducible refine gD 4 ?_); refine Kd.R_lit (Kd.int .i64) _ 3 ?hg (N := 4) ?hd (xs := ([(-1), 4611686018427387904, (-4611686018427387904), 1001, 7, 1000001, (-9223372036854775808), 9223372036854775807] : List Int)) (inner := [.int .i64 (-1), .int .i64 4611686018427387904, .int .i64 (-4611686018427387904), .int .i64 1001, .int .i64 7, .int .i64 1000001, .int .i64 (-9223372036854775808), .int .i64 9223372036854775807]) (ok := fun _ => True) (okp := fun _ => True) ?hr ?hp (fun _ hk => hk) trivial (Below.refl _ _) (Nat.le_refl _) (by simp) ?_; (case hd => rfl); (case hg => rfl); (case hr => first | (go_simp; done) | (go_simp; rfl)); (case hp => exact (Reps.one (show Kd.M (Kd.int .i64) _ _ _ (-1) [.int .i64 (-1)] from rfl) (Reps.one (show Kd.M (Kd.int .i64) _ _ _ 4611686018427387904 [.int .i64 4611686018427387904] from rfl) (Reps.one (show Kd.M (Kd.int .i64) _ _ _ (-4611686018427387904) [.int .i64 (-4611686018427387904)] from rfl) (Reps.one (show Kd.M (Kd.int .i64) _ _ _ 1001 [.int .i64 1001] from rfl) (Reps.one (show Kd.M (Kd.int .i64) _ _ _ 7 [.int .i64 7] from rfl) (Reps.one (show Kd.M (Kd.int .i64) _ _ _ 1000001 [.int .i64 1000001] from rfl) (Reps.one (show Kd.M (Kd.int .i64) _ _ _ (-9223372036854775808) [.int .i64 (-9223372036854775808)] from rfl) (Reps.one (show Kd.M (Kd.int .i64) _ _ _ 9223372036854775807 [.int .i64 9223372036854775807] from rfl) (Reps.none _ _)))))))))); intro v270 w3 ho4 hb hg_ hnew_; clear hg_ hnew_; (first | rw [← Ny269.out] at ho4 | (simp only [Int.reduceToNat] at ho4; rw [← Ny269.out] at ho4)); have HO271 := aS (Kd.R_lower ho4 (keep_size (w := w) (g := g) (row := none) tH)); replace HK := aS (KeepBut.trans tH (KeepBut.of_below hb g none) (.inl rfl)); replace HB := aS (below_step tB77 hb); replace HI0 := aS (IsS77.below tI77 hb); clear hb ho4; obtain ⟨Ao5, co5, eo5⟩ := Kd.R_slice HO271.out; subst eo5) | ((with_reducible refine gC 62 ?_); refine goS (some 5) Try.func62 #[.pointer (some ⟨g, 0, none⟩), .slice Ao5 y269.length co5] ?_; (with_reducible refine (spec_rnd_one.calls g s0_0 s0_1 _ _ y269 t272 t273 w0 _ ?side1 ?side2 ?side3 ?side4 ?side5 A2.out).mono ?_); (case side1 => exact tI77); (case side2 => exact tB77); (case side3 => exact tC ((Kd.R_reads' HO271.out).2.2)); (case side4 => exact (Kd.R_reads' HO271.out).2.1); (case side5 => exact far_slice (IsS77.own_ne HI0.out HO271.out (by decide))); rintro e w6 ⟨rfl, hi, hb, hk⟩; refine ⟨_, rfl, ?_⟩; replace HO271 := aS (Kd.R_mono (Kd.R_keep (IsS77.apart (show IsS77 w0 _ g s0_0 s0_1 from tI77) (tR HO271.out) (by decide)) hk (fun _ h => h.2)) (fun _ h => h.1)); replace HK := aS (KeepBut.trans tH hk (.inl rfl)); replace HI0 := aS (hi); replace HB := aS (hb); clear hi hb hk))
 go_ret; exact ⟨tE, by repeat (first | (with_reducible first | exact HI0.out | apply IsS77.alloc | apply IsS77.drewN | apply IsS77.drew | apply IsS77.set_1) | exact HI0.out), tB77, tH⟩

end Go.Proofs.Ytihcollncjcpgaa.P
