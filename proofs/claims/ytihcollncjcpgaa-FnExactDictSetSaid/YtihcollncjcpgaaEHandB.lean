/- The contract of (*Dict).add: the struct at the receiver's pointer holds, behind the call, its index with the key's slot set and its entries with the new one behind; what is neither one of its rows nor that struct is kept. Conditions: the struct lies in memory of the caller's own, its two rows too. -/
import Derived.Test.YtihcollncjcpgaaEx0
import Derived.Test.YtihcollncjcpgaaEx8
import Derived.Test.YtihcollncjcpgaaEx9
namespace Go.Proofs.Ytihcollncjcpgaa.E
open Go.RowKit Go.Proofs.YtihcollncjcpgaaW.PrintWords Go.Proofs.YtihcollncjcpgaaW.PrintLast Go.Proofs.YtihcollncjcpgaaW.PrintMore
attribute [local go_sem] max2_int min2_int max_two min_two max_three min_three max_four min_four   -- for this text's walks alone
set_option linter.unusedVariables false
set_option linter.unusedSimpArgs false
abbrev MA_15_0 : Array Bool := #[false, false, false, false, false, false, false, false, false, false, false, false, false, false, false]
abbrev MA_15_1 : Array Bool := #[true, false, false, false, false, false, false, false, false, false, false, false, false, false, false]
abbrev MA_15_16f : Array Bool := #[true, true, true, true, false, true, true, false, true, false, false, false, false, false, false]
abbrev MA_15_17f : Array Bool := #[true, true, true, true, true, true, true, false, true, false, false, false, false, false, false]
abbrev MA_15_1ff : Array Bool := #[true, true, true, true, true, true, true, true, true, false, false, false, false, false, false]
abbrev MA_15_1fff : Array Bool := #[true, true, true, true, true, true, true, true, true, true, true, true, true, false, false]
abbrev MA_15_2f : Array Bool := #[true, true, true, true, false, true, false, false, false, false, false, false, false, false, false]
abbrev MA_15_3 : Array Bool := #[true, true, false, false, false, false, false, false, false, false, false, false, false, false, false]
abbrev MA_15_3ff : Array Bool := #[true, true, true, true, true, true, true, true, true, true, false, false, false, false, false]
abbrev MA_15_3fff : Array Bool := #[true, true, true, true, true, true, true, true, true, true, true, true, true, true, false]
abbrev MA_15_6f : Array Bool := #[true, true, true, true, false, true, true, false, false, false, false, false, false, false, false]
abbrev MA_15_7 : Array Bool := #[true, true, true, false, false, false, false, false, false, false, false, false, false, false, false]
abbrev MA_15_7ff : Array Bool := #[true, true, true, true, true, true, true, true, true, true, true, false, false, false, false]
abbrev MA_15_7fff : Array Bool := #[true, true, true, true, true, true, true, true, true, true, true, true, true, true, true]
abbrev MA_15_f : Array Bool := #[true, true, true, true, false, false, false, false, false, false, false, false, false, false, false]
abbrev MA_15_fff : Array Bool := #[true, true, true, true, true, true, true, true, true, true, true, true, false, false, false]
abbrev MA_17_0 : Array Bool := #[false, false, false, false, false, false, false, false, false, false, false, false, false, false, false, false, false]
abbrev MA_17_1 : Array Bool := #[true, false, false, false, false, false, false, false, false, false, false, false, false, false, false, false, false]
abbrev MA_17_17 : Array Bool := #[true, true, true, false, true, false, false, false, false, false, false, false, false, false, false, false, false]
abbrev MA_17_1df7 : Array Bool := #[true, true, true, false, true, true, true, true, true, false, true, true, true, false, false, false, false]
abbrev MA_17_1dff : Array Bool := #[true, true, true, true, true, true, true, true, true, false, true, true, true, false, false, false, false]
abbrev MA_17_1f7 : Array Bool := #[true, true, true, false, true, true, true, true, true, false, false, false, false, false, false, false, false]
abbrev MA_17_1fff : Array Bool := #[true, true, true, true, true, true, true, true, true, true, true, true, true, false, false, false, false]
abbrev MA_17_1ffff : Array Bool := #[true, true, true, true, true, true, true, true, true, true, true, true, true, true, true, true, true]
abbrev MA_17_3 : Array Bool := #[true, true, false, false, false, false, false, false, false, false, false, false, false, false, false, false, false]
abbrev MA_17_37 : Array Bool := #[true, true, true, false, true, true, false, false, false, false, false, false, false, false, false, false, false]
abbrev MA_17_3fff : Array Bool := #[true, true, true, true, true, true, true, true, true, true, true, true, true, true, false, false, false]
abbrev MA_17_5f7 : Array Bool := #[true, true, true, false, true, true, true, true, true, false, true, false, false, false, false, false, false]
abbrev MA_17_7 : Array Bool := #[true, true, true, false, false, false, false, false, false, false, false, false, false, false, false, false, false]
abbrev MA_17_77 : Array Bool := #[true, true, true, false, true, true, true, false, false, false, false, false, false, false, false, false, false]
abbrev MA_17_7fff : Array Bool := #[true, true, true, true, true, true, true, true, true, true, true, true, true, true, true, false, false]
abbrev MA_17_df7 : Array Bool := #[true, true, true, false, true, true, true, true, true, false, true, true, false, false, false, false, false]
abbrev MA_17_f7 : Array Bool := #[true, true, true, false, true, true, true, true, false, false, false, false, false, false, false, false, false]
abbrev MA_17_ffff : Array Bool := #[true, true, true, true, true, true, true, true, true, true, true, true, true, true, true, true, false]
/-! ### impl_Dict_add: function 41 -/
def impl_Dict_add.f (k : Nat) (l0_0 : List Int) (l0_1 : List (S56)) (a1 : ByteArray) (a2 : Int) : Option (List Int × List (S56)) := (impl_Dict_probe.f k l0_0 l0_1 a1).bind fun t109 => (if 0 ≤ (wrap64 ((t109.length : Int) - 1)) then (if (wrap64 ((t109.length : Int) - 1)) < (t109.length : Int) then (if 0 ≤ (rd t109 (wrap64 ((t109.length : Int) - 1))) then (if (rd t109 (wrap64 ((t109.length : Int) - 1))) < (l0_0.length : Int) then ((impl_DictHash.f k a1).bind fun t114 => (if l0_1.length < 3518437208883 then (some (l0_0.set ((rd t109 (wrap64 ((t109.length : Int) - 1))) : Int).toNat (l0_1.length : Int), l0_1 ++ [(⟨a1, t114, a2, true⟩ : S56)])) else (none))) else (none)) else (none)) else (none)) else (none))
theorem impl_Dict_add.mono : ∀ a0 a1 a2 a3 k, LeO (impl_Dict_add.f k a0 a1 a2 a3) (impl_Dict_add.f (k + 1) a0 a1 a2 a3) := by
 intro a0 a1 a2 a3 k
 unfold impl_Dict_add.f
 have m0_ := @impl_DictHash.mono; have m1_ := @impl_Dict_probe.mono; exact tM
def impl_Dict_add.T1 : Bool × List (List Nat × List Nat) := (true, [([], []), ([0], [0]), ([1], [1]), ([2], [2]), ([], []), ([], []), ([5], [5]), ([6], [6]), ([4, 7], [4, 7]), ([8], [8]), ([], []), ([10], [10]), ([11], [11]), ([12], [12]), ([13], [13]), ([3, 9, 0, 1, 2, 3, 4, 5, 6, 7, 8, 9, 10, 11, 12, 13, 14], [3, 9]), ([15, 14, 0, 1, 2, 3, 4, 5, 6, 7, 8, 9, 10, 11, 12, 13, 14], [14, 15])])
def impl_Dict_add.B1 : List Nat := [0, 1, 3, 7, 0, 0, 32, 96, 240, 496, 0, 1024, 3072, 7168, 15360, 32767, 65535]
theorem impl_Dict_add.tab1 : rtab .any (opsOf Try.f41 1) = impl_Dict_add.T1 := by kernel_rfl
theorem impl_Dict_add.bits1 : waitsOk impl_Dict_add.T1.2 impl_Dict_add.B1 = true := by kernel_rfl
def impl_Dict_add.T2 : Bool × List (List Nat × List Nat) := (true, [([], []), ([], []), ([1], [1]), ([2], [2]), ([3], [3]), ([], []), ([], []), ([6], [6]), ([], []), ([5, 7, 8], [5, 7, 8]), ([9], [9]), ([4, 10, 7], [4, 10]), ([0, 0, 1, 2, 3, 4, 5, 6, 7, 8, 9, 10, 11], [0]), ([12, 0, 1, 2, 3, 4, 5, 6, 7, 8, 9, 10, 11], [12]), ([13, 11, 11, 0, 1, 2, 3, 4, 5, 6, 7, 8, 9, 10, 11], [11, 13])])
def impl_Dict_add.B2 : List Nat := [0, 0, 2, 6, 14, 0, 0, 64, 0, 480, 992, 2046, 4095, 8191, 16383]
theorem impl_Dict_add.tab2 : rtab .any (opsOf Try.f41 2) = impl_Dict_add.T2 := by kernel_rfl
theorem impl_Dict_add.bits2 : waitsOk impl_Dict_add.T2.2 impl_Dict_add.B2 = true := by kernel_rfl
set_option maxHeartbeats 8000000 in
set_option maxRecDepth 100000 in
theorem impl_Dict_add.calls (k : Nat) (g : Nat) (P0_0_ : Nat → Prop) (u9000_ : Value) (l0_0 : List Int) (P0_1_ : Nat → Prop) (u9001_ : Value) (l0_1 : List (S56)) (a1 : ByteArray) (a2 : Int) (r1 : List Int) (r2 : List (S56)) (w0 w : World) (hB : Below w0.heap.size w0 w) (hg0 : w.heap[g]? = some (.cells #[u9000_, u9001_] 26 (0, 0))) (hge0 : w0.heap.size ≤ g) (ho0_0 : Kd.R (Kd.int .i64) 3 w w0.heap.size P0_0_ u9000_ l0_0) (ho0_1 : Kd.R k56 56 w w0.heap.size P0_1_ u9001_ l0_1) (h : impl_Dict_add.f k l0_0 l0_1 a1 a2 = some (r1, r2)) :
 Calls Try.prog 41 #[.pointer (some ⟨g, 0, none⟩), .string a1, .int .i64 a2] w fun e w' => ∃ v1_ : Value, e = .returned (.tuple #[]) ∧ w'.heap[g]? = some (.cells #[u9000_, v1_] 26 (0, 0)) ∧ Kd.R (Kd.int .i64) 3 w' w0.heap.size (fun k_ => ((P0_0_ k_ ∨ P0_1_ k_) ∨ w.heap.size ≤ k_)) u9000_ r1 ∧ Kd.R k56 56 w' w0.heap.size (fun k_ => ((P0_0_ k_ ∨ P0_1_ k_) ∨ w.heap.size ≤ k_)) v1_ r2 ∧ Below w0.heap.size w0 w' ∧ Kept w w' (fun k_ => (P0_0_ k_ ∨ P0_1_ k_) ∨ k_ = g) := by
 have hu26 := Try.underlying26; have hu56 := Try.underlying56; have HO0_0 := aS (show Kd.R (Kd.int .i64) 3 w w0.heap.size (fun k_ => ((P0_0_ k_ ∨ P0_1_ k_) ∨ w.heap.size ≤ k_)) u9000_ l0_0 from Kd.R_mono ho0_0 (fun k_ hk => (.inl (.inl hk)))); have HO0_1 := aS (show Kd.R k56 56 w w0.heap.size (fun k_ => ((P0_0_ k_ ∨ P0_1_ k_) ∨ w.heap.size ≤ k_)) u9001_ l0_1 from Kd.R_mono ho0_1 (fun k_ hk => (.inl (.inr hk)))); have HK := aS (Kept.refl w (fun k_ => (P0_0_ k_ ∨ P0_1_ k_) ∨ k_ = g)); have HW0 := aS hB.size; have HB := aS hB; have BK108 := aS hg0; have GE108 := aS hge0; clear hB hg0 hge0; have H : ((impl_Dict_probe.f k l0_0 l0_1 a1).bind fun t109 => (if 0 ≤ (wrap64 ((t109.length : Int) - 1)) then (if (wrap64 ((t109.length : Int) - 1)) < (t109.length : Int) then (if 0 ≤ (rd t109 (wrap64 ((t109.length : Int) - 1))) then (if (rd t109 (wrap64 ((t109.length : Int) - 1))) < (l0_0.length : Int) then ((impl_DictHash.f k a1).bind fun t114 => (if l0_1.length < 3518437208883 then (some (l0_0.set ((rd t109 (wrap64 ((t109.length : Int) - 1))) : Int).toNat (l0_1.length : Int), l0_1 ++ [(⟨a1, t114, a2, true⟩ : S56)])) else (none))) else (none)) else (none)) else (none)) else (none))) = some (r1, r2) := h; clear h; replace H := oB H; obtain ⟨t109, A40, H⟩ := H; replace H : (if 0 ≤ (wrap64 ((t109.length : Int) - 1)) then (if (wrap64 ((t109.length : Int) - 1)) < (t109.length : Int) then (if 0 ≤ (rd t109 (wrap64 ((t109.length : Int) - 1))) then (if (rd t109 (wrap64 ((t109.length : Int) - 1))) < (l0_0.length : Int) then ((impl_DictHash.f k a1).bind fun t114 => (if l0_1.length < 3518437208883 then (some (l0_0.set ((rd t109 (wrap64 ((t109.length : Int) - 1))) : Int).toNat (l0_1.length : Int), l0_1 ++ [(⟨a1, t114, a2, true⟩ : S56)])) else (none))) else (none)) else (none)) else (none)) else (none)) = some (r1, r2) := H; have A4 := aS A40; clear A40; obtain ⟨ji5, hji5⟩ : ∃ j_ : Int, (wrap64 ((t109.length : Int) - 1)) = j_ := ⟨_, rfl⟩
 replace H : (if 0 ≤ (ji5) then (if (ji5) < (t109.length : Int) then (if 0 ≤ (rd t109 (ji5)) then (if (rd t109 (ji5)) < (l0_0.length : Int) then ((impl_DictHash.f k a1).bind fun t114 => (if l0_1.length < 3518437208883 then (some (l0_0.set ((rd t109 (ji5)) : Int).toNat (l0_1.length : Int), l0_1 ++ [(⟨a1, t114, a2, true⟩ : S56)])) else (none))) else (none)) else (none)) else (none)) else (none)) = some (r1, r2) := by first | (rw [hji5] at H; exact H) | (simp only [hji5] at H ⊢; exact H)
 (try rw [hji5] at A4)
 have hji5w : (IntKind.i64.wrap ((t109.length : Int) - 1)) = ji5 := (i64_w _).trans hji5; by_cases c6 : 0 ≤ (ji5)
 · rw [if_pos c6] at H; have c6b0 : decide (0 ≤ (ji5)) = true := decide_eq_true c6; clear c6; by_cases c7 : (ji5) < (t109.length : Int)
   case neg =>
    rw [if_neg c7] at H; exact nS H
   rw [if_pos c7] at H; have c7b0 : decide ((ji5) < (t109.length : Int)) = true := decide_eq_true c7; clear c7; by_cases c8 : 0 ≤ (rd t109 (ji5))
   case neg =>
    rw [if_neg c8] at H; exact nS H
   rw [if_pos c8] at H; have c8b0 : decide (0 ≤ (rd t109 (ji5))) = true := decide_eq_true c8; clear c8; by_cases c9 : (rd t109 (ji5)) < (l0_0.length : Int)
   case neg =>
    rw [if_neg c9] at H; exact nS H
   rw [if_pos c9] at H; have c9b0 : decide ((rd t109 (ji5)) < (l0_0.length : Int)) = true := decide_eq_true c9; clear c9; obtain ⟨y113, hy113⟩ : ∃ y_ : List Int, y_ = (l0_0.set ((rd t109 (ji5)) : Int).toNat (l0_1.length : Int)) := ⟨_, rfl⟩
   replace H : ((impl_DictHash.f k a1).bind fun t114 => (if l0_1.length < 3518437208883 then (some (y113, l0_1 ++ [(⟨a1, t114, a2, true⟩ : S56)])) else (none))) = some (r1, r2) := by first | (rw [hy113]; with_reducible exact H) | (have H2_ := (Option.bind_some _ _).symm.trans H; rw [hy113]; with_reducible exact H2_) | (have H2_ := (Option.bind_some _ _).symm.trans H; with_reducible exact H2_) | with_reducible exact H | (rw [hy113]; exact H) | exact H
   have Ny113 := aS hy113; clear hy113; replace H := oB H; obtain ⟨t114, A110, H⟩ := H; replace H : (if l0_1.length < 3518437208883 then (some (y113, l0_1 ++ [(⟨a1, t114, a2, true⟩ : S56)])) else (none)) = some (r1, r2) := H; have A11 := aS A110; clear A110; by_cases c12 : l0_1.length < 3518437208883
   case neg =>
    rw [if_neg c12] at H; exact nS H
   rw [if_pos c12] at H; have LMc12 := aS c12; clear c12; obtain ⟨y115, hy115⟩ : ∃ y_ : List (S56), y_ = (l0_1 ++ [(⟨a1, t114, a2, true⟩ : S56)]) := ⟨_, rfl⟩
   replace H : (some (y113, y115)) = some (r1, r2) := by first | (rw [hy115]; with_reducible exact H) | (have H2_ := (Option.bind_some _ _).symm.trans H; rw [hy115]; with_reducible exact H2_) | (have H2_ := (Option.bind_some _ _).symm.trans H; with_reducible exact H2_) | with_reducible exact H | (rw [hy115]; exact H) | exact H
   have Ny115 := aS hy115; clear hy115; simp only [Option.some.injEq, Prod.mk.injEq] at H; obtain ⟨rfl, rfl⟩ := H; obtain ⟨Ao13, co13, eo13⟩ := Kd.R_slice HO0_0.out; subst eo13; obtain ⟨Ao14, co14, eo14⟩ := Kd.R_slice HO0_1.out; subst eo14
   go_enter Try.func41, Try.ntmps41
   obtain ⟨hcz16_0, hcz16_1, hfz16_0, hfz16_1⟩ := c2 BK108
   go_wp2_with (first | ((with_reducible refine gC 30 ?_); refine goS (some 11) Try.func30 #[.agg #[.slice Ao13 l0_0.length co13, .slice Ao14 l0_1.length co14], .string a1] ?_; (with_reducible refine (impl_Dict_probe.calls k _ _ l0_0 _ _ l0_1 a1 t109 _ ?side1 ?side2 ?side3 ?side4 A4.out).mono ?_); (case side1 => exact tC ((Kd.R_reads' HO0_0.out).2.2)); (case side2 => exact (Kd.R_reads' HO0_0.out).2.1); (case side3 => exact tC ((Kd.R_reads' HO0_1.out).2.2)); (case side4 => exact (Kd.R_reads' HO0_1.out).2.1); rintro e w17 ⟨v110, rfl, ho0, hb⟩; refine ⟨_, rfl, ?_⟩; replace HO0_1 := rB HO0_1 hb; have HO111 := aS (Kd.R_lower (Kd.R_new' (Kd.R_newM (M := fun k_ => ((P0_0_ k_ ∨ P0_1_ k_) ∨ w.heap.size ≤ k_)) ho0 (by first | exact HK.out.1 | exact (show Kept w _ (fun k_ => (P0_0_ k_ ∨ P0_1_ k_) ∨ k_ = g) from by repeat (first | (with_reducible first | exact HK.out | apply Kept.alloc | apply Kept.drewN | apply Kept.drew | refine Kept.setCell ?_ (.inl (.inr rfl)) _) | exact HK.out)).1) (fun k_ h_ => .inr h_)) (Kd.R_lt (tR HO0_0.out))) (below_size tB)); replace HO0_0 := aS (Kd.R_elder' (tR HO0_0.out) (Kd.R_base ho0) hb); replace BK108 := aS (blk_below (g := g) (o := .cells #[.slice Ao13 l0_0.length co13, .slice Ao14 l0_1.length co14] 26 (0, 0)) (tK BK108.out) hb); replace HK := aS (Kept.below (S := (fun k_ => (P0_0_ k_ ∨ P0_1_ k_) ∨ k_ = g)) (by repeat (first | (with_reducible first | exact HK.out | apply Kept.alloc | apply Kept.drewN | apply Kept.drew | refine Kept.setCell ?_ (.inl (.inr rfl)) _) | exact HK.out)) hb); replace HB := aS (below_step tB hb); clear ho0 hb))
   have n0_ := aS (Kd.R_drew HO0_0.out); have n1_ := aS (Kd.R_drew HO0_1.out); have n2_ := aS (Kd.R_drew HO111.out); have n3_ := aS (blk_drew BK108.out); have n4_ := aS (Kept.drew HK.out); have n5_ := aS (below_drew1 HB.out); clear HO0_0; clear HO0_1; clear HO111; clear BK108; clear HK; clear HB; have HO0_0 := n0_; have HO0_1 := n1_; have HO111 := n2_; have BK108 := n3_; have HK := n4_; have HB := n5_; clear n0_ n1_ n2_ n3_ n4_ n5_; obtain ⟨Ao19, co19, eo19⟩ := Kd.R_slice HO111.out
   (first | subst eo19 | (injection eo19 with f1_ f2_ f3_; have f4_ := f1_.symm; have f5_ := f3_.symm; clear f1_ f2_ f3_; subst f4_; subst f5_))
   have p112 : 0 ≤ ((ji5) : Int) := of_decide_eq_true tP; have q112 : (ji5) < (t109.length : Int) := of_decide_eq_true tP; obtain ⟨ad112, e112, hx112_0⟩ := Kd.at_int (Kd.R_reads' HO111.out).2.2 (ji5) p112 q112; cases e112; replace p112 := eq_true p112; replace q112 := eq_true q112; have p10 : 0 ≤ ((rd t109 (ji5)) : Int) := of_decide_eq_true tP; have q10 : ((rd t109 (ji5)) : Int) < ((l0_0.length : Int) : Int) := of_decide_eq_true tP; obtain ⟨go10, co10, eo10, gb10, gl10, cl10, HG10⟩ := Kd.R_form HO0_0.out (by omega)
   (first | cases eo10 | (injection eo10 with ea_ en_ ec_; (first | subst ea_ | (injection ea_ with ea_; subst ea_)); subst ec_; clear en_))
   have GB10 := aS gb10; have GG10 := aS HG10; clear gb10 gl10 HG10; have HMgo10 := aS (show ((P0_0_ go10 ∨ P0_1_ go10) ∨ w.heap.size ≤ go10) from (HO0_0.out.1 _ rfl).1); obtain ⟨hx10_0, hf10_0⟩ := Kd.R_celln 0 HO0_0.out ((rd t109 (ji5)) : Int) p10 q10; replace p10 := eq_true p10; replace q10 := eq_true q10; have HP20 := Kd.R_putn HO0_0.out ((rd t109 (ji5)) : Int) (l0_1.length : Int); rw [← Ny113.out] at HP20; have HQ20 := aS HP20; clear HP20; refine start_ (n := 17) (S := fun w' => w'.cell? ⟨g, 0, none⟩ = some (.slice (some ⟨go10, 0, none⟩) l0_0.length co13) ∧ w'.cell? ⟨g, 1, none⟩ = some (.slice Ao14 l0_1.length co14) ∧ w'.cell? (ad112.add ((ji5)).toNat) = some (.int .i64 (rd t109 (ji5)))) (ds := [16]) (.replicate 17 false) (by kernel_rfl) rfl rfl ⟨(blk_cell BK108.out 0).trans rfl, (blk_cell BK108.out 1).trans rfl, hx112_0⟩ (fun hHeld => ?_); refine with_tabW impl_Dict_add.tab1 impl_Dict_add.bits1 (fun HT_ HW_ => ?_); generalize w17.drew = w18 at HO0_0 HO0_1 HO111 BK108 HK HB GG10 HQ20 hf10_0 hx10_0 hx112_0 hHeld ⊢; refine pN 0 12 ?_; refine pN 1 13 ?_; refine pN 2 14 ?_; refine pN 4 16 ?_; refine pN 5 17 ?_; refine pN 6 18 ?_; refine pN 7 19 ?_; refine pN 8 20 ?_; refine pN 10 22 ?_; refine pN 11 23 ?_; refine pN 12 24 ?_; refine tN 3 15 ?_; refine tN 9 21 ?_; refine tN 13 25 ?_; refine pN 14 26 ?_; refine pN 15 27 ?_; refine last_ (i := 16) (N := none) MA_17_1ffff rfl rfl (one_of HT_.out (by kernel_rfl)) (by decide) (fun K hK => ?_); refine skip_ (w1 := ?_) (by rfl) rfl ?_ ?_
   rotate_left
   · go_simp
     rfl
   refine hK.out _ _ ?_; clear hK K; refine dN ?_; have n0_ : Aside0 (Kd.R (Kd.int .i64) 3 (w18.setCell ⟨go10, ((rd t109 (ji5)) : Int).toNat, none⟩ (.int .i64 (l0_1.length : Int))) w0.heap.size (fun k_ => ((P0_0_ k_ ∨ P0_1_ k_) ∨ w.heap.size ≤ k_) ∧ some k_ ≠ (.slice (some ad112) t109.length co19 : Value).ownBlock) (.slice (some ⟨go10, 0, none⟩) l0_0.length co13) y113) := ⟨tR HQ20.out⟩; have n1_ : Aside0 (Kd.R k56 56 (w18.setCell ⟨go10, ((rd t109 (ji5)) : Int).toNat, none⟩ (.int .i64 (l0_1.length : Int))) w0.heap.size (fun k_ => ((P0_0_ k_ ∨ P0_1_ k_) ∨ w.heap.size ≤ k_)) (.slice Ao14 l0_1.length co14) l0_1) := ⟨by (with_reducible repeat (first | apply Kd.R_alloc | apply Kd.R_drewN | apply Kd.R_drew)); exact Kd.R_mono (Kd.R_far (p := ⟨go10, ((rd t109 (ji5)) : Int).toNat, none⟩) (Kd.R_types HO0_1.out GG10.out (by decide)) (fun _ hk => hk.2) (.int .i64 (l0_1.length : Int))) (fun _ hk => hk.1)⟩; have n2_ : Aside0 (Kd.R (Kd.int .i64) 3 (w18.setCell ⟨go10, ((rd t109 (ji5)) : Int).toNat, none⟩ (.int .i64 (l0_1.length : Int))) w0.heap.size (fun k_ => ((P0_0_ k_ ∨ P0_1_ k_) ∨ w.heap.size ≤ k_) ∧ some k_ ≠ (.slice (some ⟨go10, 0, none⟩) l0_0.length co13 : Value).ownBlock) (.slice (some ad112) t109.length co19) t109) := ⟨by (with_reducible repeat (first | apply Kd.R_alloc | apply Kd.R_drewN | apply Kd.R_drew)); exact Kd.R_mono (Kd.R_far (p := ⟨go10, ((rd t109 (ji5)) : Int).toNat, none⟩) (Kd.R_mono HO111.out (fun k_ hk => (⟨hk, fun e_ => hk.2 (by rw [e_]; rfl)⟩ : _ ∧ k_ ≠ go10))) (fun _ hk => hk.2) (.int .i64 (l0_1.length : Int))) (fun _ hk => ⟨hk.1.1.1, hk.1.2⟩)⟩; have n3_ : Aside0 ((w18.setCell ⟨go10, ((rd t109 (ji5)) : Int).toNat, none⟩ (.int .i64 (l0_1.length : Int))).heap[g]? = some (.cells #[.slice (some ⟨go10, 0, none⟩) l0_0.length co13, .slice Ao14 l0_1.length co14] 26 (0, 0))) := ⟨by (with_reducible repeat (first | refine blk_drewN ?_ _ | refine blk_drew ?_ | refine blk_alloc ?_ _)); refine blk_far ?_ (by have h_ := Kd.R_ne HO0_0.out BK108.out (by decide); intro e_; exact h_ (by rw [e_]; rfl)) _; (with_reducible repeat (first | refine blk_drewN ?_ _ | refine blk_drew ?_ | refine blk_alloc ?_ _)); exact BK108.out⟩; have n4_ : Aside0 (Kept w (w18.setCell ⟨go10, ((rd t109 (ji5)) : Int).toNat, none⟩ (.int .i64 (l0_1.length : Int))) (fun k_ => (P0_0_ k_ ∨ P0_1_ k_) ∨ k_ = g)) := ⟨by repeat (first | (with_reducible first | exact HK.out | apply Kept.alloc | apply Kept.drewN | apply Kept.drew | refine Kept.setCell ?_ (HMgo10.out.imp .inl id) _ | refine Kept.setCell ?_ (.inl (.inr rfl)) _) | exact HK.out)⟩; have n5_ : Aside0 (Below w0.heap.size w0 (w18.setCell ⟨go10, ((rd t109 (ji5)) : Int).toNat, none⟩ (.int .i64 (l0_1.length : Int)))) := ⟨by repeat (first | (with_reducible first | exact HB.out | apply below_alloc | apply pw_below_drewN | apply below_drew1 | refine below_set ?_ GB10.out | refine below_set ?_ GE108.out) | exact HB.out)⟩; clear HO0_0 HO0_1 HO111 BK108 HK HB; generalize (w18.setCell ⟨go10, ((rd t109 (ji5)) : Int).toNat, none⟩ (.int .i64 (l0_1.length : Int))) = w21 at n0_ n1_ n2_ n3_ n4_ n5_ ⊢; have HO0_0 := n0_; have HO0_1 := n1_; have HO111 := n2_; have BK108 := n3_; have HK := n4_; have HB := n5_; clear n0_ n1_ n2_ n3_ n4_ n5_
   try go_wp2
   have n0_ := aS (Kd.R_drew HO0_0.out); have n1_ := aS (Kd.R_drew HO0_1.out); have n2_ := aS (Kd.R_drew HO111.out); have n3_ := aS (blk_drew BK108.out); have n4_ := aS (Kept.drew HK.out); have n5_ := aS (below_drew1 HB.out); clear HO0_0; clear HO0_1; clear HO111; clear BK108; clear HK; clear HB; have HO0_0 := n0_; have HO0_1 := n1_; have HO111 := n2_; have BK108 := n3_; have HK := n4_; have HB := n5_; clear n0_ n1_ n2_ n3_ n4_ n5_; refine start_ (n := 15) (S := fun w' => w'.cell? ⟨g, 0, none⟩ = some (.slice (some ⟨go10, 0, none⟩) l0_0.length co13) ∧ w'.cell? ⟨g, 1, none⟩ = some (.slice Ao14 l0_1.length co14)) (ds := [14]) (.replicate 15 false) (by kernel_rfl) rfl rfl ⟨(blk_cell BK108.out 0).trans rfl, (blk_cell BK108.out 1).trans rfl⟩ (fun hHeld => ?_); refine with_tabW impl_Dict_add.tab2 impl_Dict_add.bits2 (fun HT_ HW_ => ?_); generalize w21.drew = w22 at HO0_0 HO0_1 HO111 BK108 HK HB hHeld ⊢; refine pN 0 28 ?_; refine pN 1 29 ?_; refine pN 2 30 ?_; refine pN 3 31 ?_; refine pN 5 33 ?_; refine pN 6 34 ?_; refine pN 8 36 ?_; refine tN 4 32 ?_; refine oN 7 35 (fun K hK => ?_); refine goes_ Try.func43 (by kernel_rfl) rfl #[.string a1] (by rfl) rfl rfl tA ?_
   with_reducible refine (impl_DictHash.calls k a1 t114 _ A11.out).mono ?_
   rintro e w' ⟨rfl, ⟨nd, rfl⟩⟩; refine ⟨_, rfl, ?_⟩; refine hK.out _ _ ⟨(blk_cell BK108.out 0).trans rfl, (blk_cell BK108.out 1).trans rfl⟩ (fun hHeld => ?_); clear hK K; refine norm_ (a' := ?_) ?_ ?_
   rotate_left
   · show Act.put _ (some 35) _ = _
     simp only [Act.put, List.setIfInBounds_toArray, List.set_cons_zero, List.set_cons_succ, i64_w, i32_w]
     rfl
   refine pN 9 37 ?_; refine oN 10 38 (fun K hK => ?_); refine value_ (w1 := ?_) (v := ?_) (by rfl) rfl ?_ ?_
   rotate_left 2
   · go_simp
     constructor
     · rfl
     rfl
   refine hK.out _ _ ⟨(blk_cell (blk_alloc BK108.out _) 0).trans rfl, (blk_cell (blk_alloc BK108.out _) 1).trans rfl⟩ (fun hHeld => ?_); clear hK K; refine norm_ (a' := ?_) ?_ ?_
   rotate_left
   · show Act.put _ (some 38) _ = _
     simp only [Act.put, List.setIfInBounds_toArray, List.set_cons_zero, List.set_cons_succ, i64_w, i32_w]
     rfl
   refine oN 11 39 (fun K hK => ?_); refine Kd.R_append_step k56 (w0 := w0) w0.heap.size (by rfl) (.tmp 32) (.tmp 38) 24 56 (.agg #[(.string ⟨#[]⟩), (.int .i64 0), (.int .i64 0), (.bool false)]) 40 rfl Try.underlying24 info56 rfl (by decide) (by omega) (.slice Ao14 l0_1.length co14) l0_1 (⟨a1, t114, a2, true⟩ : S56) [.string a1, .int .i64 t114, .int .i64 a2, .bool true] (fun k_ => ((P0_0_ k_ ∨ P0_1_ k_) ∨ w.heap.size ≤ k_)) (fun _ => False) rfl rfl ?aP (fun _ hk => hk.elim) ?aF ?aO ?aB ?aS ?aL ?_
   (case aP => exact k56_mkM _ _ _ (⟨a1, t114, a2, true⟩ : S56))
   (case aB => exact tB)
   (case aF => exact (fun k_ hk => (.inr (Nat.le_trans (by first | exact HK.out.1 | exact (show Kept w _ (fun k_ => (P0_0_ k_ ∨ P0_1_ k_) ∨ k_ = g) from by repeat (first | (with_reducible first | exact HK.out | apply Kept.alloc | apply Kept.drewN | apply Kept.drew | refine Kept.setCell ?_ (.inl (.inr rfl)) _) | exact HK.out)).1) hk))))
   (case aO => exact (tR HO0_1.out))
   (case aS => exact (below_size tB))
   (case aL => have := LMc12.out; omega)
   intro v116 w23 ho hb hg hat; rw [← Ny115.out] at ho; have n0_ := aS (Kd.R_over' (tR HO0_0.out) (Kd.R_typed (tR HO0_1.out)) (by decide) hg); have n1_ := aS (blk_grown (g := g) (o := .cells #[.slice (some ⟨go10, 0, none⟩) l0_0.length co13, .slice Ao14 l0_1.length co14] 26 (0, 0)) (tK BK108.out) hg (Kd.R_ne HO0_1.out BK108.out (by decide))); have n2_ := aS (Kd.R_over' (tR HO111.out) (Kd.R_typed (tR HO0_1.out)) (by decide) hg); have n3_ := aS (hb); have n4_ := aS (Kept.of_grown (S := (fun k_ => (P0_0_ k_ ∨ P0_1_ k_) ∨ k_ = g)) hg (by repeat (first | (with_reducible first | exact HK.out | apply Kept.alloc | apply Kept.drewN | apply Kept.drew | refine Kept.setCell ?_ (.inl (.inr rfl)) _) | exact HK.out)) (fun k_ e_ => ((HO0_1.out.1 k_ e_).imp .inl id))); have n5_ := aS (ho); clear HO0_0; clear BK108; clear HO111; clear HB; clear HK; clear HO0_1; have HO0_0 := n0_; have BK108 := n1_; have HO111 := n2_; have HB := n3_; have HK := n4_; have HO117 := n5_; clear n0_ n1_ n2_ n3_ n4_ n5_; clear ho hb hg hat; obtain ⟨Ao24, co24, eo24⟩ := Kd.R_slice HO117.out
   (first | subst eo24 | (injection eo24 with f1_ f2_ f3_; have f4_ := f1_.symm; have f5_ := f3_.symm; clear f1_ f2_ f3_; subst f4_; subst f5_))
   refine hK.out _ _ ⟨(blk_cell BK108.out 0).trans rfl, (blk_cell BK108.out 1).trans rfl⟩ (fun hHeld => ?_); clear hK K; refine norm_ (a' := ?_) ?_ ?_
   rotate_left
   · show Act.put _ (some 39) _ = _
     simp only [Act.put, List.setIfInBounds_toArray, List.set_cons_zero, List.set_cons_succ, i64_w, i32_w]
     rfl
   refine pN 12 40 ?_; refine pN 13 41 ?_; refine last_ (i := 14) (N := none) MA_15_7fff rfl rfl (one_of HT_.out (by kernel_rfl)) (by decide) (fun K hK => ?_); have hs25 : w23.cell? ⟨g, 1, none⟩ = some (.slice Ao14 l0_1.length co14) := (blk_cell BK108.out 1).trans rfl; have hfs25 := bF BK108 1; refine skip_ (w1 := ?_) (by rfl) rfl ?_ ?_
   rotate_left
   · go_simp
     rfl
   refine hK.out _ _ ?_; clear hK K; refine dN ?_
   try go_wp2
   first | go_end0 | ((try simp only [Exit.inBlock, Exit.then]); refine bodyPost_ret (results_none rfl _ _ _) rfl ?_)
   have fin0 := Kd.R_mono (Kd.R_far (p := ⟨g, 1, none⟩) (Kd.R_types HO0_0.out BK108.out (by decide)) (fun _ hk => hk.2) (.slice Ao24 y115.length co24)) (fun _ hk => hk.1.1); have fin1 := Kd.R_mono (Kd.R_far (p := ⟨g, 1, none⟩) (Kd.R_types HO117.out BK108.out (by decide)) (fun _ hk => hk.2) (.slice Ao24 y115.length co24)) (fun _ hk => hk.1); exact ⟨_, rfl, tZ, fin0, fin1, tB, by repeat (first | (with_reducible first | exact HK.out | apply Kept.alloc | apply Kept.drewN | apply Kept.drew | refine Kept.setCell ?_ (.inl (.inr rfl)) _) | exact HK.out)⟩
 rw [if_neg c6] at H; exact nS H

end Go.Proofs.Ytihcollncjcpgaa.E
