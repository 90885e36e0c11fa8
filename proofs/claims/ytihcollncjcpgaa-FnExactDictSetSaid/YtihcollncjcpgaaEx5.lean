/- Contracts of the Go functions that the seat's laws reach, one after the other: the machine's call comes to what the plain Lean function beside it says; no conditions but those that each contract names. Laid by this session's program wip/pp.py, which drives the kit's printer. -/
import Derived.Test.YtihcollncjcpgaaEx0
namespace Go.Proofs.Ytihcollncjcpgaa.E
open Go.RowKit Go.Proofs.YtihcollncjcpgaaW.PrintWords Go.Proofs.YtihcollncjcpgaaW.PrintLast Go.Proofs.YtihcollncjcpgaaW.PrintMore
attribute [local go_sem] max2_int min2_int max_two min_two max_three min_three max_four min_four   -- for this text's walks alone
set_option linter.unusedVariables false
set_option linter.unusedSimpArgs false
abbrev M5_10_3ff : Array Bool := bN_ 10 1023
abbrev M5_10_67 : Array Bool := bN_ 10 103
abbrev M5_10_6f : Array Bool := bN_ 10 111
abbrev M5_10_76 : Array Bool := bN_ 10 118
abbrev M5_10_77 : Array Bool := bN_ 10 119
abbrev M5_10_7f : Array Bool := bN_ 10 127

/-! ### spec_copyDict: function 33 -/
def spec_copyDict.f (l0_0 : List Int) (l0_1 : List (S56)) : Option (List Int × (List (S56))) := (some (([] : List Int) : List Int)).bind fun y148 => (if y148.length + l0_0.length < 17592186044416 then ((some (([] : List (S56)) : List (S56))).bind fun y154 => (if y154.length + l0_1.length < 3518437208883 then (some ((y148 ++ l0_0), (y154 ++ l0_1))) else (none))) else (none))
def spec_copyDict.T1 : Bool × List (List Nat × List Nat) := (true, [([], []), ([], []), ([1], [1]), ([0, 2], [0, 2]), ([], []), ([], []), ([5], [5]), ([4, 6, 3], [4, 6]), ([3, 7], [3, 7]), ([8, 7, 0, 1, 2, 3, 4, 5, 6, 7, 8], [8])])
def spec_copyDict.B1 : List Nat := [0, 0, 2, 7, 0, 0, 32, 127, 255, 511]
theorem spec_copyDict.tab1 : rtab .any (opsOf Try.f33 1) = spec_copyDict.T1 := by kernel_rfl
theorem spec_copyDict.bits1 : waitsOk spec_copyDict.T1.2 spec_copyDict.B1 = true := by kernel_rfl
set_option maxHeartbeats 8000000 in
set_option maxRecDepth 100000 in
theorem spec_copyDict.calls (A0_0 : Option Addr) (c0_0 : Nat) (l0_0 : List Int) (A0_1 : Option Addr) (c0_1 : Nat) (l0_1 : List (S56)) (r1 : List Int) (r2 : List (S56)) (w : World) (hr0_0 : Kd.C (Kd.int .i64) w A0_0 l0_0.length l0_0) (hc0_0 : l0_0.length ≤ c0_0) (hr0_1 : Kd.C k56 w A0_1 l0_1.length l0_1) (hc0_1 : l0_1.length ≤ c0_1) (h : spec_copyDict.f l0_0 l0_1 = some (r1, r2)) :
 Calls Try.prog 33 #[.agg #[.slice A0_0 l0_0.length c0_0, .slice A0_1 l0_1.length c0_1]] w fun e w' => ∃ v0_ v1_ : Value, e = .returned (.agg #[v0_, v1_]) ∧ Kd.R (Kd.int .i64) 3 w' w.heap.size (fun _ => True) v0_ r1 ∧ Kd.R k56 56 w' w.heap.size (fun _ => True) v1_ r2 ∧ Below w.heap.size w w' := by
 have hu26 := Try.underlying26; have HR0_0 := aS hr0_0; have HC0_0 := aS hc0_0; clear hr0_0 hc0_0; have HR0_1 := aS hr0_1; have HC0_1 := aS hc0_1; clear hr0_1 hc0_1; have HB := aS (Below.refl w.heap.size w); have H : ((some (([] : List Int) : List Int)).bind fun y148 => (if y148.length + l0_0.length < 17592186044416 then ((some (([] : List (S56)) : List (S56))).bind fun y154 => (if y154.length + l0_1.length < 3518437208883 then (some ((y148 ++ l0_0), (y154 ++ l0_1))) else (none))) else (none))) = some (r1, r2) := h; clear h; obtain ⟨y148, hy148⟩ : ∃ y_ : List Int, y_ = (([] : List Int)) := ⟨_, rfl⟩
 replace H : (if y148.length + l0_0.length < 17592186044416 then ((some (([] : List (S56)) : List (S56))).bind fun y154 => (if y154.length + l0_1.length < 3518437208883 then (some ((y148 ++ l0_0), (y154 ++ l0_1))) else (none))) else (none)) = some (r1, r2) := by first | (rw [hy148]; with_reducible exact H) | (have H2_ := (Option.bind_some _ _).symm.trans H; rw [hy148]; with_reducible exact H2_) | (have H2_ := (Option.bind_some _ _).symm.trans H; with_reducible exact H2_) | with_reducible exact H | (rw [hy148]; exact H) | exact H
 have Ny148 := aS hy148; clear hy148; by_cases c2 : y148.length + l0_0.length < 17592186044416
 · rw [if_pos c2] at H; have LMc2 := aS c2; clear c2; obtain ⟨y151, hy151⟩ : ∃ y_ : List Int, y_ = (y148 ++ l0_0) := ⟨_, rfl⟩
   replace H : ((some (([] : List (S56)) : List (S56))).bind fun y154 => (if y154.length + l0_1.length < 3518437208883 then (some (y151, (y154 ++ l0_1))) else (none))) = some (r1, r2) := by first | (rw [hy151]; with_reducible exact H) | (have H2_ := (Option.bind_some _ _).symm.trans H; rw [hy151]; with_reducible exact H2_) | (have H2_ := (Option.bind_some _ _).symm.trans H; with_reducible exact H2_) | with_reducible exact H | (rw [hy151]; exact H) | exact H
   have Ny151 := aS hy151; clear hy151; obtain ⟨y154, hy154⟩ : ∃ y_ : List (S56), y_ = (([] : List (S56))) := ⟨_, rfl⟩
   replace H : (if y154.length + l0_1.length < 3518437208883 then (some (y151, (y154 ++ l0_1))) else (none)) = some (r1, r2) := by first | (rw [hy154]; with_reducible exact H) | (have H2_ := (Option.bind_some _ _).symm.trans H; rw [hy154]; with_reducible exact H2_) | (have H2_ := (Option.bind_some _ _).symm.trans H; with_reducible exact H2_) | with_reducible exact H | (rw [hy154]; exact H) | exact H
   have Ny154 := aS hy154; clear hy154; by_cases c3 : y154.length + l0_1.length < 3518437208883
   case neg =>
    rw [if_neg c3] at H; exact nS H
   rw [if_pos c3] at H; have LMc3 := aS c3; clear c3; obtain ⟨y157, hy157⟩ : ∃ y_ : List (S56), y_ = (y154 ++ l0_1) := ⟨_, rfl⟩
   replace H : (some (y151, y157)) = some (r1, r2) := by first | (rw [hy157]; with_reducible exact H) | (have H2_ := (Option.bind_some _ _).symm.trans H; rw [hy157]; with_reducible exact H2_) | (have H2_ := (Option.bind_some _ _).symm.trans H; with_reducible exact H2_) | with_reducible exact H | (rw [hy157]; exact H) | exact H
   have Ny157 := aS hy157; clear hy157; simp only [Option.some.injEq, Prod.mk.injEq] at H; obtain ⟨rfl, rfl⟩ := H
   go_enter Try.func33, Try.ntmps33
   try go_wp2_with (first | ((with_reducible refine gD 1 ?_); refine boxS (N := 1) (cs := #[.slice A0_0 l0_0.length c0_0, .slice A0_1 l0_1.length c0_1]) (t := 26) ?_; intro gb146 hg w4 hbox hb; have BK146 := aS (hbox); have GW146 := gW (w := w) hg tB; have GE146 := GW146; replace HB := aS (below_step tB hb); clear hb hbox hg) | ((with_reducible refine gD 2 ?_); refine boxS (N := 2) (cs := #[.slice none 0 0, .slice none 0 0]) (t := 26) ?_; intro gb147 hg w5 hbox hb; have BK147 := aS (hbox); have GW147 := gW (w := w) hg tB; have GE147 := GW147; have NB146_147 := nL hg BK146; have NB147_146 := nR hg BK146; replace BK146 := bB BK146 hb; replace HB := aS (below_step tB hb); clear hb hbox hg))
   have n0_ := aS (blk_drew BK146.out); have n1_ := aS (blk_drew BK147.out); have n2_ := aS (below_drew1 HB.out); clear BK146; clear BK147; clear HB; have BK146 := n0_; have BK147 := n1_; have HB := n2_; clear n0_ n1_ n2_; refine start_ (n := 10) (S := fun w' => w'.cell? ⟨gb146, 0, none⟩ = some (.slice A0_0 l0_0.length c0_0) ∧ w'.cell? ⟨gb146, 1, none⟩ = some (.slice A0_1 l0_1.length c0_1)) (ds := []) (.replicate 10 false) (by kernel_rfl) rfl rfl ⟨(blk_cell BK146.out 0).trans rfl, (blk_cell BK146.out 1).trans rfl⟩ (fun hHeld => ?_); refine with_tabW spec_copyDict.tab1 spec_copyDict.bits1 (fun HT_ HW_ => ?_); generalize w5.drew = w6 at BK146 BK147 HB hHeld ⊢; refine pN 1 4 ?_; refine pN 5 8 ?_; refine tN 2 5 ?_; refine tN 6 9 ?_; refine join_ (σ := Value × Value × Value) 3 M5_10_7f (fun s_ => [(3, s_.1), (6, s_.2.1), (7, s_.2.2)]) (fun s_ w' => (w'.cell? ⟨gb146, 0, none⟩ = some (.slice A0_0 l0_0.length c0_0) ∧ w'.cell? ⟨gb146, 1, none⟩ = some (.slice A0_1 l0_1.length c0_1)) ∧ (Kd.R (Kd.int .i64) 3 w' w.heap.size (fun _ => True) s_.2.1 y151) ∧ (Kd.R k56 56 w' w.heap.size (fun _ => True) s_.2.2 y154) ∧ (w'.heap[gb146]? = some (.cells #[.slice A0_0 l0_0.length c0_0, .slice A0_1 l0_1.length c0_1] 26 (0, 0))) ∧ (w'.heap[gb147]? = some (.cells #[.slice none 0 0, .slice none 0 0] 26 (0, 0))) ∧ (Below w.heap.size w w')) ?_ ?_
   rotate_left
   · intro hCont; refine two_ (i := 0) (j := 4) (Ni := some 3) (Nj := some 7) M5_10_67 M5_10_76 rfl rfl rfl rfl (two_of HT_.out (by kernel_rfl)) (by decide) (by decide) (fun K hK => ?_) (fun K hK => ?_)
     · skip
       refine Kd.R_lit_step (Kd.int .i64) _ 3 ?hg (N := 3) ?hd (xs := ([] : List Int)) (inner := []) (ok := fun _ => True) (okp := fun _ => True) ?hr ?hp (fun _ hk => hk) trivial (Below.refl _ _) (Nat.le_refl _) (by simp) ?_; (case hd => rfl); (case hg => rfl); (case hr => first | (go_simp; done) | (go_simp; rfl)); (case hp => exact (Reps.none _ _)); intro v149 w7 ho8 hb hg_ hnew_; clear hg_ hnew_
       (first | rw [← Ny148.out] at ho8 | (simp only [Int.reduceToNat] at ho8; rw [← Ny148.out] at ho8))
       have n0_ := aS (Kd.R_lower ho8 (below_size tB)); have n1_ := bB BK146 hb; have n2_ := bB BK147 hb; have n3_ := aS (below_step tB hb); clear BK146; clear BK147; clear HB; have HO150 := n0_; have BK146 := n1_; have BK147 := n2_; have HB := n3_; clear n0_ n1_ n2_ n3_; clear hb ho8; refine hK.out _ _ ⟨(blk_cell BK146.out 0).trans rfl, (blk_cell BK146.out 1).trans rfl⟩ (fun hHeld => ?_); clear hK K; refine norm_ (a' := ?_) ?_ ?_
       rotate_left
       · show Act.put _ (some 3) _ = _
         simp only [Act.put, List.setIfInBounds_toArray, List.set_cons_zero, List.set_cons_succ, i64_w, i32_w]
         rfl
       refine two_ (i := 3) (j := 4) (Ni := some 6) (Nj := some 7) M5_10_6f M5_10_77 rfl rfl rfl rfl (two_of HT_.out (by kernel_rfl)) (by decide) (by decide) (fun K hK => ?_) (fun K hK => ?_)
       · skip
         refine Kd.R_append_rows_step (Kd.int .i64) (w0 := w) w.heap.size (by rfl) (.tmp 3) (.tmp 5) 23 3 (.int .i64 0) 8 rfl Try.underlying23 info3 rfl (by decide) (by omega) v149 y148 l0_0 _ _ _ (fun _ => True) (fun _ => False) rfl rfl ?aO ?aR (fun _ _ h => h) (fun _ h => h.elim) ?aF ?aB ?aS ?aL ?_
         (case aR => exact tC (Kd.C_below HR0_0.out HB.out))
         (case aB => exact tB)
         (case aF => exact (fun _ _ => trivial))
         (case aO => exact (tR HO150.out))
         (case aS => exact (below_size tB))
         (case aL => have := LMc2.out; omega)
         intro v152 w9 ho hb hg hat; rw [← Ny151.out] at ho; have n0_ := aS (blk_grown (g := gb146) (o := .cells #[.slice A0_0 l0_0.length c0_0, .slice A0_1 l0_1.length c0_1] 26 (0, 0)) (tK BK146.out) hg (Kd.R_ne HO150.out BK146.out (by decide))); have n1_ := aS (blk_grown (g := gb147) (o := .cells #[.slice none 0 0, .slice none 0 0] 26 (0, 0)) (tK BK147.out) hg (Kd.R_ne HO150.out BK147.out (by decide))); have n2_ := aS (hb); have n3_ := aS (ho); clear BK146; clear BK147; clear HB; clear HO150; have BK146 := n0_; have BK147 := n1_; have HB := n2_; have HO153 := n3_; clear n0_ n1_ n2_ n3_; clear ho hb hg hat; refine hK.out _ _ ⟨(blk_cell BK146.out 0).trans rfl, (blk_cell BK146.out 1).trans rfl⟩ (fun hHeld => ?_); clear hK K; refine norm_ (a' := ?_) ?_ ?_
         rotate_left
         · show Act.put _ (some 6) _ = _
           simp only [Act.put, List.setIfInBounds_toArray, List.set_cons_zero, List.set_cons_succ, i64_w, i32_w]
           rfl
         refine oN 4 7 (fun K hK => ?_); refine Kd.R_lit_step k56 _ 56 ?hg (N := 7) ?hd (xs := ([] : List (S56))) (inner := []) (ok := fun _ => True) (okp := fun _ => True) ?hr ?hp (fun _ hk => hk) trivial (Below.refl _ _) (Nat.le_refl _) (by simp) ?_; (case hd => rfl); (case hg => rfl); (case hr => first | (go_simp; done) | (go_simp; rfl)); (case hp => exact (Reps.none _ _)); intro v155 w10 ho11 hb hg_ hnew_; clear hg_ hnew_
         (first | rw [← Ny154.out] at ho11 | (simp only [Int.reduceToNat] at ho11; rw [← Ny154.out] at ho11))
         have n0_ := rB HO153 hb; have n1_ := aS (Kd.R_lower ho11 (below_size tB)); have n2_ := bB BK146 hb; have n3_ := bB BK147 hb; have n4_ := aS (below_step tB hb); clear HO153; clear BK146; clear BK147; clear HB; have HO153 := n0_; have HO156 := n1_; have BK146 := n2_; have BK147 := n3_; have HB := n4_; clear n0_ n1_ n2_ n3_ n4_; clear hb ho11; refine hK.out _ _ ⟨(blk_cell BK146.out 0).trans rfl, (blk_cell BK146.out 1).trans rfl⟩ (fun hHeld => ?_); clear hK K; refine norm_ (a' := ?_) ?_ ?_
         rotate_left
         · show Act.put _ (some 7) _ = _
           simp only [Act.put, List.setIfInBounds_toArray, List.set_cons_zero, List.set_cons_succ, i64_w, i32_w]
           rfl
         exact norm_ (by simp only [putAll, Act.put, List.setIfInBounds_toArray, List.set_cons_zero, List.set_cons_succ]) (hCont (v149, v152, v155) _ ⟨hHeld, (tR HO153.out), (tR HO156.out), (tK BK146.out), (tK BK147.out), tB⟩)
       skip
       refine Kd.R_lit_step k56 _ 56 ?hg (N := 7) ?hd (xs := ([] : List (S56))) (inner := []) (ok := fun _ => True) (okp := fun _ => True) ?hr ?hp (fun _ hk => hk) trivial (Below.refl _ _) (Nat.le_refl _) (by simp) ?_; (case hd => rfl); (case hg => rfl); (case hr => first | (go_simp; done) | (go_simp; rfl)); (case hp => exact (Reps.none _ _)); intro v155 w9 ho10 hb hg_ hnew_; clear hg_ hnew_
       (first | rw [← Ny154.out] at ho10 | (simp only [Int.reduceToNat] at ho10; rw [← Ny154.out] at ho10))
       have n0_ := rB HO150 hb; have n1_ := aS (Kd.R_lower ho10 (below_size tB)); have n2_ := bB BK146 hb; have n3_ := bB BK147 hb; have n4_ := aS (below_step tB hb); clear HO150; clear BK146; clear BK147; clear HB; have HO150 := n0_; have HO156 := n1_; have BK146 := n2_; have BK147 := n3_; have HB := n4_; clear n0_ n1_ n2_ n3_ n4_; clear hb ho10; refine hK.out _ _ ⟨(blk_cell BK146.out 0).trans rfl, (blk_cell BK146.out 1).trans rfl⟩ (fun hHeld => ?_); clear hK K; refine norm_ (a' := ?_) ?_ ?_
       rotate_left
       · show Act.put _ (some 7) _ = _
         simp only [Act.put, List.setIfInBounds_toArray, List.set_cons_zero, List.set_cons_succ, i64_w, i32_w]
         rfl
       refine oN 3 6 (fun K hK => ?_); refine Kd.R_append_rows_step (Kd.int .i64) (w0 := w) w.heap.size (by rfl) (.tmp 3) (.tmp 5) 23 3 (.int .i64 0) 8 rfl Try.underlying23 info3 rfl (by decide) (by omega) v149 y148 l0_0 _ _ _ (fun _ => True) (fun _ => False) rfl rfl ?aO ?aR (fun _ _ h => h) (fun _ h => h.elim) ?aF ?aB ?aS ?aL ?_
       (case aR => exact tC (Kd.C_below HR0_0.out HB.out))
       (case aB => exact tB)
       (case aF => exact (fun _ _ => trivial))
       (case aO => exact (tR HO150.out))
       (case aS => exact (below_size tB))
       (case aL => have := LMc2.out; omega)
       intro v152 w11 ho hb hg hat; rw [← Ny151.out] at ho; have n0_ := aS (blk_grown (g := gb146) (o := .cells #[.slice A0_0 l0_0.length c0_0, .slice A0_1 l0_1.length c0_1] 26 (0, 0)) (tK BK146.out) hg (Kd.R_ne HO150.out BK146.out (by decide))); have n1_ := aS (blk_grown (g := gb147) (o := .cells #[.slice none 0 0, .slice none 0 0] 26 (0, 0)) (tK BK147.out) hg (Kd.R_ne HO150.out BK147.out (by decide))); have n2_ := aS (Kd.R_over' (tR HO156.out) (Kd.R_typed (tR HO150.out)) (by decide) hg); have n3_ := aS (hb); have n4_ := aS (ho); clear BK146; clear BK147; clear HO156; clear HB; clear HO150; have BK146 := n0_; have BK147 := n1_; have HO156 := n2_; have HB := n3_; have HO153 := n4_; clear n0_ n1_ n2_ n3_ n4_; clear ho hb hg hat; refine hK.out _ _ ⟨(blk_cell BK146.out 0).trans rfl, (blk_cell BK146.out 1).trans rfl⟩ (fun hHeld => ?_); clear hK K; refine norm_ (a' := ?_) ?_ ?_
       rotate_left
       · show Act.put _ (some 6) _ = _
         simp only [Act.put, List.setIfInBounds_toArray, List.set_cons_zero, List.set_cons_succ, i64_w, i32_w]
         rfl
       exact norm_ (by simp only [putAll, Act.put, List.setIfInBounds_toArray, List.set_cons_zero, List.set_cons_succ]) (hCont (v149, v152, v155) _ ⟨hHeld, (tR HO153.out), (tR HO156.out), (tK BK146.out), (tK BK147.out), tB⟩)
     skip
     refine Kd.R_lit_step k56 _ 56 ?hg (N := 7) ?hd (xs := ([] : List (S56))) (inner := []) (ok := fun _ => True) (okp := fun _ => True) ?hr ?hp (fun _ hk => hk) trivial (Below.refl _ _) (Nat.le_refl _) (by simp) ?_; (case hd => rfl); (case hg => rfl); (case hr => first | (go_simp; done) | (go_simp; rfl)); (case hp => exact (Reps.none _ _)); intro v155 w7 ho8 hb hg_ hnew_; clear hg_ hnew_
     (first | rw [← Ny154.out] at ho8 | (simp only [Int.reduceToNat] at ho8; rw [← Ny154.out] at ho8))
     have n0_ := aS (Kd.R_lower ho8 (below_size tB)); have n1_ := bB BK146 hb; have n2_ := bB BK147 hb; have n3_ := aS (below_step tB hb); clear BK146; clear BK147; clear HB; have HO156 := n0_; have BK146 := n1_; have BK147 := n2_; have HB := n3_; clear n0_ n1_ n2_ n3_; clear hb ho8; refine hK.out _ _ ⟨(blk_cell BK146.out 0).trans rfl, (blk_cell BK146.out 1).trans rfl⟩ (fun hHeld => ?_); clear hK K; refine norm_ (a' := ?_) ?_ ?_
     rotate_left
     · show Act.put _ (some 7) _ = _
       simp only [Act.put, List.setIfInBounds_toArray, List.set_cons_zero, List.set_cons_succ, i64_w, i32_w]
       rfl
     refine oN 0 3 (fun K hK => ?_); refine Kd.R_lit_step (Kd.int .i64) _ 3 ?hg (N := 3) ?hd (xs := ([] : List Int)) (inner := []) (ok := fun _ => True) (okp := fun _ => True) ?hr ?hp (fun _ hk => hk) trivial (Below.refl _ _) (Nat.le_refl _) (by simp) ?_; (case hd => rfl); (case hg => rfl); (case hr => first | (go_simp; done) | (go_simp; rfl)); (case hp => exact (Reps.none _ _)); intro v149 w9 ho10 hb hg_ hnew_; clear hg_ hnew_
     (first | rw [← Ny148.out] at ho10 | (simp only [Int.reduceToNat] at ho10; rw [← Ny148.out] at ho10))
     have n0_ := rB HO156 hb; have n1_ := aS (Kd.R_lower ho10 (below_size tB)); have n2_ := bB BK146 hb; have n3_ := bB BK147 hb; have n4_ := aS (below_step tB hb); clear HO156; clear BK146; clear BK147; clear HB; have HO156 := n0_; have HO150 := n1_; have BK146 := n2_; have BK147 := n3_; have HB := n4_; clear n0_ n1_ n2_ n3_ n4_; clear hb ho10; refine hK.out _ _ ⟨(blk_cell BK146.out 0).trans rfl, (blk_cell BK146.out 1).trans rfl⟩ (fun hHeld => ?_); clear hK K; refine norm_ (a' := ?_) ?_ ?_
     rotate_left
     · show Act.put _ (some 3) _ = _
       simp only [Act.put, List.setIfInBounds_toArray, List.set_cons_zero, List.set_cons_succ, i64_w, i32_w]
       rfl
     refine oN 3 6 (fun K hK => ?_); refine Kd.R_append_rows_step (Kd.int .i64) (w0 := w) w.heap.size (by rfl) (.tmp 3) (.tmp 5) 23 3 (.int .i64 0) 8 rfl Try.underlying23 info3 rfl (by decide) (by omega) v149 y148 l0_0 _ _ _ (fun _ => True) (fun _ => False) rfl rfl ?aO ?aR (fun _ _ h => h) (fun _ h => h.elim) ?aF ?aB ?aS ?aL ?_
     (case aR => exact tC (Kd.C_below HR0_0.out HB.out))
     (case aB => exact tB)
     (case aF => exact (fun _ _ => trivial))
     (case aO => exact (tR HO150.out))
     (case aS => exact (below_size tB))
     (case aL => have := LMc2.out; omega)
     intro v152 w11 ho hb hg hat; rw [← Ny151.out] at ho; have n0_ := aS (blk_grown (g := gb146) (o := .cells #[.slice A0_0 l0_0.length c0_0, .slice A0_1 l0_1.length c0_1] 26 (0, 0)) (tK BK146.out) hg (Kd.R_ne HO150.out BK146.out (by decide))); have n1_ := aS (blk_grown (g := gb147) (o := .cells #[.slice none 0 0, .slice none 0 0] 26 (0, 0)) (tK BK147.out) hg (Kd.R_ne HO150.out BK147.out (by decide))); have n2_ := aS (Kd.R_over' (tR HO156.out) (Kd.R_typed (tR HO150.out)) (by decide) hg); have n3_ := aS (hb); have n4_ := aS (ho); clear BK146; clear BK147; clear HO156; clear HB; clear HO150; have BK146 := n0_; have BK147 := n1_; have HO156 := n2_; have HB := n3_; have HO153 := n4_; clear n0_ n1_ n2_ n3_ n4_; clear ho hb hg hat; refine hK.out _ _ ⟨(blk_cell BK146.out 0).trans rfl, (blk_cell BK146.out 1).trans rfl⟩ (fun hHeld => ?_); clear hK K; refine norm_ (a' := ?_) ?_ ?_
     rotate_left
     · show Act.put _ (some 6) _ = _
       simp only [Act.put, List.setIfInBounds_toArray, List.set_cons_zero, List.set_cons_succ, i64_w, i32_w]
       rfl
     exact norm_ (by simp only [putAll, Act.put, List.setIfInBounds_toArray, List.set_cons_zero, List.set_cons_succ]) (hCont (v149, v152, v155) _ ⟨hHeld, (tR HO153.out), (tR HO156.out), (tK BK146.out), (tK BK147.out), tB⟩)
   rintro ⟨v149, v152, v155⟩ w12 ⟨hS_, h0_, h1_, h2_, h3_, h4_⟩; have n0_ : Aside0 (Kd.R (Kd.int .i64) 3 w12 w.heap.size (fun _ => True) v152 y151) := ⟨h0_⟩; have n1_ : Aside0 (Kd.R k56 56 w12 w.heap.size (fun _ => True) v155 y154) := ⟨h1_⟩; have n2_ : Aside0 (w12.heap[gb146]? = some (.cells #[.slice A0_0 l0_0.length c0_0, .slice A0_1 l0_1.length c0_1] 26 (0, 0))) := ⟨h2_⟩; have n3_ : Aside0 (w12.heap[gb147]? = some (.cells #[.slice none 0 0, .slice none 0 0] 26 (0, 0))) := ⟨h3_⟩; have n4_ : Aside0 (Below w.heap.size w w12) := ⟨h4_⟩; clear BK146; clear BK147; clear HB; clear h0_ h1_ h2_ h3_ h4_; have HO153 := n0_; have HO156 := n1_; have BK146 := n2_; have BK147 := n3_; have HB := n4_; clear n0_ n1_ n2_ n3_ n4_; have hHeld : w12.cell? ⟨gb146, 0, none⟩ = some (.slice A0_0 l0_0.length c0_0) ∧ w12.cell? ⟨gb146, 1, none⟩ = some (.slice A0_1 l0_1.length c0_1) := hS_; refine norm_ (a' := ?_) ?_ ?_
   rotate_left
   · simp only [putAll, Act.put, List.setIfInBounds_toArray, List.set_cons_zero, List.set_cons_succ]
     rfl
   refine oN 7 10 (fun K hK => ?_); refine Kd.R_append_rows_step k56 (w0 := w) w.heap.size (by rfl) (.tmp 7) (.tmp 9) 24 56 (.agg #[(.string ⟨#[]⟩), (.int .i64 0), (.int .i64 0), (.bool false)]) 40 rfl Try.underlying24 info56 rfl (by decide) (by omega) v155 y154 l0_1 _ _ _ (fun _ => True) (fun _ => False) rfl rfl ?aO ?aR (fun _ _ h => h) (fun _ h => h.elim) ?aF ?aB ?aS ?aL ?_
   (case aR => exact tC (Kd.C_below HR0_1.out HB.out))
   (case aB => exact tB)
   (case aF => exact (fun _ _ => trivial))
   (case aO => exact (tR HO156.out))
   (case aS => exact (below_size tB))
   (case aL => have := LMc3.out; omega)
   intro v158 w13 ho hb hg hat; rw [← Ny157.out] at ho; have n0_ := aS (blk_grown (g := gb146) (o := .cells #[.slice A0_0 l0_0.length c0_0, .slice A0_1 l0_1.length c0_1] 26 (0, 0)) (tK BK146.out) hg (Kd.R_ne HO156.out BK146.out (by decide))); have n1_ := aS (blk_grown (g := gb147) (o := .cells #[.slice none 0 0, .slice none 0 0] 26 (0, 0)) (tK BK147.out) hg (Kd.R_ne HO156.out BK147.out (by decide))); have n2_ := aS (Kd.R_over' (tR HO153.out) (Kd.R_typed (tR HO156.out)) (by decide) hg); have n3_ := aS (hb); have n4_ := aS (ho); clear BK146; clear BK147; clear HO153; clear HB; clear HO156; have BK146 := n0_; have BK147 := n1_; have HO153 := n2_; have HB := n3_; have HO159 := n4_; clear n0_ n1_ n2_ n3_ n4_; clear ho hb hg hat; obtain ⟨Ao14, co14, eo14⟩ := Kd.R_slice HO159.out
   (first | subst eo14 | (injection eo14 with f1_ f2_ f3_; have f4_ := f1_.symm; have f5_ := f3_.symm; clear f1_ f2_ f3_; subst f4_; subst f5_))
   obtain ⟨Ao15, co15, eo15⟩ := Kd.R_slice HO153.out
   (first | subst eo15 | (injection eo15 with f1_ f2_ f3_; have f4_ := f1_.symm; have f5_ := f3_.symm; clear f1_ f2_ f3_; subst f4_; subst f5_))
   refine hK.out _ _ ⟨(blk_cell BK146.out 0).trans rfl, (blk_cell BK146.out 1).trans rfl⟩ (fun hHeld => ?_); clear hK K; refine norm_ (a' := ?_) ?_ ?_
   rotate_left
   · show Act.put _ (some 10) _ = _
     simp only [Act.put, List.setIfInBounds_toArray, List.set_cons_zero, List.set_cons_succ, i64_w, i32_w]
     rfl
   refine pN 8 11 ?_; refine one_ (i := 9) (N := none) M5_10_3ff rfl rfl (one_of HT_.out (by kernel_rfl)) (by decide) (fun K hK => ?_); have hs16 : w13.cell? ⟨gb147, 0, none⟩ = some (.slice none 0 0) := (blk_cell BK147.out 0).trans rfl; have hfs16 := bF BK147 0; have hns16_0 := NB146_147.out; have hms16_0 := NB147_146.out; have hs17 : w13.cell? ⟨gb147, 1, none⟩ = some (.slice none 0 0) := (blk_cell BK147.out 1).trans rfl; have hfs17 := bF BK147 1; have hns17_0 := NB146_147.out; have hms17_0 := NB147_146.out; refine skip_ (w1 := ?_) (by rfl) rfl ?_ ?_
   rotate_left
   · go_simp
     rfl
   refine hK.out _ _ ⟨((cell_far (p := ⟨gb147, _, none⟩) NB146_147.out _).trans (((cell_far (p := ⟨gb147, _, none⟩) NB146_147.out _).trans (hHeld.1)))), ((cell_far (p := ⟨gb147, _, none⟩) NB146_147.out _).trans (((cell_far (p := ⟨gb147, _, none⟩) NB146_147.out _).trans (hHeld.2))))⟩ (fun hHeld => ?_); clear hK K; refine dN ?_
   try go_wp2
   refine bodyPost_ret (results_cell_row rfl _ _ gb147 26 #[.slice Ao15 y151.length co15, .slice Ao14 y157.length co14] (0, 0) _ rfl tZ Try.underlying26 rfl (by kernel_rfl)) rfl ?_; exact ⟨_, _, tE, by (with_reducible repeat (first | apply Kd.R_alloc | apply Kd.R_drewN | apply Kd.R_drew)); exact Kd.R_mono (Kd.R_far (p := ⟨gb147, 1, none⟩) (Kd.R_far (p := ⟨gb147, 0, none⟩) (Kd.R_types HO153.out BK147.out (by decide)) (fun _ hk => hk.2) (.slice Ao15 y151.length co15)) (fun _ hk => hk.2) (.slice Ao14 y157.length co14)) (fun _ hk => trivial), by (with_reducible repeat (first | apply Kd.R_alloc | apply Kd.R_drewN | apply Kd.R_drew)); exact Kd.R_mono (Kd.R_far (p := ⟨gb147, 1, none⟩) (Kd.R_far (p := ⟨gb147, 0, none⟩) (Kd.R_types HO159.out BK147.out (by decide)) (fun _ hk => hk.2) (.slice Ao15 y151.length co15)) (fun _ hk => hk.2) (.slice Ao14 y157.length co14)) (fun _ hk => trivial), tB⟩
 rw [if_neg c2] at H; exact nS H

/-! ### spec_newIndex: function 79 -/
def spec_newIndex.l0 : Nat → Int → List Int → Int → Option (List Int)
 | 0, _, _, _ => none
 | k + 1, x0, x3, x4 => if x4 < x0 then (if x3.length < 17592186044416 then (spec_newIndex.l0 k x0 (x3 ++ [(-1)]) (wrap64 (x4 + 1))) else (none)) else (some x3)
def spec_newIndex.f (k : Nat) (a0 : Int) : Option (List Int) := spec_newIndex.l0 k a0 (([] : List Int)) 0
theorem spec_newIndex.mono_l : ∀ k, (∀ y0 y1 y2, LeO (spec_newIndex.l0 k y0 y1 y2) (spec_newIndex.l0 (k + 1) y0 y1 y2))
 | 0 => fun _ _ _ r h => by simp [spec_newIndex.l0] at h
 | k + 1 => by
  have ih0 := spec_newIndex.mono_l k; intro y0 y1 y2
  unfold spec_newIndex.l0
  exact tM
theorem spec_newIndex.mono : ∀ a0 k, LeO (spec_newIndex.f k a0) (spec_newIndex.f (k + 1) a0) := by
 intro a0 k; have ih0 := spec_newIndex.mono_l k
 unfold spec_newIndex.f
 exact tM
set_option maxHeartbeats 8000000 in
set_option maxRecDepth 100000 in
theorem spec_newIndex.calls (k : Nat) (a0 : Int) (r : List Int) (w : World) (h : spec_newIndex.f k a0 = some r) :
 Calls Try.prog 79 #[.int .i64 a0] w fun e w' => ∃ v0_ : Value, e = .returned (v0_) ∧ Kd.R (Kd.int .i64) 3 w' w.heap.size (fun _ => True) v0_ r ∧ Below w.heap.size w w' := by
 have HB := aS (Below.refl w.heap.size w); have H : (spec_newIndex.l0 k a0 (([] : List Int)) 0) = some r := h; clear h; obtain ⟨y160, hy160⟩ : ∃ y_ : List Int, y_ = (([] : List Int)) := ⟨_, rfl⟩
 replace H : (spec_newIndex.l0 k a0 y160 0) = some r := by first | (rw [hy160]; with_reducible exact H) | (have H2_ := (Option.bind_some _ _).symm.trans H; rw [hy160]; with_reducible exact H2_) | (have H2_ := (Option.bind_some _ _).symm.trans H; with_reducible exact H2_) | with_reducible exact H | (rw [hy160]; exact H) | exact H
 have Ny160 := aS hy160; clear hy160; have H' := aS H; clear H
 go_enter Try.func79, Try.ntmps79
 go_wp2_with (first | ((with_reducible refine gD 5 ?_); refine Kd.R_lit (Kd.int .i64) _ 3 ?hg (N := 5) ?hd (xs := ([] : List Int)) (inner := []) (ok := fun _ => True) (okp := fun _ => True) ?hr ?hp (fun _ hk => hk) trivial (Below.refl _ _) (Nat.le_refl _) (by simp) ?_; (case hd => rfl); (case hg => rfl); (case hr => first | (go_simp; done) | (go_simp; rfl)); (case hp => exact (Reps.none _ _)); intro v161 w2 ho3 hb hg_ hnew_; clear hg_ hnew_; (first | rw [← Ny160.out] at ho3 | (simp only [Int.reduceToNat] at ho3; rw [← Ny160.out] at ho3)); have HO162 := aS (Kd.R_lower ho3 (below_size tB)); replace HB := aS (below_step tB hb); clear hb ho3))
 go_loopg [3, 4] k (fun kq v3 v4 w' => ∃ (x3_1 : List Int) (x4_1 : Int), v4 = .int .i64 x4_1 ∧ Aside0 (spec_newIndex.l0 kq a0 x3_1 x4_1 = some r) ∧ Aside0 (kq ≤ k) ∧ Aside0 (Kd.R (Kd.int .i64) 3 w' w.heap.size (fun _ => True) v3 x3_1) ∧ Aside0 (Below w.heap.size w w'))
 case atStart => exact ⟨(y160), (0), tX, H', ⟨Nat.le_refl _⟩, ⟨tR HO162.out⟩, ⟨tB⟩⟩
 case round =>
  clear H'; obtain ⟨x3_1, x4_1, rfl, HA, HK1, HO_3, HB⟩ := hrel
  cases gk with
  | zero => exact absurd HA.out (by simp [spec_newIndex.l0])
  | succ k1 =>
   have H := HA.out; clear HA; simp only [spec_newIndex.l0] at H; by_cases c4 : x4_1 < a0
   · rw [if_pos c4] at H; have c4b0 : decide (x4_1 < a0) = true := decide_eq_true c4; clear c4; by_cases c5 : x3_1.length < 17592186044416
     case neg =>
      rw [if_neg c5] at H; exact nS H
     rw [if_pos c5] at H; have LMc5 := aS c5; clear c5; obtain ⟨y163, hy163⟩ : ∃ y_ : List Int, y_ = (x3_1 ++ [(-1)]) := ⟨_, rfl⟩
     replace H : (spec_newIndex.l0 k1 a0 y163 (wrap64 (x4_1 + 1))) = some r := by first | (rw [hy163]; with_reducible exact H) | (have H2_ := (Option.bind_some _ _).symm.trans H; rw [hy163]; with_reducible exact H2_) | (have H2_ := (Option.bind_some _ _).symm.trans H; with_reducible exact H2_) | with_reducible exact H | (rw [hy163]; exact H) | exact H
     have Ny163 := aS hy163; clear hy163; have H' := aS H; clear H
     go_wp2_with (first | ((with_reducible refine gate_builtin (b := .append) (xs := #[.tmp 11, .tmp 12]) rfl ?_); at_builtin; refine Kd.R_append (Kd.int .i64) (w0 := w) w.heap.size rfl (.tmp 11) (.tmp 12) 23 3 (.int .i64 0) 8 rfl Try.underlying23 info3 rfl (by decide) (by omega) u3 x3_1 (-1) [.int .i64 (-1)] (fun _ => True) (fun _ => False) rfl rfl ?aP (fun _ hk => hk.elim) ?aF ?aO ?aB ?aS ?aL ?_; (case aP => exact rfl); (case aB => exact tB); (case aF => exact (fun _ _ => trivial)); (case aO => exact (tR HO_3.out)); (case aS => exact (below_size tB)); (case aL => have := LMc5.out; omega); intro v164 w6 ho hb hg hat; rw [← Ny163.out] at ho; have n0_ := aS (hb); have n1_ := aS (ho); clear HB; clear HO_3; have HB := n0_; have HO165 := n1_; clear n0_ n1_; clear ho hb hg hat))
     go_roundg k1
     case measure => have := HK1.out; omega
     case rel => exact ⟨(y163), (wrap64 (x4_1 + 1)), tX, H', ⟨by have := HK1.out; omega⟩, ⟨tR HO165.out⟩, ⟨tB⟩⟩
   rw [if_neg c4] at H; have c4b0 : decide (x4_1 < a0) = false := decide_eq_false c4; clear c4; obtain rfl := oI H; go_wp2; go_ret; exact ⟨_, tE, by (with_reducible repeat (first | apply Kd.R_alloc | apply Kd.R_drewN | apply Kd.R_drew)); exact HO_3.out, tB⟩

end Go.Proofs.Ytihcollncjcpgaa.E
