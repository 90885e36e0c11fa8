/- The contract of impl.LoopRun at zero steps: the call returns what LoopNew returns, where the scripts are valid. Condition: the number of steps is 0 (at others the plain function tells nothing). -/
import Derived.Test.YtaaonmlbkljgjaaPx0
import Derived.Test.YtaaonmlbkljgjaaPx3
import Derived.Test.YtaaonmlbkljgjaaPx4
import Derived.Test.YtaaonmlbkljgjaaPx6
namespace Go.Proofs.Ytaaonmlbkljgjaa.P
open Go.RowKit Go.Proofs.YtaaonmlbkljgjaaW.PrintWords Go.Proofs.YtaaonmlbkljgjaaW.PrintLast Go.Proofs.YtaaonmlbkljgjaaW.PrintMore
set_option linter.unusedVariables false
set_option linter.unusedSimpArgs false

def impl_LoopRun.f (k : Nat) (l0 : List (List S41)) (a1 : Int) : Option (Int × (List (S46)) × List Int × (List (S53))) :=
  if a1 = 0 then ((impl_ScriptsOk.f k l0).bind fun t => if t = true then impl_LoopNew.f else none) else none

theorem impl_LoopRun.mono : ∀ a0 a1 k, LeO (impl_LoopRun.f k a0 a1) (impl_LoopRun.f (k + 1) a0 a1) := by
  intro a0 a1 k
  unfold impl_LoopRun.f
  refine LeO.ite ?_ (LeO.none _)
  exact LeO.bind (impl_ScriptsOk.mono _ _) (fun _ => LeO.refl _)

set_option maxHeartbeats 8000000 in
set_option maxRecDepth 100000 in
theorem impl_LoopRun.calls (k : Nat) (A0 : Option Addr) (c0 : Nat) (l0 : List (List S41)) (a1 : Int) (r1 : Int) (r2 : List S46) (r3 : List Int) (r4 : List S53) (w : World) (hr0 : Kd.C (Kd.slice 41 k41) w A0 l0.length l0) (hc0 : l0.length ≤ c0) (h : impl_LoopRun.f k l0 a1 = some (r1, r2, r3, r4)) :
    Calls Try.prog 8 #[.slice A0 l0.length c0, .int .i64 a1] w fun e w' => ∃ v1_ v2_ v3_ : Value, e = .returned (.agg #[.int .i64 r1, v1_, v2_, v3_]) ∧ Kd.R k46 46 w' w.heap.size (fun _ => True) v1_ r2 ∧ Kd.R (Kd.int .i64) 3 w' w.heap.size (fun _ => True) v2_ r3 ∧ Kd.R k53 53 w' w.heap.size (fun _ => True) v3_ r4 ∧ Below w.heap.size w w' := by
  have hu31 := Try.underlying31
  have HR0 := Aside0.mk hr0
  have HC0 := Aside0.mk hc0
  clear hr0 hc0
  have HB := Aside0.mk (Below.refl w.heap.size w)
  unfold impl_LoopRun.f at h
  by_cases ha : a1 = 0
  · subst ha
    rw [if_pos rfl] at h
    obtain ⟨t, A1_, H⟩ := Option.bind_eq_some_iff.mp h
    clear h
    cases t with
    | false => simp at H
    | true =>
    simp only [if_true] at H
    have A1 := Aside0.mk A1_
    clear A1_
    have A2 := Aside0.mk H
    have A3 := Aside0.mk (show impl_within.f 0 0 120 = some true from by decide)
    clear H
    go_enter Try.func8, Try.ntmps8
    go_wp2_with (first
      | ((with_reducible refine gate_dst (N := 4) rfl ?_); refine box_event ?hg (N := 4) ?hd (cs := #[.int .i64 0, .slice none 0 0, .slice none 0 0, .slice none 0 0]) (t := 31) ?hr ?_; (case hd => rfl); (case hg => rfl); (case hr => first | (go_simp; done) | (go_simp; rfl)); intro gb4 hg w3 hbox hb; have n0_ := Aside0.mk (below_step HB.out hb); have BK4 := Aside0.mk (hbox); have GE4 := Aside0.mk ((by rw [hg]; exact (below_size HB.out) : w.heap.size ≤ gb4)); clear HB; have HB := n0_; clear n0_; clear hb hbox hg)
      | ((with_reducible refine gate_callee (f := 5) rfl ?_); refine goesL_ (some 7) rfl rfl Try.func5 (by kernel_rfl) rfl #[.slice A0 l0.length c0] rfl (by (try simp only [List.map_toArray, List.map_cons, List.map_nil]); first | done | rfl) ?_; (with_reducible refine (impl_ScriptsOk.calls k _ _ l0 true _ ?side1 ?side2 A1.out).mono ?_); (case side1 => exact Kd.C_below HR0.out HB.out); (case side2 => exact HC0.out); rintro e w5 ⟨rfl, hb⟩; refine ⟨_, rfl, ?_⟩; have n0_ := Aside0.mk (blk_below (g := gb4) (o := .cells #[.int .i64 0, .slice none 0 0, .slice none 0 0, .slice none 0 0] 31 (0, 0)) BK4.out hb); have n1_ := Aside0.mk (below_step HB.out hb); clear BK4; clear HB; have BK4 := n0_; have HB := n1_; clear n0_ n1_; clear hb)
      | (go_at_call 12; (with_reducible refine (impl_within.calls 0 0 120 true _ A3.out).mono ?_); rintro e w' ⟨rfl, ⟨nd, rfl⟩⟩; have n0_ := Aside0.mk (blk_drewN BK4.out nd); have n1_ := Aside0.mk (pw_below_drewN HB.out nd); clear BK4 HB; have BK4 := n0_; have HB := n1_; clear n0_ n1_)
      | ((with_reducible refine gate_callee (f := 9) rfl ?_); refine goesL_ (some 15) rfl rfl Try.func9 (by kernel_rfl) rfl #[] rfl (by (try simp only [List.map_toArray, List.map_cons, List.map_nil]); first | done | rfl) ?_; (with_reducible refine (impl_LoopNew.calls r1 r2 r3 r4 _ A2.out).mono ?_); rintro e w9 ⟨v1, v2, v3, rfl, ho1, ho2, ho3, hb⟩; refine ⟨_, rfl, ?_⟩; have n0_ := Aside0.mk (blk_below (g := gb4) (o := .cells #[.int .i64 0, .slice none 0 0, .slice none 0 0, .slice none 0 0] 31 (0, 0)) BK4.out hb); have HO1 := Aside0.mk (Kd.R_lower ho1 (below_size HB.out)); have HO2 := Aside0.mk (Kd.R_lower ho2 (below_size HB.out)); have HO3 := Aside0.mk (Kd.R_lower ho3 (below_size HB.out)); have n1_ := Aside0.mk (below_step HB.out hb); clear BK4; clear HB; have BK4 := n0_; have HB := n1_; clear n0_ n1_; clear hb ho1 ho2 ho3; obtain ⟨B1, d1, eo1⟩ := Kd.R_slice HO1.out; subst eo1; obtain ⟨B2, d2, eo2⟩ := Kd.R_slice HO2.out; subst eo2; obtain ⟨B3, d3, eo3⟩ := Kd.R_slice HO3.out; subst eo3)
      | ((with_reducible refine gate_dst (N := 5) rfl ?_); refine box_event ?hg (N := 5) ?hd (cs := #[.int .i64 0, .slice none 0 0, .slice none 0 0, .slice none 0 0]) (t := 31) ?hr ?_; (case hd => rfl); (case hg => rfl); (case hr => first | (go_simp; done) | (go_simp; rfl)); intro gb5 hg w10 hbox hb; have n0_ := Aside0.mk (blk_below (g := gb4) (o := .cells #[.int .i64 0, .slice none 0 0, .slice none 0 0, .slice none 0 0] 31 (0, 0)) BK4.out hb); have GE5 := Aside0.mk ((by rw [hg]; exact (below_size HB.out) : w.heap.size ≤ gb5)); have NE := Aside0.mk ((by rw [hg]; exact Nat.ne_of_lt (blk_lt BK4.out)) : gb4 ≠ gb5); have NE2 := Aside0.mk ((by rw [hg]; exact Nat.ne_of_gt (blk_lt BK4.out)) : gb5 ≠ gb4); have n1_ := Aside0.mk (below_step HB.out hb); have BK5 := Aside0.mk hbox; have n3_ := Aside0.mk (Kd.R_below HO1.out hb); have n4_ := Aside0.mk (Kd.R_below HO2.out hb); have n5_ := Aside0.mk (Kd.R_below HO3.out hb); clear BK4 HB HO1 HO2 HO3; have BK4 := n0_; have HB := n1_; have HO1 := n3_; have HO2 := n4_; have HO3 := n5_; clear n0_ n1_ n3_ n4_ n5_; clear hb hbox hg; have hcz5_0 : w10.cell? ⟨gb5, 0, none⟩ = some (.int .i64 0) := (blk_cell BK5.out 0).trans rfl; have hfz5_0 := blk_frozen BK5.out 0; have hcz5_1 : w10.cell? ⟨gb5, 1, none⟩ = some (.slice none 0 0) := (blk_cell BK5.out 1).trans rfl; have hfz5_1 := blk_frozen BK5.out 1; have hcz5_2 : w10.cell? ⟨gb5, 2, none⟩ = some (.slice none 0 0) := (blk_cell BK5.out 2).trans rfl; have hfz5_2 := blk_frozen BK5.out 2; have hcz5_3 : w10.cell? ⟨gb5, 3, none⟩ = some (.slice none 0 0) := (blk_cell BK5.out 3).trans rfl; have hfz5_3 := blk_frozen BK5.out 3))
    go_loopg [17] 0 (fun kq v17 W => v17 = .int .i64 0 ∧ Aside0 (W.heap[gb4]? = some (.cells #[.int .i64 0, .slice none 0 0, .slice none 0 0, .slice none 0 0] 31 (0, 0))) ∧ Aside0 (W.heap[gb5]? = some (.cells #[.int .i64 r1, .slice B1 r2.length d1, .slice B2 r3.length d2, .slice B3 r4.length d3] 31 (0, 0))) ∧ Aside0 (Kd.R k46 46 W w.heap.size (fun _ => True) (.slice B1 r2.length d1) r2) ∧ Aside0 (Kd.R (Kd.int .i64) 3 W w.heap.size (fun _ => True) (.slice B2 r3.length d2) r3) ∧ Aside0 (Kd.R k53 53 W w.heap.size (fun _ => True) (.slice B3 r4.length d3) r4) ∧ Aside0 (Below w.heap.size w W))
    case atStart =>
      exact ⟨rfl, ⟨((Below.heap_setCell _ ⟨gb5, 3, none⟩ _ gb4 NE.out).trans ((Below.heap_setCell _ ⟨gb5, 2, none⟩ _ gb4 NE.out).trans ((Below.heap_setCell _ ⟨gb5, 1, none⟩ _ gb4 NE.out).trans ((Below.heap_setCell _ ⟨gb5, 0, none⟩ _ gb4 NE.out).trans BK4.out))))⟩, ⟨(blk_put (cs := #[.int .i64 r1, .slice B1 r2.length d1, .slice B2 r3.length d2, .slice none 0 0]) (blk_put (cs := #[.int .i64 r1, .slice B1 r2.length d1, .slice none 0 0, .slice none 0 0]) (blk_put (cs := #[.int .i64 r1, .slice none 0 0, .slice none 0 0, .slice none 0 0]) (blk_put (cs := #[.int .i64 0, .slice none 0 0, .slice none 0 0, .slice none 0 0]) BK5.out 0 _ rfl) 1 _ rfl) 2 _ rfl) 3 _ rfl)⟩, ⟨(Kd.R_set (Kd.R_set (Kd.R_set (Kd.R_set HO1.out BK5.out (by decide) 0 _) (blk_put (cs := #[.int .i64 0, .slice none 0 0, .slice none 0 0, .slice none 0 0]) BK5.out 0 _ rfl) (by decide) 1 _) (blk_put (cs := #[.int .i64 r1, .slice none 0 0, .slice none 0 0, .slice none 0 0]) (blk_put (cs := #[.int .i64 0, .slice none 0 0, .slice none 0 0, .slice none 0 0]) BK5.out 0 _ rfl) 1 _ rfl) (by decide) 2 _) (blk_put (cs := #[.int .i64 r1, .slice B1 r2.length d1, .slice none 0 0, .slice none 0 0]) (blk_put (cs := #[.int .i64 r1, .slice none 0 0, .slice none 0 0, .slice none 0 0]) (blk_put (cs := #[.int .i64 0, .slice none 0 0, .slice none 0 0, .slice none 0 0]) BK5.out 0 _ rfl) 1 _ rfl) 2 _ rfl) (by decide) 3 _)⟩, ⟨(Kd.R_set (Kd.R_set (Kd.R_set (Kd.R_set HO2.out BK5.out (by decide) 0 _) (blk_put (cs := #[.int .i64 0, .slice none 0 0, .slice none 0 0, .slice none 0 0]) BK5.out 0 _ rfl) (by decide) 1 _) (blk_put (cs := #[.int .i64 r1, .slice none 0 0, .slice none 0 0, .slice none 0 0]) (blk_put (cs := #[.int .i64 0, .slice none 0 0, .slice none 0 0, .slice none 0 0]) BK5.out 0 _ rfl) 1 _ rfl) (by decide) 2 _) (blk_put (cs := #[.int .i64 r1, .slice B1 r2.length d1, .slice none 0 0, .slice none 0 0]) (blk_put (cs := #[.int .i64 r1, .slice none 0 0, .slice none 0 0, .slice none 0 0]) (blk_put (cs := #[.int .i64 0, .slice none 0 0, .slice none 0 0, .slice none 0 0]) BK5.out 0 _ rfl) 1 _ rfl) 2 _ rfl) (by decide) 3 _)⟩, ⟨(Kd.R_set (Kd.R_set (Kd.R_set (Kd.R_set HO3.out BK5.out (by decide) 0 _) (blk_put (cs := #[.int .i64 0, .slice none 0 0, .slice none 0 0, .slice none 0 0]) BK5.out 0 _ rfl) (by decide) 1 _) (blk_put (cs := #[.int .i64 r1, .slice none 0 0, .slice none 0 0, .slice none 0 0]) (blk_put (cs := #[.int .i64 0, .slice none 0 0, .slice none 0 0, .slice none 0 0]) BK5.out 0 _ rfl) 1 _ rfl) (by decide) 2 _) (blk_put (cs := #[.int .i64 r1, .slice B1 r2.length d1, .slice none 0 0, .slice none 0 0]) (blk_put (cs := #[.int .i64 r1, .slice none 0 0, .slice none 0 0, .slice none 0 0]) (blk_put (cs := #[.int .i64 0, .slice none 0 0, .slice none 0 0, .slice none 0 0]) BK5.out 0 _ rfl) 1 _ rfl) 2 _ rfl) (by decide) 3 _)⟩, ⟨(below_set (below_set (below_set (below_set HB.out GE5.out) GE5.out) GE5.out) GE5.out)⟩⟩
    case round =>
      obtain ⟨rfl, BK4, BK5, HO1, HO2, HO3, HB⟩ := hrel
      have hnb := NE.out
      have hnc := NE2.out
      have hcz4_0 := (blk_cell BK4.out 0).trans rfl
      have hcz4_1 := (blk_cell BK4.out 1).trans rfl
      have hcz4_2 := (blk_cell BK4.out 2).trans rfl
      have hcz4_3 := (blk_cell BK4.out 3).trans rfl
      have hfz4_0 := blk_frozen BK4.out 0
      have hfz4_1 := blk_frozen BK4.out 1
      have hfz4_2 := blk_frozen BK4.out 2
      have hfz4_3 := blk_frozen BK4.out 3
      have hcz5_0 := (blk_cell BK5.out 0).trans rfl
      have hcz5_1 := (blk_cell BK5.out 1).trans rfl
      have hcz5_2 := (blk_cell BK5.out 2).trans rfl
      have hcz5_3 := (blk_cell BK5.out 3).trans rfl
      go_wp2
      refine bodyPost_ret (results_cell_row rfl _ _ gb4 31 #[.int .i64 r1, .slice B1 r2.length d1, .slice B2 r3.length d2, .slice B3 r4.length d3] (0, 0) _ rfl (blk_put (cs := #[.int .i64 r1, .slice B1 r2.length d1, .slice B2 r3.length d2, .slice none 0 0]) (blk_put (cs := #[.int .i64 r1, .slice B1 r2.length d1, .slice none 0 0, .slice none 0 0]) (blk_put (cs := #[.int .i64 r1, .slice none 0 0, .slice none 0 0, .slice none 0 0]) (blk_put (cs := #[.int .i64 0, .slice none 0 0, .slice none 0 0, .slice none 0 0]) BK4.out 0 _ rfl) 1 _ rfl) 2 _ rfl) 3 _ rfl) Try.underlying31 rfl (by kernel_rfl)) rfl ?_
      exact ⟨_, _, _, rfl, (Kd.R_set (Kd.R_set (Kd.R_set (Kd.R_set HO1.out BK4.out (by decide) 0 _) (blk_put (cs := #[.int .i64 0, .slice none 0 0, .slice none 0 0, .slice none 0 0]) BK4.out 0 _ rfl) (by decide) 1 _) (blk_put (cs := #[.int .i64 r1, .slice none 0 0, .slice none 0 0, .slice none 0 0]) (blk_put (cs := #[.int .i64 0, .slice none 0 0, .slice none 0 0, .slice none 0 0]) BK4.out 0 _ rfl) 1 _ rfl) (by decide) 2 _) (blk_put (cs := #[.int .i64 r1, .slice B1 r2.length d1, .slice none 0 0, .slice none 0 0]) (blk_put (cs := #[.int .i64 r1, .slice none 0 0, .slice none 0 0, .slice none 0 0]) (blk_put (cs := #[.int .i64 0, .slice none 0 0, .slice none 0 0, .slice none 0 0]) BK4.out 0 _ rfl) 1 _ rfl) 2 _ rfl) (by decide) 3 _), (Kd.R_set (Kd.R_set (Kd.R_set (Kd.R_set HO2.out BK4.out (by decide) 0 _) (blk_put (cs := #[.int .i64 0, .slice none 0 0, .slice none 0 0, .slice none 0 0]) BK4.out 0 _ rfl) (by decide) 1 _) (blk_put (cs := #[.int .i64 r1, .slice none 0 0, .slice none 0 0, .slice none 0 0]) (blk_put (cs := #[.int .i64 0, .slice none 0 0, .slice none 0 0, .slice none 0 0]) BK4.out 0 _ rfl) 1 _ rfl) (by decide) 2 _) (blk_put (cs := #[.int .i64 r1, .slice B1 r2.length d1, .slice none 0 0, .slice none 0 0]) (blk_put (cs := #[.int .i64 r1, .slice none 0 0, .slice none 0 0, .slice none 0 0]) (blk_put (cs := #[.int .i64 0, .slice none 0 0, .slice none 0 0, .slice none 0 0]) BK4.out 0 _ rfl) 1 _ rfl) 2 _ rfl) (by decide) 3 _), (Kd.R_set (Kd.R_set (Kd.R_set (Kd.R_set HO3.out BK4.out (by decide) 0 _) (blk_put (cs := #[.int .i64 0, .slice none 0 0, .slice none 0 0, .slice none 0 0]) BK4.out 0 _ rfl) (by decide) 1 _) (blk_put (cs := #[.int .i64 r1, .slice none 0 0, .slice none 0 0, .slice none 0 0]) (blk_put (cs := #[.int .i64 0, .slice none 0 0, .slice none 0 0, .slice none 0 0]) BK4.out 0 _ rfl) 1 _ rfl) (by decide) 2 _) (blk_put (cs := #[.int .i64 r1, .slice B1 r2.length d1, .slice none 0 0, .slice none 0 0]) (blk_put (cs := #[.int .i64 r1, .slice none 0 0, .slice none 0 0, .slice none 0 0]) (blk_put (cs := #[.int .i64 0, .slice none 0 0, .slice none 0 0, .slice none 0 0]) BK4.out 0 _ rfl) 1 _ rfl) 2 _ rfl) (by decide) 3 _), (below_set (below_set (below_set (below_set HB.out GE4.out) GE4.out) GE4.out) GE4.out)⟩
  · rw [if_neg ha] at h
    exact absurd h (by simp)
end Go.Proofs.Ytaaonmlbkljgjaa.P
