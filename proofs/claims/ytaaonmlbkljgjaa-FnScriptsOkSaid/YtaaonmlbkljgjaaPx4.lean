/- Contracts of the Go functions that the seat's laws reach, one after the other: the machine's call comes to what the plain Lean function beside it says; no conditions but those that each contract names. Laid by this session's program wip/pp.py, which drives the kit's printer. -/
import Derived.Test.YtaaonmlbkljgjaaPx0
namespace Go.Proofs.Ytaaonmlbkljgjaa.P
open Go.RowKit Go.Proofs.YtaaonmlbkljgjaaW.PrintWords Go.Proofs.YtaaonmlbkljgjaaW.PrintLast Go.Proofs.YtaaonmlbkljgjaaW.PrintMore
attribute [local go_sem] max2_int min2_int max_two min_two max_three min_three max_four min_four   -- for this text's walks alone
set_option linter.unusedVariables false
set_option linter.unusedSimpArgs false

/-! ### impl_within: function 12 -/
def impl_within.f (a0 : Int) (a1 : Int) (a2 : Int) : Option (Bool) := if a0 ≥ a1 then (some (decide (a0 ≤ a2))) else (some false)
set_option maxHeartbeats 8000000 in
set_option maxRecDepth 100000 in
theorem impl_within.calls (a0 : Int) (a1 : Int) (a2 : Int) (r : Bool) (w : World) (h : impl_within.f a0 a1 a2 = some r) :
 Calls Try.prog 12 #[.int .i64 a0, .int .i64 a1, .int .i64 a2] w fun e w' => e = .returned (.bool r) ∧ Drawn0 w w' := by
 have H : (if a0 ≥ a1 then (some (decide (a0 ≤ a2))) else (some false)) = some r := h
 clear h
 by_cases c4 : a0 ≥ a1
 · rw [if_pos c4] at H
   have c4b0 : decide (a1 ≤ a0) = true := decide_eq_true c4
   clear c4
   obtain rfl := Option.some.inj H
   go_enter Try.func12, Try.ntmps12
   go_wp2
   go_ret
   exact ⟨by first | rfl | (simp; done) | (simp [*]; done), by repeat (first | exact Drawn0.refl _ | apply Drawn0.step)⟩
 rw [if_neg c4] at H
 have c4b0 : decide (a1 ≤ a0) = false := decide_eq_false c4
 clear c4
 obtain rfl := Option.some.inj H
 go_enter Try.func12, Try.ntmps12
 go_wp2
 go_ret
 exact ⟨by first | rfl | (simp; done) | (simp [*]; done), by repeat (first | exact Drawn0.refl _ | apply Drawn0.step)⟩

/-! ### impl_ScriptsOk: function 5 -/
mutual
def impl_ScriptsOk.l0 : Nat → List (List (S41)) → List (List (S41)) → Int → Int → Option (Bool)
 | 0, _, _, _, _ => none
 | k + 1, x0, x12, x13, x14 => if x14 < x13 then (if 0 ≤ x14 then (if x14 < (x12.length : Int) then (if ((rd_L3 x12 x14).length : Int) > 8 then (some false) else (impl_ScriptsOk.l1 k x0 x12 x13 x14 (rd_L3 x12 x14) ((rd_L3 x12 x14).length : Int) 0)) else (none)) else (none)) else (some true)
def impl_ScriptsOk.l1 : Nat → List (List (S41)) → List (List (S41)) → Int → Int → List (S41) → Int → Int → Option (Bool)
 | 0, _, _, _, _, _, _, _ => none
 | k + 1, x0, x12, x13, x14, x21, x22, x23 => if x23 < x22 then (if 0 ≤ x23 then (if x23 < (x21.length : Int) then (if ((rd_T41 x21 x23).f0) = 1 then (impl_ScriptsOk.j2 k x0 (-1) x12 x13 x14 x21 x22 x23 ((rd_T41 x21 x23).f0) (((rd_T41 x21 x23).f0) == 1) ((rd_T41 x21 x23).f0) ((rd_T41 x21 x23).f1)) else (impl_ScriptsOk.j2 k x0 (-1) x12 x13 x14 x21 x22 x23 ((rd_T41 x21 x23).f0) (((rd_T41 x21 x23).f0) == 7) ((rd_T41 x21 x23).f0) ((rd_T41 x21 x23).f1))) else (none)) else (none)) else (impl_ScriptsOk.l0 k x0 x12 x13 (wrap64 (x14 + 1)))
def impl_ScriptsOk.j2 : Nat → List (List (S41)) → Int → List (List (S41)) → Int → Int → List (S41) → Int → Int → Int → Bool → Int → Int → Option (Bool)
 | 0, _, _, _, _, _, _, _, _, _, _, _, _ => none
 | k + 1, x0, x7, x12, x13, x14, x21, x22, x23, x28, x29, x183000, x183001 => if x29 = true then ((impl_within.f x183001 0 1000000).bind fun t183 => (if t183 = true then (impl_ScriptsOk.l1 k x0 x12 x13 x14 x21 x22 (wrap64 (x23 + 1))) else (some false))) else (if x28 = 2 then ((impl_within.f x183001 0 20).bind fun t184 => (if t184 = true then (impl_ScriptsOk.l1 k x0 x12 x13 x14 x21 x22 (wrap64 (x23 + 1))) else (some false))) else (if x28 = 3 then ((impl_within.f x183001 0 (wrap64 ((x0.length : Int) - 1))).bind fun t185 => (if t185 = true then (impl_ScriptsOk.l1 k x0 x12 x13 x14 x21 x22 (wrap64 (x23 + 1))) else (some false))) else (if x28 = 4 then (impl_ScriptsOk.j3 k x0 x7 x12 x13 x14 x21 x22 x23 (x28 == 4) x183000 x183001) else (if x28 = 5 then (impl_ScriptsOk.j3 k x0 x7 x12 x13 x14 x21 x22 x23 (x28 == 5) x183000 x183001) else (impl_ScriptsOk.j3 k x0 x7 x12 x13 x14 x21 x22 x23 (x28 == 6) x183000 x183001)))))
def impl_ScriptsOk.j3 : Nat → List (List (S41)) → Int → List (List (S41)) → Int → Int → List (S41) → Int → Int → Bool → Int → Int → Option (Bool)
 | 0, _, _, _, _, _, _, _, _, _, _, _ => none
 | k + 1, x0, x7, x12, x13, x14, x21, x22, x23, x39, x183000, x183001 => if x39 = true then ((impl_within.f x183001 0 7).bind fun t186 => (if t186 = true then (impl_ScriptsOk.l1 k x0 x12 x13 x14 x21 x22 (wrap64 (x23 + 1))) else (some false))) else ((impl_within.f x183001 0 x7).bind fun t187 => (if t187 = true then (impl_ScriptsOk.l1 k x0 x12 x13 x14 x21 x22 (wrap64 (x23 + 1))) else (some false)))
end
def impl_ScriptsOk.f (k : Nat) (l0 : List (List (S41))) : Option (Bool) := (impl_within.f (l0.length : Int) 1 4).bind fun t179 => (if t179 = true then (impl_ScriptsOk.l0 k l0 l0 (l0.length : Int) 0) else (some false))
theorem impl_ScriptsOk.mono_l : ∀ k, (∀ y0 y1 y2 y3, LeO (impl_ScriptsOk.l0 k y0 y1 y2 y3) (impl_ScriptsOk.l0 (k + 1) y0 y1 y2 y3)) ∧ (∀ y0 y1 y2 y3 y4 y5 y6, LeO (impl_ScriptsOk.l1 k y0 y1 y2 y3 y4 y5 y6) (impl_ScriptsOk.l1 (k + 1) y0 y1 y2 y3 y4 y5 y6)) ∧ (∀ y0 y1 y2 y3 y4 y5 y6 y7 y8 y9 y10 y11, LeO (impl_ScriptsOk.j2 k y0 y1 y2 y3 y4 y5 y6 y7 y8 y9 y10 y11) (impl_ScriptsOk.j2 (k + 1) y0 y1 y2 y3 y4 y5 y6 y7 y8 y9 y10 y11)) ∧ (∀ y0 y1 y2 y3 y4 y5 y6 y7 y8 y9 y10, LeO (impl_ScriptsOk.j3 k y0 y1 y2 y3 y4 y5 y6 y7 y8 y9 y10) (impl_ScriptsOk.j3 (k + 1) y0 y1 y2 y3 y4 y5 y6 y7 y8 y9 y10))
 | 0 => ⟨fun _ _ _ _ r h => by simp [impl_ScriptsOk.l0] at h, fun _ _ _ _ _ _ _ r h => by simp [impl_ScriptsOk.l1] at h, fun _ _ _ _ _ _ _ _ _ _ _ _ r h => by simp [impl_ScriptsOk.j2] at h, fun _ _ _ _ _ _ _ _ _ _ _ r h => by simp [impl_ScriptsOk.j3] at h⟩
 | k + 1 => by
  obtain ⟨ih0, ih1, ih2, ih3⟩ := impl_ScriptsOk.mono_l k
  refine ⟨?_, ?_, ?_, ?_⟩
  · intro y0 y1 y2 y3
    unfold impl_ScriptsOk.l0
    repeat' first
    | (with_reducible exact ih0 _ _ _ _)
    | (with_reducible exact ih1 _ _ _ _ _ _ _)
    | (with_reducible exact ih2 _ _ _ _ _ _ _ _ _ _ _ _)
    | (with_reducible exact ih3 _ _ _ _ _ _ _ _ _ _ _)
    | (with_reducible exact LeO.refl _)
    | (with_reducible exact LeO.none _)
    | (with_reducible refine LeO.ite ?_ ?_)
    | (with_reducible refine LeO.bind ?_ (fun _ => ?_))
    | exact ih0 _ _ _ _
    | exact ih1 _ _ _ _ _ _ _
    | exact ih2 _ _ _ _ _ _ _ _ _ _ _ _
    | exact ih3 _ _ _ _ _ _ _ _ _ _ _
    | exact LeO.none _
    | refine LeO.ite ?_ ?_
    | refine LeO.bind ?_ (fun _ => ?_)
  · intro y0 y1 y2 y3 y4 y5 y6
    unfold impl_ScriptsOk.l1
    repeat' first
    | (with_reducible exact ih0 _ _ _ _)
    | (with_reducible exact ih1 _ _ _ _ _ _ _)
    | (with_reducible exact ih2 _ _ _ _ _ _ _ _ _ _ _ _)
    | (with_reducible exact ih3 _ _ _ _ _ _ _ _ _ _ _)
    | (with_reducible exact LeO.refl _)
    | (with_reducible exact LeO.none _)
    | (with_reducible refine LeO.ite ?_ ?_)
    | (with_reducible refine LeO.bind ?_ (fun _ => ?_))
    | exact ih0 _ _ _ _
    | exact ih1 _ _ _ _ _ _ _
    | exact ih2 _ _ _ _ _ _ _ _ _ _ _ _
    | exact ih3 _ _ _ _ _ _ _ _ _ _ _
    | exact LeO.none _
    | refine LeO.ite ?_ ?_
    | refine LeO.bind ?_ (fun _ => ?_)
  · intro y0 y1 y2 y3 y4 y5 y6 y7 y8 y9 y10 y11
    unfold impl_ScriptsOk.j2
    repeat' first
    | (with_reducible exact ih0 _ _ _ _)
    | (with_reducible exact ih1 _ _ _ _ _ _ _)
    | (with_reducible exact ih2 _ _ _ _ _ _ _ _ _ _ _ _)
    | (with_reducible exact ih3 _ _ _ _ _ _ _ _ _ _ _)
    | (with_reducible exact LeO.refl _)
    | (with_reducible exact LeO.none _)
    | (with_reducible refine LeO.ite ?_ ?_)
    | (with_reducible refine LeO.bind ?_ (fun _ => ?_))
    | exact ih0 _ _ _ _
    | exact ih1 _ _ _ _ _ _ _
    | exact ih2 _ _ _ _ _ _ _ _ _ _ _ _
    | exact ih3 _ _ _ _ _ _ _ _ _ _ _
    | exact LeO.none _
    | refine LeO.ite ?_ ?_
    | refine LeO.bind ?_ (fun _ => ?_)
  intro y0 y1 y2 y3 y4 y5 y6 y7 y8 y9 y10
  unfold impl_ScriptsOk.j3
  repeat' first
  | (with_reducible exact ih0 _ _ _ _)
  | (with_reducible exact ih1 _ _ _ _ _ _ _)
  | (with_reducible exact ih2 _ _ _ _ _ _ _ _ _ _ _ _)
  | (with_reducible exact ih3 _ _ _ _ _ _ _ _ _ _ _)
  | (with_reducible exact LeO.refl _)
  | (with_reducible exact LeO.none _)
  | (with_reducible refine LeO.ite ?_ ?_)
  | (with_reducible refine LeO.bind ?_ (fun _ => ?_))
  | exact ih0 _ _ _ _
  | exact ih1 _ _ _ _ _ _ _
  | exact ih2 _ _ _ _ _ _ _ _ _ _ _ _
  | exact ih3 _ _ _ _ _ _ _ _ _ _ _
  | exact LeO.none _
  | refine LeO.ite ?_ ?_
  | refine LeO.bind ?_ (fun _ => ?_)
theorem impl_ScriptsOk.mono : ∀ a0 k, LeO (impl_ScriptsOk.f k a0) (impl_ScriptsOk.f (k + 1) a0) := by
 intro a0 k
 obtain ⟨ih0, ih1, ih2, ih3⟩ := impl_ScriptsOk.mono_l k
 unfold impl_ScriptsOk.f
 repeat' first
  | (with_reducible exact ih0 _ _ _ _)
  | (with_reducible exact ih1 _ _ _ _ _ _ _)
  | (with_reducible exact ih2 _ _ _ _ _ _ _ _ _ _ _ _)
  | (with_reducible exact ih3 _ _ _ _ _ _ _ _ _ _ _)
  | (with_reducible exact LeO.refl _)
  | (with_reducible exact LeO.none _)
  | (with_reducible refine LeO.ite ?_ ?_)
  | (with_reducible refine LeO.bind ?_ (fun _ => ?_))
  | exact ih0 _ _ _ _
  | exact ih1 _ _ _ _ _ _ _
  | exact ih2 _ _ _ _ _ _ _ _ _ _ _ _
  | exact ih3 _ _ _ _ _ _ _ _ _ _ _
  | exact LeO.none _
  | refine LeO.ite ?_ ?_
  | refine LeO.bind ?_ (fun _ => ?_)
set_option maxHeartbeats 8000000 in
set_option maxRecDepth 100000 in
theorem impl_ScriptsOk.calls (k : Nat) (A0 : Option Addr) (c0 : Nat) (l0 : List (List (S41))) (r : Bool) (w : World) (hr0 : Kd.C (Kd.slice 41 k41) w A0 l0.length l0) (hc0 : l0.length ≤ c0) (h : impl_ScriptsOk.f k l0 = some r) :
 Calls Try.prog 5 #[.slice A0 l0.length c0] w fun e w' => e = .returned (.bool r) ∧ Below w.heap.size w w' := by
 have hu41 := Try.underlying41
 have HR0 := Aside0.mk hr0
 have HC0 := Aside0.mk hc0
 clear hr0 hc0
 have HB := Aside0.mk (Below.refl w.heap.size w)
 have H : ((impl_within.f (l0.length : Int) 1 4).bind fun t179 => (if t179 = true then (impl_ScriptsOk.l0 k l0 l0 (l0.length : Int) 0) else (some false))) = some r := h
 clear h
 replace H := Option.bind_eq_some_iff.mp H
 obtain ⟨t179, A20, H⟩ := H
 replace H : (if t179 = true then (impl_ScriptsOk.l0 k l0 l0 (l0.length : Int) 0) else (some false)) = some r := H
 have A2 := Aside0.mk A20
 clear A20
 by_cases c3 : t179 = true
 · subst c3
   have H1 : (impl_ScriptsOk.l0 k l0 l0 (l0.length : Int) 0) = some r := by rw [if_pos rfl] at H; exact H
   clear H
   have H := H1
   clear H1
   have H' := Aside0.mk H
   clear H
   go_enter Try.func5, Try.ntmps5
   go_wp2_with (first | ((with_reducible refine gate_callee (f := 12) rfl ?_); refine goesL_ (some 10) rfl rfl Try.func12 (by kernel_rfl) rfl #[.int .i64 (l0.length : Int), .int .i64 1, .int .i64 4] rfl (by (try simp only [List.map_toArray, List.map_cons, List.map_nil]); first | done | rfl | (simp only [List.length_drop, List.length_take]; rfl)) ?_; (with_reducible refine (impl_within.calls (l0.length : Int) 1 4 true _ A2.out).mono ?_); rintro e w' ⟨rfl, ⟨nd, rfl⟩⟩; refine ⟨_, rfl, ?_⟩))
   go_loopg [14] k (fun kq v14 w' => ∃ (x14_1 : Int), v14 = .int .i64 x14_1 ∧ Aside0 (impl_ScriptsOk.l0 kq l0 l0 (l0.length : Int) x14_1 = some r) ∧ Aside0 (kq ≤ k) ∧ Aside0 (Below w.heap.size w w'))
   case atStart => exact ⟨(0), (by first | rfl | (simp; done) | (simp [*]; done)), H', ⟨Nat.le_refl _⟩, ⟨by repeat (first | (with_reducible first | exact HB.out | apply below_alloc | apply pw_below_drewN | apply below_drew1) | exact HB.out)⟩⟩
   case round =>
    clear H'
    try clear c1
    try clear p2
    try clear c3
    obtain ⟨x14_1, rfl, HA, HK1, HB⟩ := hrel
    cases gk with
    | zero => exact absurd HA.out (by simp [impl_ScriptsOk.l0])
    | succ k1 =>
     have H := HA.out
     clear HA
     simp only [impl_ScriptsOk.l0] at H
     by_cases c4 : x14_1 < (l0.length : Int)
     · rw [if_pos c4] at H
       have c4b0 : decide (x14_1 < (l0.length : Int)) = true := decide_eq_true c4
       clear c4
       by_cases c5 : 0 ≤ x14_1
       · rw [if_pos c5] at H
         have c5b0 : decide (0 ≤ x14_1) = true := decide_eq_true c5
         clear c5
         by_cases c6 : x14_1 < (l0.length : Int)
         · rw [if_pos c6] at H
           have c6b0 : decide (x14_1 < (l0.length : Int)) = true := decide_eq_true c6
           clear c6
           by_cases c7 : ((rd_L3 l0 x14_1).length : Int) > 8
           · rw [if_pos c7] at H
             have c7b0 : decide (8 < ((rd_L3 l0 x14_1).length : Int)) = true := decide_eq_true c7
             have c7b1 : decide (8 < (rd_L3 l0 x14_1).length) = true := decide_eq_true (by omega)
             clear c7
             obtain rfl := Option.some.inj H
             have p180 : 0 ≤ (x14_1 : Int) := of_decide_eq_true (by first | (with_reducible assumption) | assumption)
             have q180 : x14_1 < (l0.length : Int) := of_decide_eq_true (by first | (with_reducible assumption) | assumption)
             obtain ⟨ad180, A180_0, c180_0, e180, hx180_0, hl180_0, hi180_0⟩ := at_L3 HR0.out x14_1 p180 q180
             cases e180
             replace hx180_0 := (HB.out.cell (World.block_lt_of_cell? w _ hx180_0)).trans hx180_0
             have HR180_0 := Aside0.mk hi180_0
             have HC180_0 := Aside0.mk hl180_0
             clear hi180_0 hl180_0
             replace p180 := eq_true p180
             replace q180 := eq_true q180
             go_wp2
             go_ret
             exact ⟨by first | rfl | (simp [errW_none, errW_some] <;> rfl) | (simp [*, errW_none, errW_some] <;> rfl), by repeat (first | (with_reducible first | exact HB.out | apply below_alloc | apply pw_below_drewN | apply below_drew1) | exact HB.out)⟩
           rw [if_neg c7] at H
           have c7b0 : decide (8 < ((rd_L3 l0 x14_1).length : Int)) = false := decide_eq_false c7
           have c7b1 : decide (8 < (rd_L3 l0 x14_1).length) = false := decide_eq_false (by omega)
           clear c7
           have H' := Aside0.mk H
           clear H
           have p180 : 0 ≤ (x14_1 : Int) := of_decide_eq_true (by first | (with_reducible assumption) | assumption)
           have q180 : x14_1 < (l0.length : Int) := of_decide_eq_true (by first | (with_reducible assumption) | assumption)
           obtain ⟨ad180, A180_0, c180_0, e180, hx180_0, hl180_0, hi180_0⟩ := at_L3 HR0.out x14_1 p180 q180
           cases e180
           replace hx180_0 := (HB.out.cell (World.block_lt_of_cell? w _ hx180_0)).trans hx180_0
           have HR180_0 := Aside0.mk hi180_0
           have HC180_0 := Aside0.mk hl180_0
           clear hi180_0 hl180_0
           replace p180 := eq_true p180
           replace q180 := eq_true q180
           go_wp2
           go_loopg [23] k1 (fun kq v23 w' => ∃ (x23_2 : Int), v23 = .int .i64 x23_2 ∧ Aside0 (impl_ScriptsOk.l1 kq l0 l0 (l0.length : Int) x14_1 (rd_L3 l0 x14_1) ((rd_L3 l0 x14_1).length : Int) x23_2 = some r) ∧ Aside0 (kq ≤ k1) ∧ Aside0 (Below w.heap.size w w'))
           case atStart => exact ⟨(0), (by first | rfl | (simp; done) | (simp [*]; done)), H', ⟨Nat.le_refl _⟩, ⟨by repeat (first | (with_reducible first | exact HB.out | apply below_alloc | apply pw_below_drewN | apply below_drew1) | exact HB.out)⟩⟩
           case round =>
            clear H'
            try clear c1
            try clear p1
            try clear q1
            try clear hx1
            try clear p2
            try clear c3
            try clear c4
            try clear c4b0
            try clear c5
            try clear c5b0
            try clear c6
            try clear c6b0
            try clear c7
            try clear c7b0
            try clear c7b1
            try clear hx180_0
            try clear p180
            try clear p2
            try clear q180
            obtain ⟨x23_2, rfl, HA, HK2, HB⟩ := hrel
            cases gk with
            | zero => exact absurd HA.out (by simp [impl_ScriptsOk.l1])
            | succ k2 =>
             have H := HA.out
             clear HA
             simp only [impl_ScriptsOk.l1] at H
             by_cases c8 : x23_2 < ((rd_L3 l0 x14_1).length : Int)
             · rw [if_pos c8] at H
               have c8b0 : decide (x23_2 < ((rd_L3 l0 x14_1).length : Int)) = true := decide_eq_true c8
               clear c8
               by_cases c9 : 0 ≤ x23_2
               · rw [if_pos c9] at H
                 have c9b0 : decide (0 ≤ x23_2) = true := decide_eq_true c9
                 clear c9
                 by_cases c10 : x23_2 < ((rd_L3 l0 x14_1).length : Int)
                 · rw [if_pos c10] at H
                   have c10b0 : decide (x23_2 < ((rd_L3 l0 x14_1).length : Int)) = true := decide_eq_true c10
                   clear c10
                   have HC11 := Aside0.mk H
                   clear H
                   have p181 : 0 ≤ (x23_2 : Int) := of_decide_eq_true (by first | (with_reducible assumption) | assumption)
                   have q181 : x23_2 < ((rd_L3 l0 x14_1).length : Int) := of_decide_eq_true (by first | (with_reducible assumption) | assumption)
                   obtain ⟨ad181, e181, hx181_0, hx181_1⟩ := at_T41 HR180_0.out x23_2 p181 q181
                   cases e181
                   replace hx181_0 := (HB.out.cell (World.block_lt_of_cell? w _ hx181_0)).trans hx181_0
                   replace hx181_1 := (HB.out.cell (World.block_lt_of_cell? w _ hx181_1)).trans hx181_1
                   replace p181 := eq_true p181
                   replace q181 := eq_true q181
                   go_upto_if 29 with (first | ((with_reducible refine gate_dst (N := 6) rfl ?_); refine box_event ?hg (N := 6) ?hd (cs := #[.int .i64 0, .int .i64 0]) (t := 41) ?hr ?_; (case hd => rfl); (case hg => rfl); (case hr => first | (go_simp; done) | (go_simp; rfl)); intro gb182 hg w12 hbox hb; have n0_ := Aside0.mk (below_step (by repeat (first | (with_reducible first | exact HB.out | apply below_alloc | apply pw_below_drewN | apply below_drew1) | exact HB.out)) hb); have n1_ := Aside0.mk (hbox); have n2_ := Aside0.mk ((by rw [hg]; exact (below_size (by repeat (first | (with_reducible first | exact HB.out | apply below_alloc | apply pw_below_drewN | apply below_drew1) | exact HB.out))) : w.heap.size ≤ gb182)); have n3_ := Aside0.mk ((by rw [hg]; exact (below_size (by repeat (first | (with_reducible first | exact HB.out | apply below_alloc | apply pw_below_drewN | apply below_drew1) | exact HB.out))) : w.heap.size ≤ gb182)); clear HB; have HB := n0_; have BK182 := n1_; have GW182 := n2_; have GE182 := n3_; clear n0_ n1_ n2_ n3_; clear hb hbox hg; have hcz13_0 : w12.cell? ⟨gb182, 0, none⟩ = some (.int .i64 0) := (blk_cell BK182.out 0).trans rfl; have hcz13_1 : w12.cell? ⟨gb182, 1, none⟩ = some (.int .i64 0) := (blk_cell BK182.out 1).trans rfl; have hfz13_0 := blk_frozen BK182.out 0; have hfz13_1 := blk_frozen BK182.out 1))
                   (try simp only [Act.put, List.setIfInBounds_toArray, List.set_cons_zero, List.set_cons_succ])
                   go_cut [29] (fun v29 wc => ∃ (kq : Nat) (x29_10 : Bool), v29 = .bool x29_10 ∧ Aside0 (impl_ScriptsOk.j2 kq l0 (-1) l0 (l0.length : Int) x14_1 (rd_L3 l0 x14_1) ((rd_L3 l0 x14_1).length : Int) x23_2 ((rd_T41 (rd_L3 l0 x14_1) x23_2).f0) x29_10 ((rd_T41 (rd_L3 l0 x14_1) x23_2).f0) ((rd_T41 (rd_L3 l0 x14_1) x23_2).f1) = some r) ∧ Aside0 (kq ≤ k2) ∧ Aside0 (wc.heap[gb182]? = some (.cells #[.int .i64 ((rd_T41 (rd_L3 l0 x14_1) x23_2).f0), .int .i64 ((rd_T41 (rd_L3 l0 x14_1) x23_2).f1)] 41 (0, 0))) ∧ Aside0 (Below w.heap.size w wc))
                   case first =>
                    have H := HC11.out
                    clear HC11
                    by_cases c14 : ((rd_T41 (rd_L3 l0 x14_1) x23_2).f0) = 1
                    · rw [if_pos c14] at H
                      have c14b0 : (((rd_T41 (rd_L3 l0 x14_1) x23_2).f0) == 1) = true := beq_iff_eq.mpr c14
                      have c14b1 : (((rd_T41 (rd_L3 l0 x14_1) x23_2).f0) != 1) = false := bne_eq_false_iff_eq.mpr c14
                      clear c14
                      (first | rw [c14b0] | (simp only [i64_w, i32_w]; rw [c14b0]) | skip)
                      have H' := Aside0.mk H
                      clear H
                      go_wp2
                      go_meet
                      case rel => exact ⟨_, ((((rd_T41 (rd_L3 l0 x14_1) x23_2).f0) == 1)), (by first | rfl | (simp; done) | (simp [*]; done)), H', ⟨by have := HK1.out; have := HK2.out; first | omega | exact Nat.le_refl _⟩, ⟨by (with_reducible repeat (first | refine blk_drewN ?_ _ | refine blk_drew ?_ | refine blk_alloc ?_ _)); refine blk_put (cs := #[.int .i64 ((rd_T41 (rd_L3 l0 x14_1) x23_2).f0), .int .i64 0]) ?_ 1 _ rfl; (with_reducible repeat (first | refine blk_drewN ?_ _ | refine blk_drew ?_ | refine blk_alloc ?_ _)); refine blk_put (cs := #[.int .i64 0, .int .i64 0]) ?_ 0 _ rfl; (with_reducible repeat (first | refine blk_drewN ?_ _ | refine blk_drew ?_ | refine blk_alloc ?_ _)); exact BK182.out⟩, ⟨by repeat (first | (with_reducible first | exact HB.out | apply below_alloc | apply pw_below_drewN | apply below_drew1 | refine below_set ?_ GE182.out) | exact HB.out)⟩⟩
                    rw [if_neg c14] at H
                    have c14b0 : (((rd_T41 (rd_L3 l0 x14_1) x23_2).f0) == 1) = false := beq_eq_false_iff_ne.mpr c14
                    have c14b1 : (((rd_T41 (rd_L3 l0 x14_1) x23_2).f0) != 1) = true := bne_iff_ne.mpr c14
                    (first | rw [c14b0] | (simp only [i64_w, i32_w]; rw [c14b0]) | skip)
                    have H' := Aside0.mk H
                    clear H
                    go_wp2
                    go_meet
                    case rel => exact ⟨_, ((((rd_T41 (rd_L3 l0 x14_1) x23_2).f0) == 7)), (by first | rfl | (simp; done) | (simp [*]; done)), H', ⟨by have := HK1.out; have := HK2.out; first | omega | exact Nat.le_refl _⟩, ⟨by (with_reducible repeat (first | refine blk_drewN ?_ _ | refine blk_drew ?_ | refine blk_alloc ?_ _)); refine blk_put (cs := #[.int .i64 ((rd_T41 (rd_L3 l0 x14_1) x23_2).f0), .int .i64 0]) ?_ 1 _ rfl; (with_reducible repeat (first | refine blk_drewN ?_ _ | refine blk_drew ?_ | refine blk_alloc ?_ _)); refine blk_put (cs := #[.int .i64 0, .int .i64 0]) ?_ 0 _ rfl; (with_reducible repeat (first | refine blk_drewN ?_ _ | refine blk_drew ?_ | refine blk_alloc ?_ _)); exact BK182.out⟩, ⟨by repeat (first | (with_reducible first | exact HB.out | apply below_alloc | apply pw_below_drewN | apply below_drew1 | refine below_set ?_ GE182.out) | exact HB.out)⟩⟩
                   case rest =>
                    clear HC11
                    try clear c1
                    try clear p1
                    try clear q1
                    try clear hx1
                    try clear p2
                    try clear c3
                    try clear c4
                    try clear c4b0
                    try clear c5
                    try clear c5b0
                    try clear c6
                    try clear c6b0
                    try clear c7
                    try clear c7b0
                    try clear c7b1
                    try clear c8
                    try clear c8b0
                    try clear c9
                    try clear c9b0
                    try clear c10
                    try clear c10b0
                    try clear c12
                    try clear c14
                    try clear c14b0
                    try clear c14b1
                    try clear hcz13_0
                    try clear hcz13_1
                    try clear hfz13_0
                    try clear hfz13_1
                    try clear hx180_0
                    try clear hx181_0
                    try clear hx181_1
                    try clear p1
                    try clear p180
                    try clear p181
                    try clear p2
                    try clear q1
                    try clear q180
                    try clear q181
                    obtain ⟨kq, x29_10, rfl, HA, HJ10, BK182, HB⟩ := hcut
                    cases kq with
                    | zero => exact absurd HA.out (by simp [impl_ScriptsOk.j2])
                    | succ kj10 =>
                     have H := HA.out
                     clear HA
                     simp only [impl_ScriptsOk.j2] at H
                     by_cases c15 : x29_10 = true
                     · subst c15
                       have H1 : ((impl_within.f ((rd_T41 (rd_L3 l0 x14_1) x23_2).f1) 0 1000000).bind fun t183 => (if t183 = true then (impl_ScriptsOk.l1 kj10 l0 l0 (l0.length : Int) x14_1 (rd_L3 l0 x14_1) ((rd_L3 l0 x14_1).length : Int) (wrap64 (x23_2 + 1))) else (some false))) = some r := by rw [if_pos rfl] at H; exact H
                       clear H
                       have H := H1
                       clear H1
                       replace H := Option.bind_eq_some_iff.mp H
                       obtain ⟨t183, A160, H⟩ := H
                       replace H : (if t183 = true then (impl_ScriptsOk.l1 kj10 l0 l0 (l0.length : Int) x14_1 (rd_L3 l0 x14_1) ((rd_L3 l0 x14_1).length : Int) (wrap64 (x23_2 + 1))) else (some false)) = some r := H
                       have A16 := Aside0.mk A160
                       clear A160
                       by_cases c17 : t183 = true
                       · subst c17
                         have H1 : (impl_ScriptsOk.l1 kj10 l0 l0 (l0.length : Int) x14_1 (rd_L3 l0 x14_1) ((rd_L3 l0 x14_1).length : Int) (wrap64 (x23_2 + 1))) = some r := by rw [if_pos rfl] at H; exact H
                         clear H
                         have H := H1
                         clear H1
                         have H' := Aside0.mk H
                         clear H
                         have hcz18_0 : wc.cell? ⟨gb182, 0, none⟩ = some (.int .i64 ((rd_T41 (rd_L3 l0 x14_1) x23_2).f0)) := (blk_cell BK182.out 0).trans rfl
                         have hcz18_1 : wc.cell? ⟨gb182, 1, none⟩ = some (.int .i64 ((rd_T41 (rd_L3 l0 x14_1) x23_2).f1)) := (blk_cell BK182.out 1).trans rfl
                         have hfz18_0 := blk_frozen BK182.out 0
                         have hfz18_1 := blk_frozen BK182.out 1
                         go_wp2_with (first | ((with_reducible refine gate_callee (f := 12) rfl ?_); refine goesL_ (some 46) rfl rfl Try.func12 (by kernel_rfl) rfl #[.int .i64 ((rd_T41 (rd_L3 l0 x14_1) x23_2).f1), .int .i64 0, .int .i64 1000000] rfl (by (try simp only [List.map_toArray, List.map_cons, List.map_nil]); first | done | rfl | (simp only [List.length_drop, List.length_take]; rfl)) ?_; (with_reducible refine (impl_within.calls ((rd_T41 (rd_L3 l0 x14_1) x23_2).f1) 0 1000000 true _ A16.out).mono ?_); rintro e w' ⟨rfl, ⟨nd, rfl⟩⟩; refine ⟨_, rfl, ?_⟩))
                         go_roundg kj10
                         case measure => have := HK1.out; have := HK2.out; have := HJ10.out; omega
                         case rel => exact ⟨(wrap64 (x23_2 + 1)), (by first | rfl | (simp; done) | (simp [*]; done)), H', ⟨by have := HK1.out; have := HK2.out; have := HJ10.out; omega⟩, ⟨by repeat (first | (with_reducible first | exact HB.out | apply below_alloc | apply pw_below_drewN | apply below_drew1 | refine below_set ?_ GE182.out) | exact HB.out)⟩⟩
                       replace c17 := Bool.eq_false_iff.mpr c17
                       subst c17
                       have H1 : (some false) = some r := by rw [if_neg (show ¬ (false = true) by decide)] at H; exact H
                       clear H
                       have H := H1
                       clear H1
                       obtain rfl := Option.some.inj H
                       have hcz19_0 : wc.cell? ⟨gb182, 0, none⟩ = some (.int .i64 ((rd_T41 (rd_L3 l0 x14_1) x23_2).f0)) := (blk_cell BK182.out 0).trans rfl
                       have hcz19_1 : wc.cell? ⟨gb182, 1, none⟩ = some (.int .i64 ((rd_T41 (rd_L3 l0 x14_1) x23_2).f1)) := (blk_cell BK182.out 1).trans rfl
                       have hfz19_0 := blk_frozen BK182.out 0
                       have hfz19_1 := blk_frozen BK182.out 1
                       go_wp2_with (first | ((with_reducible refine gate_callee (f := 12) rfl ?_); refine goesL_ (some 46) rfl rfl Try.func12 (by kernel_rfl) rfl #[.int .i64 ((rd_T41 (rd_L3 l0 x14_1) x23_2).f1), .int .i64 0, .int .i64 1000000] rfl (by (try simp only [List.map_toArray, List.map_cons, List.map_nil]); first | done | rfl | (simp only [List.length_drop, List.length_take]; rfl)) ?_; (with_reducible refine (impl_within.calls ((rd_T41 (rd_L3 l0 x14_1) x23_2).f1) 0 1000000 false _ A16.out).mono ?_); rintro e w' ⟨rfl, ⟨nd, rfl⟩⟩; refine ⟨_, rfl, ?_⟩))
                       go_ret
                       exact ⟨by first | rfl | (simp [errW_none, errW_some] <;> rfl) | (simp [*, errW_none, errW_some] <;> rfl), by repeat (first | (with_reducible first | exact HB.out | apply below_alloc | apply pw_below_drewN | apply below_drew1 | refine below_set ?_ GE182.out) | exact HB.out)⟩
                     replace c15 := Bool.eq_false_iff.mpr c15
                     subst c15
                     have H1 : (if ((rd_T41 (rd_L3 l0 x14_1) x23_2).f0) = 2 then ((impl_within.f ((rd_T41 (rd_L3 l0 x14_1) x23_2).f1) 0 20).bind fun t184 => (if t184 = true then (impl_ScriptsOk.l1 kj10 l0 l0 (l0.length : Int) x14_1 (rd_L3 l0 x14_1) ((rd_L3 l0 x14_1).length : Int) (wrap64 (x23_2 + 1))) else (some false))) else (if ((rd_T41 (rd_L3 l0 x14_1) x23_2).f0) = 3 then ((impl_within.f ((rd_T41 (rd_L3 l0 x14_1) x23_2).f1) 0 (wrap64 ((l0.length : Int) - 1))).bind fun t185 => (if t185 = true then (impl_ScriptsOk.l1 kj10 l0 l0 (l0.length : Int) x14_1 (rd_L3 l0 x14_1) ((rd_L3 l0 x14_1).length : Int) (wrap64 (x23_2 + 1))) else (some false))) else (if ((rd_T41 (rd_L3 l0 x14_1) x23_2).f0) = 4 then (impl_ScriptsOk.j3 kj10 l0 (-1) l0 (l0.length : Int) x14_1 (rd_L3 l0 x14_1) ((rd_L3 l0 x14_1).length : Int) x23_2 (((rd_T41 (rd_L3 l0 x14_1) x23_2).f0) == 4) ((rd_T41 (rd_L3 l0 x14_1) x23_2).f0) ((rd_T41 (rd_L3 l0 x14_1) x23_2).f1)) else (if ((rd_T41 (rd_L3 l0 x14_1) x23_2).f0) = 5 then (impl_ScriptsOk.j3 kj10 l0 (-1) l0 (l0.length : Int) x14_1 (rd_L3 l0 x14_1) ((rd_L3 l0 x14_1).length : Int) x23_2 (((rd_T41 (rd_L3 l0 x14_1) x23_2).f0) == 5) ((rd_T41 (rd_L3 l0 x14_1) x23_2).f0) ((rd_T41 (rd_L3 l0 x14_1) x23_2).f1)) else (impl_ScriptsOk.j3 kj10 l0 (-1) l0 (l0.length : Int) x14_1 (rd_L3 l0 x14_1) ((rd_L3 l0 x14_1).length : Int) x23_2 (((rd_T41 (rd_L3 l0 x14_1) x23_2).f0) == 6) ((rd_T41 (rd_L3 l0 x14_1) x23_2).f0) ((rd_T41 (rd_L3 l0 x14_1) x23_2).f1)))))) = some r := by rw [if_neg (show ¬ (false = true) by decide)] at H; exact H
                     clear H
                     have H := H1
                     clear H1
                     by_cases c20 : ((rd_T41 (rd_L3 l0 x14_1) x23_2).f0) = 2
                     · rw [if_pos c20] at H
                       have c20b0 : (((rd_T41 (rd_L3 l0 x14_1) x23_2).f0) == 2) = true := beq_iff_eq.mpr c20
                       have c20b1 : (((rd_T41 (rd_L3 l0 x14_1) x23_2).f0) != 2) = false := bne_eq_false_iff_eq.mpr c20
                       clear c20
                       replace H := Option.bind_eq_some_iff.mp H
                       obtain ⟨t184, A210, H⟩ := H
                       replace H : (if t184 = true then (impl_ScriptsOk.l1 kj10 l0 l0 (l0.length : Int) x14_1 (rd_L3 l0 x14_1) ((rd_L3 l0 x14_1).length : Int) (wrap64 (x23_2 + 1))) else (some false)) = some r := H
                       have A21 := Aside0.mk A210
                       clear A210
                       by_cases c22 : t184 = true
                       · subst c22
                         have H1 : (impl_ScriptsOk.l1 kj10 l0 l0 (l0.length : Int) x14_1 (rd_L3 l0 x14_1) ((rd_L3 l0 x14_1).length : Int) (wrap64 (x23_2 + 1))) = some r := by rw [if_pos rfl] at H; exact H
                         clear H
                         have H := H1
                         clear H1
                         have H' := Aside0.mk H
                         clear H
                         have hcz23_0 : wc.cell? ⟨gb182, 0, none⟩ = some (.int .i64 ((rd_T41 (rd_L3 l0 x14_1) x23_2).f0)) := (blk_cell BK182.out 0).trans rfl
                         have hcz23_1 : wc.cell? ⟨gb182, 1, none⟩ = some (.int .i64 ((rd_T41 (rd_L3 l0 x14_1) x23_2).f1)) := (blk_cell BK182.out 1).trans rfl
                         have hfz23_0 := blk_frozen BK182.out 0
                         have hfz23_1 := blk_frozen BK182.out 1
                         go_wp2_with (first | ((with_reducible refine gate_callee (f := 12) rfl ?_); refine goesL_ (some 46) rfl rfl Try.func12 (by kernel_rfl) rfl #[.int .i64 ((rd_T41 (rd_L3 l0 x14_1) x23_2).f1), .int .i64 0, .int .i64 20] rfl (by (try simp only [List.map_toArray, List.map_cons, List.map_nil]); first | done | rfl | (simp only [List.length_drop, List.length_take]; rfl)) ?_; (with_reducible refine (impl_within.calls ((rd_T41 (rd_L3 l0 x14_1) x23_2).f1) 0 20 true _ A21.out).mono ?_); rintro e w' ⟨rfl, ⟨nd, rfl⟩⟩; refine ⟨_, rfl, ?_⟩))
                         go_roundg kj10
                         case measure => have := HK1.out; have := HK2.out; have := HJ10.out; omega
                         case rel => exact ⟨(wrap64 (x23_2 + 1)), (by first | rfl | (simp; done) | (simp [*]; done)), H', ⟨by have := HK1.out; have := HK2.out; have := HJ10.out; omega⟩, ⟨by repeat (first | (with_reducible first | exact HB.out | apply below_alloc | apply pw_below_drewN | apply below_drew1 | refine below_set ?_ GE182.out) | exact HB.out)⟩⟩
                       replace c22 := Bool.eq_false_iff.mpr c22
                       subst c22
                       have H1 : (some false) = some r := by rw [if_neg (show ¬ (false = true) by decide)] at H; exact H
                       clear H
                       have H := H1
                       clear H1
                       obtain rfl := Option.some.inj H
                       have hcz24_0 : wc.cell? ⟨gb182, 0, none⟩ = some (.int .i64 ((rd_T41 (rd_L3 l0 x14_1) x23_2).f0)) := (blk_cell BK182.out 0).trans rfl
                       have hcz24_1 : wc.cell? ⟨gb182, 1, none⟩ = some (.int .i64 ((rd_T41 (rd_L3 l0 x14_1) x23_2).f1)) := (blk_cell BK182.out 1).trans rfl
                       have hfz24_0 := blk_frozen BK182.out 0
                       have hfz24_1 := blk_frozen BK182.out 1
                       go_wp2_with (first | ((with_reducible refine gate_callee (f := 12) rfl ?_); refine goesL_ (some 46) rfl rfl Try.func12 (by kernel_rfl) rfl #[.int .i64 ((rd_T41 (rd_L3 l0 x14_1) x23_2).f1), .int .i64 0, .int .i64 20] rfl (by (try simp only [List.map_toArray, List.map_cons, List.map_nil]); first | done | rfl | (simp only [List.length_drop, List.length_take]; rfl)) ?_; (with_reducible refine (impl_within.calls ((rd_T41 (rd_L3 l0 x14_1) x23_2).f1) 0 20 false _ A21.out).mono ?_); rintro e w' ⟨rfl, ⟨nd, rfl⟩⟩; refine ⟨_, rfl, ?_⟩))
                       go_ret
                       exact ⟨by first | rfl | (simp [errW_none, errW_some] <;> rfl) | (simp [*, errW_none, errW_some] <;> rfl), by repeat (first | (with_reducible first | exact HB.out | apply below_alloc | apply pw_below_drewN | apply below_drew1 | refine below_set ?_ GE182.out) | exact HB.out)⟩
                     rw [if_neg c20] at H
                     have c20b0 : (((rd_T41 (rd_L3 l0 x14_1) x23_2).f0) == 2) = false := beq_eq_false_iff_ne.mpr c20
                     have c20b1 : (((rd_T41 (rd_L3 l0 x14_1) x23_2).f0) != 2) = true := bne_iff_ne.mpr c20
                     by_cases c25 : ((rd_T41 (rd_L3 l0 x14_1) x23_2).f0) = 3
                     · rw [if_pos c25] at H
                       have c25b0 : (((rd_T41 (rd_L3 l0 x14_1) x23_2).f0) == 3) = true := beq_iff_eq.mpr c25
                       have c25b1 : (((rd_T41 (rd_L3 l0 x14_1) x23_2).f0) != 3) = false := bne_eq_false_iff_eq.mpr c25
                       clear c25
                       replace H := Option.bind_eq_some_iff.mp H
                       obtain ⟨t185, A260, H⟩ := H
                       replace H : (if t185 = true then (impl_ScriptsOk.l1 kj10 l0 l0 (l0.length : Int) x14_1 (rd_L3 l0 x14_1) ((rd_L3 l0 x14_1).length : Int) (wrap64 (x23_2 + 1))) else (some false)) = some r := H
                       have A26 := Aside0.mk A260
                       clear A260
                       by_cases c27 : t185 = true
                       · subst c27
                         have H1 : (impl_ScriptsOk.l1 kj10 l0 l0 (l0.length : Int) x14_1 (rd_L3 l0 x14_1) ((rd_L3 l0 x14_1).length : Int) (wrap64 (x23_2 + 1))) = some r := by rw [if_pos rfl] at H; exact H
                         clear H
                         have H := H1
                         clear H1
                         have H' := Aside0.mk H
                         clear H
                         have hcz28_0 : wc.cell? ⟨gb182, 0, none⟩ = some (.int .i64 ((rd_T41 (rd_L3 l0 x14_1) x23_2).f0)) := (blk_cell BK182.out 0).trans rfl
                         have hcz28_1 : wc.cell? ⟨gb182, 1, none⟩ = some (.int .i64 ((rd_T41 (rd_L3 l0 x14_1) x23_2).f1)) := (blk_cell BK182.out 1).trans rfl
                         have hfz28_0 := blk_frozen BK182.out 0
                         have hfz28_1 := blk_frozen BK182.out 1
                         go_wp2_with (first | ((with_reducible refine gate_callee (f := 12) rfl ?_); refine goesL_ (some 46) rfl rfl Try.func12 (by kernel_rfl) rfl #[.int .i64 ((rd_T41 (rd_L3 l0 x14_1) x23_2).f1), .int .i64 0, .int .i64 (wrap64 ((l0.length : Int) - 1))] rfl (by (try simp only [List.map_toArray, List.map_cons, List.map_nil]); first | done | rfl | (simp only [List.length_drop, List.length_take]; rfl)) ?_; (with_reducible refine (impl_within.calls ((rd_T41 (rd_L3 l0 x14_1) x23_2).f1) 0 (wrap64 ((l0.length : Int) - 1)) true _ A26.out).mono ?_); rintro e w' ⟨rfl, ⟨nd, rfl⟩⟩; refine ⟨_, rfl, ?_⟩))
                         go_roundg kj10
                         case measure => have := HK1.out; have := HK2.out; have := HJ10.out; omega
                         case rel => exact ⟨(wrap64 (x23_2 + 1)), (by first | rfl | (simp; done) | (simp [*]; done)), H', ⟨by have := HK1.out; have := HK2.out; have := HJ10.out; omega⟩, ⟨by repeat (first | (with_reducible first | exact HB.out | apply below_alloc | apply pw_below_drewN | apply below_drew1 | refine below_set ?_ GE182.out) | exact HB.out)⟩⟩
                       replace c27 := Bool.eq_false_iff.mpr c27
                       subst c27
                       have H1 : (some false) = some r := by rw [if_neg (show ¬ (false = true) by decide)] at H; exact H
                       clear H
                       have H := H1
                       clear H1
                       obtain rfl := Option.some.inj H
                       have hcz29_0 : wc.cell? ⟨gb182, 0, none⟩ = some (.int .i64 ((rd_T41 (rd_L3 l0 x14_1) x23_2).f0)) := (blk_cell BK182.out 0).trans rfl
                       have hcz29_1 : wc.cell? ⟨gb182, 1, none⟩ = some (.int .i64 ((rd_T41 (rd_L3 l0 x14_1) x23_2).f1)) := (blk_cell BK182.out 1).trans rfl
                       have hfz29_0 := blk_frozen BK182.out 0
                       have hfz29_1 := blk_frozen BK182.out 1
                       go_wp2_with (first | ((with_reducible refine gate_callee (f := 12) rfl ?_); refine goesL_ (some 46) rfl rfl Try.func12 (by kernel_rfl) rfl #[.int .i64 ((rd_T41 (rd_L3 l0 x14_1) x23_2).f1), .int .i64 0, .int .i64 (wrap64 ((l0.length : Int) - 1))] rfl (by (try simp only [List.map_toArray, List.map_cons, List.map_nil]); first | done | rfl | (simp only [List.length_drop, List.length_take]; rfl)) ?_; (with_reducible refine (impl_within.calls ((rd_T41 (rd_L3 l0 x14_1) x23_2).f1) 0 (wrap64 ((l0.length : Int) - 1)) false _ A26.out).mono ?_); rintro e w' ⟨rfl, ⟨nd, rfl⟩⟩; refine ⟨_, rfl, ?_⟩))
                       go_ret
                       exact ⟨by first | rfl | (simp [errW_none, errW_some] <;> rfl) | (simp [*, errW_none, errW_some] <;> rfl), by repeat (first | (with_reducible first | exact HB.out | apply below_alloc | apply pw_below_drewN | apply below_drew1 | refine below_set ?_ GE182.out) | exact HB.out)⟩
                     rw [if_neg c25] at H
                     have c25b0 : (((rd_T41 (rd_L3 l0 x14_1) x23_2).f0) == 3) = false := beq_eq_false_iff_ne.mpr c25
                     have c25b1 : (((rd_T41 (rd_L3 l0 x14_1) x23_2).f0) != 3) = true := bne_iff_ne.mpr c25
                     have HC30 := Aside0.mk H
                     clear H
                     go_upto_if 39 with (fail)
                     go_cut [39] (fun v39 wc => ∃ (kq : Nat) (x39_29 : Bool), v39 = .bool x39_29 ∧ Aside0 (impl_ScriptsOk.j3 kq l0 (-1) l0 (l0.length : Int) x14_1 (rd_L3 l0 x14_1) ((rd_L3 l0 x14_1).length : Int) x23_2 x39_29 ((rd_T41 (rd_L3 l0 x14_1) x23_2).f0) ((rd_T41 (rd_L3 l0 x14_1) x23_2).f1) = some r) ∧ Aside0 (kq ≤ kj10) ∧ Aside0 (wc.heap[gb182]? = some (.cells #[.int .i64 ((rd_T41 (rd_L3 l0 x14_1) x23_2).f0), .int .i64 ((rd_T41 (rd_L3 l0 x14_1) x23_2).f1)] 41 (0, 0))) ∧ Aside0 (Below w.heap.size w wc))
                     case first =>
                      have H := HC30.out
                      clear HC30
                      by_cases c31 : ((rd_T41 (rd_L3 l0 x14_1) x23_2).f0) = 4
                      · rw [if_pos c31] at H
                        have c31b0 : (((rd_T41 (rd_L3 l0 x14_1) x23_2).f0) == 4) = true := beq_iff_eq.mpr c31
                        have c31b1 : (((rd_T41 (rd_L3 l0 x14_1) x23_2).f0) != 4) = false := bne_eq_false_iff_eq.mpr c31
                        clear c31
                        (first | rw [c31b0] | (simp only [i64_w, i32_w]; rw [c31b0]) | skip)
                        have H' := Aside0.mk H
                        clear H
                        go_wp2
                        go_meet
                        case rel => exact ⟨_, ((((rd_T41 (rd_L3 l0 x14_1) x23_2).f0) == 4)), (by first | rfl | (simp; done) | (simp [*]; done)), H', ⟨by have := HK1.out; have := HK2.out; have := HJ10.out; first | omega | exact Nat.le_refl _⟩, ⟨by (with_reducible repeat (first | refine blk_drewN ?_ _ | refine blk_drew ?_ | refine blk_alloc ?_ _)); exact BK182.out⟩, ⟨by repeat (first | (with_reducible first | exact HB.out | apply below_alloc | apply pw_below_drewN | apply below_drew1 | refine below_set ?_ GE182.out) | exact HB.out)⟩⟩
                      rw [if_neg c31] at H
                      have c31b0 : (((rd_T41 (rd_L3 l0 x14_1) x23_2).f0) == 4) = false := beq_eq_false_iff_ne.mpr c31
                      have c31b1 : (((rd_T41 (rd_L3 l0 x14_1) x23_2).f0) != 4) = true := bne_iff_ne.mpr c31
                      (first | rw [c31b0] | (simp only [i64_w, i32_w]; rw [c31b0]) | skip)
                      by_cases c32 : ((rd_T41 (rd_L3 l0 x14_1) x23_2).f0) = 5
                      · rw [if_pos c32] at H
                        have c32b0 : (((rd_T41 (rd_L3 l0 x14_1) x23_2).f0) == 5) = true := beq_iff_eq.mpr c32
                        have c32b1 : (((rd_T41 (rd_L3 l0 x14_1) x23_2).f0) != 5) = false := bne_eq_false_iff_eq.mpr c32
                        clear c32
                        have H' := Aside0.mk H
                        clear H
                        go_wp2
                        go_meet
                        case rel => exact ⟨_, ((((rd_T41 (rd_L3 l0 x14_1) x23_2).f0) == 5)), (by first | rfl | (simp; done) | (simp [*]; done)), H', ⟨by have := HK1.out; have := HK2.out; have := HJ10.out; first | omega | exact Nat.le_refl _⟩, ⟨by (with_reducible repeat (first | refine blk_drewN ?_ _ | refine blk_drew ?_ | refine blk_alloc ?_ _)); exact BK182.out⟩, ⟨by repeat (first | (with_reducible first | exact HB.out | apply below_alloc | apply pw_below_drewN | apply below_drew1 | refine below_set ?_ GE182.out) | exact HB.out)⟩⟩
                      rw [if_neg c32] at H
                      have c32b0 : (((rd_T41 (rd_L3 l0 x14_1) x23_2).f0) == 5) = false := beq_eq_false_iff_ne.mpr c32
                      have c32b1 : (((rd_T41 (rd_L3 l0 x14_1) x23_2).f0) != 5) = true := bne_iff_ne.mpr c32
                      have H' := Aside0.mk H
                      clear H
                      go_wp2
                      go_meet
                      case rel => exact ⟨_, ((((rd_T41 (rd_L3 l0 x14_1) x23_2).f0) == 6)), (by first | rfl | (simp; done) | (simp [*]; done)), H', ⟨by have := HK1.out; have := HK2.out; have := HJ10.out; first | omega | exact Nat.le_refl _⟩, ⟨by (with_reducible repeat (first | refine blk_drewN ?_ _ | refine blk_drew ?_ | refine blk_alloc ?_ _)); exact BK182.out⟩, ⟨by repeat (first | (with_reducible first | exact HB.out | apply below_alloc | apply pw_below_drewN | apply below_drew1 | refine below_set ?_ GE182.out) | exact HB.out)⟩⟩
                     case rest =>
                      clear HC30
                      try clear c1
                      try clear p1
                      try clear q1
                      try clear hx1
                      try clear c2
                      try clear p2
                      try clear c3
                      try clear c4
                      try clear c4b0
                      try clear c5
                      try clear c5b0
                      try clear c6
                      try clear c6b0
                      try clear p6
                      try clear c7
                      try clear c7b0
                      try clear c7b1
                      try clear c8
                      try clear c8b0
                      try clear c9
                      try clear c9b0
                      try clear c10
                      try clear c10b0
                      try clear c12
                      try clear c14
                      try clear c14b0
                      try clear c14b1
                      try clear c15
                      try clear c17
                      try clear c18
                      try clear p18
                      try clear q18
                      try clear hx18
                      try clear c20
                      try clear c20b0
                      try clear c20b1
                      try clear c22
                      try clear c25
                      try clear c25b0
                      try clear c25b1
                      try clear c27
                      try clear c31
                      try clear c31b0
                      try clear c31b1
                      try clear c32
                      try clear c32b0
                      try clear c32b1
                      try clear hcz13_0
                      try clear hcz13_1
                      try clear hcz18_0
                      try clear hcz18_1
                      try clear hcz19_0
                      try clear hcz19_1
                      try clear hcz23_0
                      try clear hcz23_1
                      try clear hcz24_0
                      try clear hcz24_1
                      try clear hcz28_0
                      try clear hcz28_1
                      try clear hcz29_0
                      try clear hcz29_1
                      try clear hfz13_0
                      try clear hfz13_1
                      try clear hfz18_0
                      try clear hfz18_1
                      try clear hfz19_0
                      try clear hfz19_1
                      try clear hfz23_0
                      try clear hfz23_1
                      try clear hfz24_0
                      try clear hfz24_1
                      try clear hfz28_0
                      try clear hfz28_1
                      try clear hfz29_0
                      try clear hfz29_1
                      try clear hx180_0
                      try clear hx181_0
                      try clear hx181_1
                      try clear p1
                      try clear p180
                      try clear p181
                      try clear p2
                      try clear q1
                      try clear q180
                      try clear q181
                      obtain ⟨kq, x39_29, rfl, HA, HJ29, BK182, HB⟩ := hcut
                      cases kq with
                      | zero => exact absurd HA.out (by simp [impl_ScriptsOk.j3])
                      | succ kj29 =>
                       have H := HA.out
                       clear HA
                       simp only [impl_ScriptsOk.j3] at H
                       by_cases c33 : x39_29 = true
                       · subst c33
                         have H1 : ((impl_within.f ((rd_T41 (rd_L3 l0 x14_1) x23_2).f1) 0 7).bind fun t186 => (if t186 = true then (impl_ScriptsOk.l1 kj29 l0 l0 (l0.length : Int) x14_1 (rd_L3 l0 x14_1) ((rd_L3 l0 x14_1).length : Int) (wrap64 (x23_2 + 1))) else (some false))) = some r := by rw [if_pos rfl] at H; exact H
                         clear H
                         have H := H1
                         clear H1
                         replace H := Option.bind_eq_some_iff.mp H
                         obtain ⟨t186, A340, H⟩ := H
                         replace H : (if t186 = true then (impl_ScriptsOk.l1 kj29 l0 l0 (l0.length : Int) x14_1 (rd_L3 l0 x14_1) ((rd_L3 l0 x14_1).length : Int) (wrap64 (x23_2 + 1))) else (some false)) = some r := H
                         have A34 := Aside0.mk A340
                         clear A340
                         by_cases c35 : t186 = true
                         · subst c35
                           have H1 : (impl_ScriptsOk.l1 kj29 l0 l0 (l0.length : Int) x14_1 (rd_L3 l0 x14_1) ((rd_L3 l0 x14_1).length : Int) (wrap64 (x23_2 + 1))) = some r := by rw [if_pos rfl] at H; exact H
                           clear H
                           have H := H1
                           clear H1
                           have H' := Aside0.mk H
                           clear H
                           have hcz36_0 : wc.cell? ⟨gb182, 0, none⟩ = some (.int .i64 ((rd_T41 (rd_L3 l0 x14_1) x23_2).f0)) := (blk_cell BK182.out 0).trans rfl
                           have hcz36_1 : wc.cell? ⟨gb182, 1, none⟩ = some (.int .i64 ((rd_T41 (rd_L3 l0 x14_1) x23_2).f1)) := (blk_cell BK182.out 1).trans rfl
                           have hfz36_0 := blk_frozen BK182.out 0
                           have hfz36_1 := blk_frozen BK182.out 1
                           go_wp2_with (first | ((with_reducible refine gate_callee (f := 12) rfl ?_); refine goesL_ (some 46) rfl rfl Try.func12 (by kernel_rfl) rfl #[.int .i64 ((rd_T41 (rd_L3 l0 x14_1) x23_2).f1), .int .i64 0, .int .i64 7] rfl (by (try simp only [List.map_toArray, List.map_cons, List.map_nil]); first | done | rfl | (simp only [List.length_drop, List.length_take]; rfl)) ?_; (with_reducible refine (impl_within.calls ((rd_T41 (rd_L3 l0 x14_1) x23_2).f1) 0 7 true _ A34.out).mono ?_); rintro e w' ⟨rfl, ⟨nd, rfl⟩⟩; refine ⟨_, rfl, ?_⟩))
                           go_roundg kj29
                           case measure => have := HK1.out; have := HK2.out; have := HJ10.out; have := HJ29.out; omega
                           case rel => exact ⟨(wrap64 (x23_2 + 1)), (by first | rfl | (simp; done) | (simp [*]; done)), H', ⟨by have := HK1.out; have := HK2.out; have := HJ10.out; have := HJ29.out; omega⟩, ⟨by repeat (first | (with_reducible first | exact HB.out | apply below_alloc | apply pw_below_drewN | apply below_drew1 | refine below_set ?_ GE182.out) | exact HB.out)⟩⟩
                         replace c35 := Bool.eq_false_iff.mpr c35
                         subst c35
                         have H1 : (some false) = some r := by rw [if_neg (show ¬ (false = true) by decide)] at H; exact H
                         clear H
                         have H := H1
                         clear H1
                         obtain rfl := Option.some.inj H
                         have hcz37_0 : wc.cell? ⟨gb182, 0, none⟩ = some (.int .i64 ((rd_T41 (rd_L3 l0 x14_1) x23_2).f0)) := (blk_cell BK182.out 0).trans rfl
                         have hcz37_1 : wc.cell? ⟨gb182, 1, none⟩ = some (.int .i64 ((rd_T41 (rd_L3 l0 x14_1) x23_2).f1)) := (blk_cell BK182.out 1).trans rfl
                         have hfz37_0 := blk_frozen BK182.out 0
                         have hfz37_1 := blk_frozen BK182.out 1
                         go_wp2_with (first | ((with_reducible refine gate_callee (f := 12) rfl ?_); refine goesL_ (some 46) rfl rfl Try.func12 (by kernel_rfl) rfl #[.int .i64 ((rd_T41 (rd_L3 l0 x14_1) x23_2).f1), .int .i64 0, .int .i64 7] rfl (by (try simp only [List.map_toArray, List.map_cons, List.map_nil]); first | done | rfl | (simp only [List.length_drop, List.length_take]; rfl)) ?_; (with_reducible refine (impl_within.calls ((rd_T41 (rd_L3 l0 x14_1) x23_2).f1) 0 7 false _ A34.out).mono ?_); rintro e w' ⟨rfl, ⟨nd, rfl⟩⟩; refine ⟨_, rfl, ?_⟩))
                         go_ret
                         exact ⟨by first | rfl | (simp [errW_none, errW_some] <;> rfl) | (simp [*, errW_none, errW_some] <;> rfl), by repeat (first | (with_reducible first | exact HB.out | apply below_alloc | apply pw_below_drewN | apply below_drew1 | refine below_set ?_ GE182.out) | exact HB.out)⟩
                       replace c33 := Bool.eq_false_iff.mpr c33
                       subst c33
                       have H1 : ((impl_within.f ((rd_T41 (rd_L3 l0 x14_1) x23_2).f1) 0 (-1)).bind fun t187 => (if t187 = true then (impl_ScriptsOk.l1 kj29 l0 l0 (l0.length : Int) x14_1 (rd_L3 l0 x14_1) ((rd_L3 l0 x14_1).length : Int) (wrap64 (x23_2 + 1))) else (some false))) = some r := by rw [if_neg (show ¬ (false = true) by decide)] at H; exact H
                       clear H
                       have H := H1
                       clear H1
                       replace H := Option.bind_eq_some_iff.mp H
                       obtain ⟨t187, A380, H⟩ := H
                       replace H : (if t187 = true then (impl_ScriptsOk.l1 kj29 l0 l0 (l0.length : Int) x14_1 (rd_L3 l0 x14_1) ((rd_L3 l0 x14_1).length : Int) (wrap64 (x23_2 + 1))) else (some false)) = some r := H
                       have A38 := Aside0.mk A380
                       clear A380
                       by_cases c39 : t187 = true
                       · subst c39
                         have H1 : (impl_ScriptsOk.l1 kj29 l0 l0 (l0.length : Int) x14_1 (rd_L3 l0 x14_1) ((rd_L3 l0 x14_1).length : Int) (wrap64 (x23_2 + 1))) = some r := by rw [if_pos rfl] at H; exact H
                         clear H
                         have H := H1
                         clear H1
                         have H' := Aside0.mk H
                         clear H
                         have hcz40_0 : wc.cell? ⟨gb182, 0, none⟩ = some (.int .i64 ((rd_T41 (rd_L3 l0 x14_1) x23_2).f0)) := (blk_cell BK182.out 0).trans rfl
                         have hcz40_1 : wc.cell? ⟨gb182, 1, none⟩ = some (.int .i64 ((rd_T41 (rd_L3 l0 x14_1) x23_2).f1)) := (blk_cell BK182.out 1).trans rfl
                         have hfz40_0 := blk_frozen BK182.out 0
                         have hfz40_1 := blk_frozen BK182.out 1
                         go_wp2_with (first | ((with_reducible refine gate_callee (f := 12) rfl ?_); refine goesL_ (some 46) rfl rfl Try.func12 (by kernel_rfl) rfl #[.int .i64 ((rd_T41 (rd_L3 l0 x14_1) x23_2).f1), .int .i64 0, .int .i64 (-1)] rfl (by (try simp only [List.map_toArray, List.map_cons, List.map_nil]); first | done | rfl | (simp only [List.length_drop, List.length_take]; rfl)) ?_; (with_reducible refine (impl_within.calls ((rd_T41 (rd_L3 l0 x14_1) x23_2).f1) 0 (-1) true _ A38.out).mono ?_); rintro e w' ⟨rfl, ⟨nd, rfl⟩⟩; refine ⟨_, rfl, ?_⟩))
                         go_roundg kj29
                         case measure => have := HK1.out; have := HK2.out; have := HJ10.out; have := HJ29.out; omega
                         case rel => exact ⟨(wrap64 (x23_2 + 1)), (by first | rfl | (simp; done) | (simp [*]; done)), H', ⟨by have := HK1.out; have := HK2.out; have := HJ10.out; have := HJ29.out; omega⟩, ⟨by repeat (first | (with_reducible first | exact HB.out | apply below_alloc | apply pw_below_drewN | apply below_drew1 | refine below_set ?_ GE182.out) | exact HB.out)⟩⟩
                       replace c39 := Bool.eq_false_iff.mpr c39
                       subst c39
                       have H1 : (some false) = some r := by rw [if_neg (show ¬ (false = true) by decide)] at H; exact H
                       clear H
                       have H := H1
                       clear H1
                       obtain rfl := Option.some.inj H
                       have hcz41_0 : wc.cell? ⟨gb182, 0, none⟩ = some (.int .i64 ((rd_T41 (rd_L3 l0 x14_1) x23_2).f0)) := (blk_cell BK182.out 0).trans rfl
                       have hcz41_1 : wc.cell? ⟨gb182, 1, none⟩ = some (.int .i64 ((rd_T41 (rd_L3 l0 x14_1) x23_2).f1)) := (blk_cell BK182.out 1).trans rfl
                       have hfz41_0 := blk_frozen BK182.out 0
                       have hfz41_1 := blk_frozen BK182.out 1
                       go_wp2_with (first | ((with_reducible refine gate_callee (f := 12) rfl ?_); refine goesL_ (some 46) rfl rfl Try.func12 (by kernel_rfl) rfl #[.int .i64 ((rd_T41 (rd_L3 l0 x14_1) x23_2).f1), .int .i64 0, .int .i64 (-1)] rfl (by (try simp only [List.map_toArray, List.map_cons, List.map_nil]); first | done | rfl | (simp only [List.length_drop, List.length_take]; rfl)) ?_; (with_reducible refine (impl_within.calls ((rd_T41 (rd_L3 l0 x14_1) x23_2).f1) 0 (-1) false _ A38.out).mono ?_); rintro e w' ⟨rfl, ⟨nd, rfl⟩⟩; refine ⟨_, rfl, ?_⟩))
                       go_ret
                       exact ⟨by first | rfl | (simp [errW_none, errW_some] <;> rfl) | (simp [*, errW_none, errW_some] <;> rfl), by repeat (first | (with_reducible first | exact HB.out | apply below_alloc | apply pw_below_drewN | apply below_drew1 | refine below_set ?_ GE182.out) | exact HB.out)⟩
                 rw [if_neg c10] at H
                 exact absurd H (by simp)
               rw [if_neg c9] at H
               exact absurd H (by simp)
             rw [if_neg c8] at H
             have c8b0 : decide (x23_2 < ((rd_L3 l0 x14_1).length : Int)) = false := decide_eq_false c8
             clear c8
             have H' := Aside0.mk H
             clear H
             go_wp2
             go_roundg k2
             case measure => have := HK1.out; have := HK2.out; omega
             case rel => exact ⟨(wrap64 (x14_1 + 1)), (by first | rfl | (simp; done) | (simp [*]; done)), H', ⟨by have := HK1.out; have := HK2.out; omega⟩, ⟨by repeat (first | (with_reducible first | exact HB.out | apply below_alloc | apply pw_below_drewN | apply below_drew1) | exact HB.out)⟩⟩
         rw [if_neg c6] at H
         exact absurd H (by simp)
       rw [if_neg c5] at H
       exact absurd H (by simp)
     rw [if_neg c4] at H
     have c4b0 : decide (x14_1 < (l0.length : Int)) = false := decide_eq_false c4
     clear c4
     obtain rfl := Option.some.inj H
     go_wp2
     go_ret
     exact ⟨by first | rfl | (simp [errW_none, errW_some] <;> rfl) | (simp [*, errW_none, errW_some] <;> rfl), by repeat (first | (with_reducible first | exact HB.out | apply below_alloc | apply pw_below_drewN | apply below_drew1) | exact HB.out)⟩
 replace c3 := Bool.eq_false_iff.mpr c3
 subst c3
 have H1 : (some false) = some r := by rw [if_neg (show ¬ (false = true) by decide)] at H; exact H
 clear H
 have H := H1
 clear H1
 obtain rfl := Option.some.inj H
 go_enter Try.func5, Try.ntmps5
 go_wp2_with (first | ((with_reducible refine gate_callee (f := 12) rfl ?_); refine goesL_ (some 10) rfl rfl Try.func12 (by kernel_rfl) rfl #[.int .i64 (l0.length : Int), .int .i64 1, .int .i64 4] rfl (by (try simp only [List.map_toArray, List.map_cons, List.map_nil]); first | done | rfl | (simp only [List.length_drop, List.length_take]; rfl)) ?_; (with_reducible refine (impl_within.calls (l0.length : Int) 1 4 false _ A2.out).mono ?_); rintro e w' ⟨rfl, ⟨nd, rfl⟩⟩; refine ⟨_, rfl, ?_⟩))
 go_ret
 exact ⟨by first | rfl | (simp [errW_none, errW_some] <;> rfl) | (simp [*, errW_none, errW_some] <;> rfl), by repeat (first | (with_reducible first | exact HB.out | apply below_alloc | apply pw_below_drewN | apply below_drew1) | exact HB.out)⟩

/-! ### spec_inRange: function 22 -/
def spec_inRange.f (a0 : Int) (a1 : Int) (a2 : Int) : Option (Bool) := if a0 ≥ a1 then (some (decide (a0 ≤ a2))) else (some false)
set_option maxHeartbeats 8000000 in
set_option maxRecDepth 100000 in
theorem spec_inRange.calls (a0 : Int) (a1 : Int) (a2 : Int) (r : Bool) (w : World) (h : spec_inRange.f a0 a1 a2 = some r) :
 Calls Try.prog 22 #[.int .i64 a0, .int .i64 a1, .int .i64 a2] w fun e w' => e = .returned (.bool r) ∧ Drawn0 w w' := by
 have H : (if a0 ≥ a1 then (some (decide (a0 ≤ a2))) else (some false)) = some r := h
 clear h
 by_cases c4 : a0 ≥ a1
 · rw [if_pos c4] at H
   have c4b0 : decide (a1 ≤ a0) = true := decide_eq_true c4
   clear c4
   obtain rfl := Option.some.inj H
   go_enter Try.func22, Try.ntmps22
   go_wp2
   go_ret
   exact ⟨by first | rfl | (simp; done) | (simp [*]; done), by repeat (first | exact Drawn0.refl _ | apply Drawn0.step)⟩
 rw [if_neg c4] at H
 have c4b0 : decide (a1 ≤ a0) = false := decide_eq_false c4
 clear c4
 obtain rfl := Option.some.inj H
 go_enter Try.func22, Try.ntmps22
 go_wp2
 go_ret
 exact ⟨by first | rfl | (simp; done) | (simp [*]; done), by repeat (first | exact Drawn0.refl _ | apply Drawn0.step)⟩

end Go.Proofs.Ytaaonmlbkljgjaa.P
