/- Contracts of the Go functions that the seat's laws reach, one after the other: the machine's call comes to what the plain Lean function beside it says; no conditions but those that each contract names. Laid by this session's program wip/pp.py, which drives the kit's printer. -/
import Derived.Test.YtihcollncjcpgaaPx0
import Derived.Test.YtihcollncjcpgaaPx2
import Derived.Test.YtihcollncjcpgaaPx8
import Derived.Test.YtihcollncjcpgaaPx9
import Derived.Test.YtihcollncjcpgaaPx10
namespace Go.Proofs.Ytihcollncjcpgaa.P
open Go.RowKit Go.Proofs.YtihcollncjcpgaaW.PrintWords Go.Proofs.YtihcollncjcpgaaW.PrintLast Go.Proofs.YtihcollncjcpgaaW.PrintMore
attribute [local go_sem] max2_int min2_int max_two min_two max_three min_three max_four min_four   -- for this text's walks alone
set_option linter.unusedVariables false
set_option linter.unusedSimpArgs false
abbrev M11_5_1f : Array Bool := bN_ 5 31
abbrev M11_5_2 : Array Bool := bN_ 5 2
abbrev M11_5_3 : Array Bool := bN_ 5 3
abbrev M11_5_7 : Array Bool := bN_ 5 7
abbrev M11_5_f : Array Bool := bN_ 5 15

/-! ### spec_rnd_key: function 28 -/
def spec_rnd_key.f (k : Nat) (s0_0 : List Int) (s0_1 : Int) : Option (ByteArray × Int) := (spec_rnd_pick.f s0_0 s0_1 30).bind fun bt333 => ((spec_decimal.f k bt333.1).bind fun t335 => (if 2 + t335.size ≤ 9223372036854775807 then ((spec_rnd_pick.f s0_0 bt333.2 30).bind fun bt336 => ((spec_decimal.f k bt336.1).bind fun t338 => (if 1 + t338.size ≤ 9223372036854775807 then ((spec_rnd_of.f s0_0 bt336.2 (([(⟨#[97]⟩ : ByteArray), (⟨#[98]⟩ : ByteArray), (⟨#[99]⟩ : ByteArray), (⟨#[97, 97]⟩ : ByteArray), (⟨#[97, 98]⟩ : ByteArray), (⟨#[107, 101, 121]⟩ : ByteArray), (⟨#[]⟩ : ByteArray), (⟨#[122]⟩ : ByteArray), (⟨#[113, 49]⟩ : ByteArray), (⟨#[113, 50]⟩ : ByteArray) ++ t335, (⟨#[97]⟩ : ByteArray) ++ t338, (⟨#[97, 97, 97, 97, 97, 97, 97, 97, 97, 97, 97, 97, 97, 97, 97, 97, 97, 97, 97, 97, 97]⟩ : ByteArray)] : List ByteArray))).bind fun bt342 => (some (bt342.1, bt342.2))) else (none)))) else (none)))
theorem spec_rnd_key.mono : ∀ a0 a1 k, LeO (spec_rnd_key.f k a0 a1) (spec_rnd_key.f (k + 1) a0 a1) := by
 intro a0 a1 k
 unfold spec_rnd_key.f
 have m0_ := @spec_decimal.mono; exact tM
set_option maxHeartbeats 8000000 in
set_option maxRecDepth 100000 in
theorem spec_rnd_key.calls (k : Nat) (g : Nat) (s0_0 : List Int) (s0_1 : Int) (r1 : ByteArray) (r2 : Int) (w0 w : World) (hI : IsS77 w0 w g s0_0 s0_1) (hB : Below w0.heap.size w0 w) (h : spec_rnd_key.f k s0_0 s0_1 = some (r1, r2)) :
 Calls Try.prog 28 #[.pointer (some ⟨g, 0, none⟩)] w fun e w' => e = .returned (.string r1) ∧ IsS77 w0 w' g s0_0 r2 ∧ Below w0.heap.size w0 w' ∧ KeepBut w w' g none := by
 have HI0 := aS hI; have HK := aS (KeepBut.refl w g none); have HL := aS hB.size; clear hI; have HW0 := aS hB.size; have HB := aS hB; clear hB; have H : ((spec_rnd_pick.f s0_0 s0_1 30).bind fun bt333 => ((spec_decimal.f k bt333.1).bind fun t335 => (if 2 + t335.size ≤ 9223372036854775807 then ((spec_rnd_pick.f s0_0 bt333.2 30).bind fun bt336 => ((spec_decimal.f k bt336.1).bind fun t338 => (if 1 + t338.size ≤ 9223372036854775807 then ((spec_rnd_of.f s0_0 bt336.2 (([(⟨#[97]⟩ : ByteArray), (⟨#[98]⟩ : ByteArray), (⟨#[99]⟩ : ByteArray), (⟨#[97, 97]⟩ : ByteArray), (⟨#[97, 98]⟩ : ByteArray), (⟨#[107, 101, 121]⟩ : ByteArray), (⟨#[]⟩ : ByteArray), (⟨#[122]⟩ : ByteArray), (⟨#[113, 49]⟩ : ByteArray), (⟨#[113, 50]⟩ : ByteArray) ++ t335, (⟨#[97]⟩ : ByteArray) ++ t338, (⟨#[97, 97, 97, 97, 97, 97, 97, 97, 97, 97, 97, 97, 97, 97, 97, 97, 97, 97, 97, 97, 97]⟩ : ByteArray)] : List ByteArray))).bind fun bt342 => (some (bt342.1, bt342.2))) else (none)))) else (none)))) = some (r1, r2) := h; clear h; replace H := oB H; obtain ⟨⟨t333, t334⟩, A20, H⟩ := H; replace H : ((spec_decimal.f k t333).bind fun t335 => (if 2 + t335.size ≤ 9223372036854775807 then ((spec_rnd_pick.f s0_0 t334 30).bind fun bt336 => ((spec_decimal.f k bt336.1).bind fun t338 => (if 1 + t338.size ≤ 9223372036854775807 then ((spec_rnd_of.f s0_0 bt336.2 (([(⟨#[97]⟩ : ByteArray), (⟨#[98]⟩ : ByteArray), (⟨#[99]⟩ : ByteArray), (⟨#[97, 97]⟩ : ByteArray), (⟨#[97, 98]⟩ : ByteArray), (⟨#[107, 101, 121]⟩ : ByteArray), (⟨#[]⟩ : ByteArray), (⟨#[122]⟩ : ByteArray), (⟨#[113, 49]⟩ : ByteArray), (⟨#[113, 50]⟩ : ByteArray) ++ t335, (⟨#[97]⟩ : ByteArray) ++ t338, (⟨#[97, 97, 97, 97, 97, 97, 97, 97, 97, 97, 97, 97, 97, 97, 97, 97, 97, 97, 97, 97, 97]⟩ : ByteArray)] : List ByteArray))).bind fun bt342 => (some (bt342.1, bt342.2))) else (none)))) else (none))) = some (r1, r2) := H; have A2 := aS A20; clear A20; replace H := oB H; obtain ⟨t335, A30, H⟩ := H; replace H : (if 2 + t335.size ≤ 9223372036854775807 then ((spec_rnd_pick.f s0_0 t334 30).bind fun bt336 => ((spec_decimal.f k bt336.1).bind fun t338 => (if 1 + t338.size ≤ 9223372036854775807 then ((spec_rnd_of.f s0_0 bt336.2 (([(⟨#[97]⟩ : ByteArray), (⟨#[98]⟩ : ByteArray), (⟨#[99]⟩ : ByteArray), (⟨#[97, 97]⟩ : ByteArray), (⟨#[97, 98]⟩ : ByteArray), (⟨#[107, 101, 121]⟩ : ByteArray), (⟨#[]⟩ : ByteArray), (⟨#[122]⟩ : ByteArray), (⟨#[113, 49]⟩ : ByteArray), (⟨#[113, 50]⟩ : ByteArray) ++ t335, (⟨#[97]⟩ : ByteArray) ++ t338, (⟨#[97, 97, 97, 97, 97, 97, 97, 97, 97, 97, 97, 97, 97, 97, 97, 97, 97, 97, 97, 97, 97]⟩ : ByteArray)] : List ByteArray))).bind fun bt342 => (some (bt342.1, bt342.2))) else (none)))) else (none)) = some (r1, r2) := H; have A3 := aS A30; clear A30; by_cases c4 : 2 + t335.size ≤ 9223372036854775807
 · rw [if_pos c4] at H; have c4b0 := eq_true c4; have c4b1 : decide (2 + t335.size ≤ 9223372036854775807) = true := decide_eq_true c4
   try have c4b2 : (9223372036854775807 < 2 + t335.size) = False := eq_false (Nat.not_lt.2 c4)
   replace H := oB H; obtain ⟨⟨t336, t337⟩, A50, H⟩ := H; replace H : ((spec_decimal.f k t336).bind fun t338 => (if 1 + t338.size ≤ 9223372036854775807 then ((spec_rnd_of.f s0_0 t337 (([(⟨#[97]⟩ : ByteArray), (⟨#[98]⟩ : ByteArray), (⟨#[99]⟩ : ByteArray), (⟨#[97, 97]⟩ : ByteArray), (⟨#[97, 98]⟩ : ByteArray), (⟨#[107, 101, 121]⟩ : ByteArray), (⟨#[]⟩ : ByteArray), (⟨#[122]⟩ : ByteArray), (⟨#[113, 49]⟩ : ByteArray), (⟨#[113, 50]⟩ : ByteArray) ++ t335, (⟨#[97]⟩ : ByteArray) ++ t338, (⟨#[97, 97, 97, 97, 97, 97, 97, 97, 97, 97, 97, 97, 97, 97, 97, 97, 97, 97, 97, 97, 97]⟩ : ByteArray)] : List ByteArray))).bind fun bt342 => (some (bt342.1, bt342.2))) else (none))) = some (r1, r2) := H; have A5 := aS A50; clear A50; replace H := oB H; obtain ⟨t338, A60, H⟩ := H; replace H : (if 1 + t338.size ≤ 9223372036854775807 then ((spec_rnd_of.f s0_0 t337 (([(⟨#[97]⟩ : ByteArray), (⟨#[98]⟩ : ByteArray), (⟨#[99]⟩ : ByteArray), (⟨#[97, 97]⟩ : ByteArray), (⟨#[97, 98]⟩ : ByteArray), (⟨#[107, 101, 121]⟩ : ByteArray), (⟨#[]⟩ : ByteArray), (⟨#[122]⟩ : ByteArray), (⟨#[113, 49]⟩ : ByteArray), (⟨#[113, 50]⟩ : ByteArray) ++ t335, (⟨#[97]⟩ : ByteArray) ++ t338, (⟨#[97, 97, 97, 97, 97, 97, 97, 97, 97, 97, 97, 97, 97, 97, 97, 97, 97, 97, 97, 97, 97]⟩ : ByteArray)] : List ByteArray))).bind fun bt342 => (some (bt342.1, bt342.2))) else (none)) = some (r1, r2) := H; have A6 := aS A60; clear A60; by_cases c7 : 1 + t338.size ≤ 9223372036854775807
   case neg =>
    rw [if_neg c7] at H; exact nS H
   rw [if_pos c7] at H; have c7b0 := eq_true c7; have c7b1 : decide (1 + t338.size ≤ 9223372036854775807) = true := decide_eq_true c7
   try have c7b2 : (9223372036854775807 < 1 + t338.size) = False := eq_false (Nat.not_lt.2 c7)
   obtain ⟨y339, hy339⟩ : ∃ y_ : List ByteArray, y_ = (([(⟨#[97]⟩ : ByteArray), (⟨#[98]⟩ : ByteArray), (⟨#[99]⟩ : ByteArray), (⟨#[97, 97]⟩ : ByteArray), (⟨#[97, 98]⟩ : ByteArray), (⟨#[107, 101, 121]⟩ : ByteArray), (⟨#[]⟩ : ByteArray), (⟨#[122]⟩ : ByteArray), (⟨#[113, 49]⟩ : ByteArray), (⟨#[113, 50]⟩ : ByteArray) ++ t335, (⟨#[97]⟩ : ByteArray) ++ t338, (⟨#[97, 97, 97, 97, 97, 97, 97, 97, 97, 97, 97, 97, 97, 97, 97, 97, 97, 97, 97, 97, 97]⟩ : ByteArray)] : List ByteArray)) := ⟨_, rfl⟩
   replace H : ((spec_rnd_of.f s0_0 t337 y339).bind fun bt342 => (some (bt342.1, bt342.2))) = some (r1, r2) := by first | (rw [hy339]; with_reducible exact H) | (have H2_ := (Option.bind_some _ _).symm.trans H; rw [hy339]; with_reducible exact H2_) | (have H2_ := (Option.bind_some _ _).symm.trans H; with_reducible exact H2_) | with_reducible exact H | (rw [hy339]; exact H) | exact H
   have Ny339 := aS hy339; clear hy339; replace H := oB H; obtain ⟨⟨t342, t343⟩, A80, H⟩ := H; replace H : (some (t342, t343)) = some (r1, r2) := H; have A8 := aS A80; clear A80; simp only [Option.some.injEq, Prod.mk.injEq] at H; obtain ⟨rfl, rfl⟩ := H
   go_enter Try.func28, Try.ntmps28
   go_wp2_with (first | ((with_reducible refine gC 45 ?_); refine goS (some 5) Try.func45 #[.pointer (some ⟨g, 0, none⟩), .int .i64 30] ?_; (with_reducible refine (spec_rnd_pick.calls g s0_0 s0_1 30 t333 t334 w0 _ ?side1 ?side2 A2.out).mono ?_); (case side1 => exact tI77); (case side2 => exact tB77); rintro e w9 ⟨rfl, hi, hb, hk⟩; refine ⟨_, rfl, ?_⟩; replace HK := aS (KeepBut.trans tH hk (.inl rfl)); replace HI0 := aS (hi); replace HB := aS (hb); clear hi hb hk) | ((with_reducible refine gC 64 ?_); refine goS (some 6) Try.func64 #[.int .i64 t333] ?_; (with_reducible refine (spec_decimal.calls k t333 t335 _ A3.out).mono ?_); rintro e w10 ⟨rfl, hb⟩; refine ⟨_, rfl, ?_⟩; replace HK := aS (KeepBut.trans tH (KeepBut.of_below hb g none) (.inl rfl)); replace HB := aS (below_step tB77 hb); replace HI0 := aS (IsS77.below tI77 hb); clear hb) | ((with_reducible refine gC 45 ?_); refine goS (some 9) Try.func45 #[.pointer (some ⟨g, 0, none⟩), .int .i64 30] ?_; (with_reducible refine (spec_rnd_pick.calls g s0_0 t334 30 t336 t337 w0 _ ?side1 ?side2 A5.out).mono ?_); (case side1 => exact tI77); (case side2 => exact tB77); rintro e w11 ⟨rfl, hi, hb, hk⟩; refine ⟨_, rfl, ?_⟩; replace HK := aS (KeepBut.trans tH hk (.inl rfl)); replace HI0 := aS (hi); replace HB := aS (hb); clear hi hb hk) | ((with_reducible refine gC 64 ?_); refine goS (some 10) Try.func64 #[.int .i64 t336] ?_; (with_reducible refine (spec_decimal.calls k t336 t338 _ A6.out).mono ?_); rintro e w12 ⟨rfl, hb⟩; refine ⟨_, rfl, ?_⟩; replace HK := aS (KeepBut.trans tH (KeepBut.of_below hb g none) (.inl rfl)); replace HB := aS (below_step tB77 hb); replace HI0 := aS (IsS77.below tI77 hb); clear hb) | ((with_reducible refine gD 12 ?_); refine Kd.R_lit Kd.string _ 9 ?hg (N := 12) ?hd (xs := ([(⟨#[97]⟩ : ByteArray), (⟨#[98]⟩ : ByteArray), (⟨#[99]⟩ : ByteArray), (⟨#[97, 97]⟩ : ByteArray), (⟨#[97, 98]⟩ : ByteArray), (⟨#[107, 101, 121]⟩ : ByteArray), (⟨#[]⟩ : ByteArray), (⟨#[122]⟩ : ByteArray), (⟨#[113, 49]⟩ : ByteArray), (⟨#[113, 50]⟩ : ByteArray) ++ t335, (⟨#[97]⟩ : ByteArray) ++ t338, (⟨#[97, 97, 97, 97, 97, 97, 97, 97, 97, 97, 97, 97, 97, 97, 97, 97, 97, 97, 97, 97, 97]⟩ : ByteArray)] : List ByteArray)) (inner := [.string (⟨#[97]⟩ : ByteArray), .string (⟨#[98]⟩ : ByteArray), .string (⟨#[99]⟩ : ByteArray), .string (⟨#[97, 97]⟩ : ByteArray), .string (⟨#[97, 98]⟩ : ByteArray), .string (⟨#[107, 101, 121]⟩ : ByteArray), .string (⟨#[]⟩ : ByteArray), .string (⟨#[122]⟩ : ByteArray), .string (⟨#[113, 49]⟩ : ByteArray), .string ((⟨#[113, 50]⟩ : ByteArray) ++ t335), .string ((⟨#[97]⟩ : ByteArray) ++ t338), .string (⟨#[97, 97, 97, 97, 97, 97, 97, 97, 97, 97, 97, 97, 97, 97, 97, 97, 97, 97, 97, 97, 97]⟩ : ByteArray)]) (ok := fun _ => True) (okp := fun _ => True) ?hr ?hp (fun _ hk => hk) trivial (Below.refl _ _) (Nat.le_refl _) (by simp) ?_; (case hd => rfl); (case hg => rfl); (case hr => first | (go_simp; done) | (go_simp; rfl)); (case hp => exact (Reps.one (show Kd.M Kd.string _ _ _ (⟨#[97]⟩ : ByteArray) [.string (⟨#[97]⟩ : ByteArray)] from rfl) (Reps.one (show Kd.M Kd.string _ _ _ (⟨#[98]⟩ : ByteArray) [.string (⟨#[98]⟩ : ByteArray)] from rfl) (Reps.one (show Kd.M Kd.string _ _ _ (⟨#[99]⟩ : ByteArray) [.string (⟨#[99]⟩ : ByteArray)] from rfl) (Reps.one (show Kd.M Kd.string _ _ _ (⟨#[97, 97]⟩ : ByteArray) [.string (⟨#[97, 97]⟩ : ByteArray)] from rfl) (Reps.one (show Kd.M Kd.string _ _ _ (⟨#[97, 98]⟩ : ByteArray) [.string (⟨#[97, 98]⟩ : ByteArray)] from rfl) (Reps.one (show Kd.M Kd.string _ _ _ (⟨#[107, 101, 121]⟩ : ByteArray) [.string (⟨#[107, 101, 121]⟩ : ByteArray)] from rfl) (Reps.one (show Kd.M Kd.string _ _ _ (⟨#[]⟩ : ByteArray) [.string (⟨#[]⟩ : ByteArray)] from rfl) (Reps.one (show Kd.M Kd.string _ _ _ (⟨#[122]⟩ : ByteArray) [.string (⟨#[122]⟩ : ByteArray)] from rfl) (Reps.one (show Kd.M Kd.string _ _ _ (⟨#[113, 49]⟩ : ByteArray) [.string (⟨#[113, 49]⟩ : ByteArray)] from rfl) (Reps.one (show Kd.M Kd.string _ _ _ ((⟨#[113, 50]⟩ : ByteArray) ++ t335) [.string ((⟨#[113, 50]⟩ : ByteArray) ++ t335)] from rfl) (Reps.one (show Kd.M Kd.string _ _ _ ((⟨#[97]⟩ : ByteArray) ++ t338) [.string ((⟨#[97]⟩ : ByteArray) ++ t338)] from rfl) (Reps.one (show Kd.M Kd.string _ _ _ (⟨#[97, 97, 97, 97, 97, 97, 97, 97, 97, 97, 97, 97, 97, 97, 97, 97, 97, 97, 97, 97, 97]⟩ : ByteArray) [.string (⟨#[97, 97, 97, 97, 97, 97, 97, 97, 97, 97, 97, 97, 97, 97, 97, 97, 97, 97, 97, 97, 97]⟩ : ByteArray)] from rfl) (Reps.none _ _)))))))))))))); intro v340 w13 ho14 hb hg_ hnew_; clear hg_ hnew_; (first | rw [← Ny339.out] at ho14 | (simp only [Int.reduceToNat] at ho14; rw [← Ny339.out] at ho14)); have HO341 := aS (Kd.R_lower ho14 (keep_size (w := w) (g := g) (row := none) tH)); replace HK := aS (KeepBut.trans tH (KeepBut.of_below hb g none) (.inl rfl)); replace HB := aS (below_step tB77 hb); replace HI0 := aS (IsS77.below tI77 hb); clear hb ho14; obtain ⟨Ao15, co15, eo15⟩ := Kd.R_slice HO341.out; subst eo15) | ((with_reducible refine gC 63 ?_); refine goS (some 13) Try.func63 #[.pointer (some ⟨g, 0, none⟩), .slice Ao15 y339.length co15] ?_; (with_reducible refine (spec_rnd_of.calls g s0_0 t337 _ _ y339 t342 t343 w0 _ ?side1 ?side2 ?side3 ?side4 ?side5 A8.out).mono ?_); (case side1 => exact tI77); (case side2 => exact tB77); (case side3 => exact tC ((Kd.R_reads' HO341.out).2.2)); (case side4 => exact (Kd.R_reads' HO341.out).2.1); (case side5 => exact far_slice (IsS77.own_ne HI0.out HO341.out (by decide))); rintro e w16 ⟨rfl, hi, hb, hk⟩; refine ⟨_, rfl, ?_⟩; replace HO341 := aS (Kd.R_mono (Kd.R_keep (IsS77.apart (show IsS77 w0 _ g s0_0 t337 from tI77) (tR HO341.out) (by decide)) hk (fun _ h => h.2)) (fun _ h => h.1)); replace HK := aS (KeepBut.trans tH hk (.inl rfl)); replace HI0 := aS (hi); replace HB := aS (hb); clear hi hb hk))
   go_ret; exact ⟨tE, by repeat (first | (with_reducible first | exact HI0.out | apply IsS77.alloc | apply IsS77.drewN | apply IsS77.drew | apply IsS77.set_1) | exact HI0.out), tB77, tH⟩
 rw [if_neg c4] at H; exact nS H

/-! ### spec_DrawDictDrop: function 8 -/
def spec_DrawDictDrop.f (k : Nat) (l0 : List Int) : Option (List Int × (List (S56)) × ByteArray) := (spec_newRnd.f l0).bind fun bt345 => ((spec_rnd_dict.f k bt345.1 bt345.2).bind fun bt348 => ((spec_rnd_key.f k bt345.1 bt348.2.2).bind fun bt356 => (some (bt348.1, bt348.2.1, bt356.1))))
theorem spec_DrawDictDrop.mono : ∀ a0 k, LeO (spec_DrawDictDrop.f k a0) (spec_DrawDictDrop.f (k + 1) a0) := by
 intro a0 k
 unfold spec_DrawDictDrop.f
 have m0_ := @spec_rnd_dict.mono; have m1_ := @spec_rnd_key.mono; exact tM
set_option maxHeartbeats 8000000 in
set_option maxRecDepth 100000 in
theorem spec_DrawDictDrop.calls (k : Nat) (A0 : Option Addr) (c0 : Nat) (l0 : List Int) (r1 : List Int) (r2 : List (S56)) (r3 : ByteArray) (w : World) (hr0 : Kd.C (Kd.int .u8) w A0 l0.length l0) (hc0 : l0.length ≤ c0) (h : spec_DrawDictDrop.f k l0 = some (r1, r2, r3)) :
 Calls Try.prog 8 #[.slice A0 l0.length c0] w fun e w' => ∃ v0_ v1_ : Value, e = .returned (.tuple #[.agg #[v0_, v1_], .string r3]) ∧ Kd.R (Kd.int .i64) 3 w' w.heap.size (fun _ => True) v0_ r1 ∧ Kd.R k56 56 w' w.heap.size (fun _ => True) v1_ r2 ∧ Below w.heap.size w w' := by
 have hu26 := Try.underlying26; have HR0 := aS hr0; have HC0 := aS hc0; clear hr0 hc0; have HB := aS (Below.refl w.heap.size w); have H : ((spec_newRnd.f l0).bind fun bt345 => ((spec_rnd_dict.f k bt345.1 bt345.2).bind fun bt348 => ((spec_rnd_key.f k bt345.1 bt348.2.2).bind fun bt356 => (some (bt348.1, bt348.2.1, bt356.1))))) = some (r1, r2, r3) := h; clear h; replace H := oB H; obtain ⟨⟨t345, t346⟩, A20, H⟩ := H; replace H : ((spec_rnd_dict.f k t345 t346).bind fun bt348 => ((spec_rnd_key.f k t345 bt348.2.2).bind fun bt356 => (some (bt348.1, bt348.2.1, bt356.1)))) = some (r1, r2, r3) := H; have A2 := aS A20; clear A20; replace H := oB H; obtain ⟨⟨t348, t351, t354⟩, A30, H⟩ := H; replace H : ((spec_rnd_key.f k t345 t354).bind fun bt356 => (some (t348, t351, bt356.1))) = some (r1, r2, r3) := H; have A3 := aS A30; clear A30; replace H := oB H; obtain ⟨⟨t356, t357⟩, A40, H⟩ := H; replace H : (some (t348, t351, t356)) = some (r1, r2, r3) := H; have A4 := aS A40; clear A40; simp only [Option.some.injEq, Prod.mk.injEq] at H; obtain ⟨rfl, rfl, rfl⟩ := H
 go_enter Try.func8, Try.ntmps8
 try go_wp2_with (first | ((with_reducible refine gD 2 ?_); refine boxS (N := 2) (cs := #[.slice none 0 0, .slice none 0 0]) (t := 26) ?_; intro gb344 hg w5 hbox hb; have BK344 := aS (hbox); have GW344 := gW (w := w) hg tB; have GE344 := GW344; replace HB := aS (below_step tB hb); clear hb hbox hg) | ((with_reducible refine gC 26 ?_); refine goS (some 7) Try.func26 #[.slice A0 l0.length c0] ?_; (with_reducible refine (spec_newRnd.calls _ _ l0 t345 t346 w _ ?side1 ?side2 ?side3 A2.out).mono ?_); (case side1 => exact tB); (case side2 => exact HR0.out); (case side3 => exact HC0.out); rintro e w6 ⟨g347, rfl, hi, hb, hb2⟩; refine ⟨_, rfl, ?_⟩; have HI347 := aS (hi); have NB347_344 := aS (IsS77.ne_blk hi (blk_below (g := gb344) (o := .cells #[.slice none 0 0, .slice none 0 0] 26 (0, 0)) (tK BK344.out) hb2) (by decide)); have NB344_347 := aS (Ne.symm (IsS77.ne_blk hi (blk_below (g := gb344) (o := .cells #[.slice none 0 0, .slice none 0 0] 26 (0, 0)) (tK BK344.out) hb2) (by decide))); replace BK344 := aS (blk_below (g := gb344) (o := .cells #[.slice none 0 0, .slice none 0 0] 26 (0, 0)) (tK BK344.out) hb2); replace HB := aS (hb); clear hi hb hb2) | ((with_reducible refine gC 27 ?_); refine goS (some 9) Try.func27 #[.pointer (some ⟨g347, 0, none⟩)] ?_; (with_reducible refine (spec_rnd_dict.calls k g347 t345 t346 t348 t351 t354 w _ ?side1 ?side2 A3.out).mono ?_); (case side1 => repeat (first | (with_reducible first | exact HI347.out | apply IsS77.alloc | apply IsS77.drewN | apply IsS77.drew | apply IsS77.set_1 | refine IsS77.far ?_ NB347_344.out _) | exact HI347.out)); (case side2 => repeat (first | (with_reducible first | exact HB.out | apply below_alloc | apply pw_below_drewN | apply below_drew1 | refine below_set ?_ (IsS77.ge HI347.out) | refine below_set ?_ GE344.out) | exact HB.out)); rintro e w7 ⟨v349, v352, rfl, ho0, ho1, hi, hb, hk⟩; refine ⟨_, rfl, ?_⟩; replace BK344 := aS (KeepBut.blk hk (g' := gb344) (o := .cells #[.slice none 0 0, .slice none 0 0] 26 (0, 0)) (tK BK344.out) NB344_347.out (by simp)); have HO350 := aS (Kd.R_lower ho0 (below_size (by repeat (first | (with_reducible first | exact HB.out | apply below_alloc | apply pw_below_drewN | apply below_drew1 | refine below_set ?_ (IsS77.ge HI347.out) | refine below_set ?_ GE344.out) | exact HB.out)))); have HO353 := aS (Kd.R_lower ho1 (below_size (by repeat (first | (with_reducible first | exact HB.out | apply below_alloc | apply pw_below_drewN | apply below_drew1 | refine below_set ?_ (IsS77.ge HI347.out) | refine below_set ?_ GE344.out) | exact HB.out)))); replace HI347 := aS (hi); replace HB := aS (hb); clear ho0 ho1 hi hb hk) | ((with_reducible refine gD 5 ?_); refine boxS (N := 5) (cs := #[.slice none 0 0, .slice none 0 0]) (t := 26) ?_; intro gb355 hg w8 hbox hb; replace HO350 := rB HO350 hb; replace HO353 := rB HO353 hb; have BK355 := aS (hbox); have GW355 := aS ((by rw [hg]; exact (below_size (by repeat (first | (with_reducible first | exact HB.out | apply below_alloc | apply pw_below_drewN | apply below_drew1 | refine below_set ?_ (IsS77.ge HI347.out) | refine below_set ?_ GE344.out) | exact HB.out))) : w.heap.size ≤ gb355)); have GE355 := aS ((by rw [hg]; exact (below_size (by repeat (first | (with_reducible first | exact HB.out | apply below_alloc | apply pw_below_drewN | apply below_drew1 | refine below_set ?_ (IsS77.ge HI347.out) | refine below_set ?_ GE344.out) | exact HB.out))) : w.heap.size ≤ gb355)); have NB344_355 := nL hg BK344; have NB355_344 := nR hg BK344; replace BK344 := bB BK344 hb; have NB347_355 := aS ((by rw [hg]; exact Nat.ne_of_lt (IsS77.lt (show IsS77 w _ g347 t345 t354 from by repeat (first | (with_reducible first | exact HI347.out | apply IsS77.alloc | apply IsS77.drewN | apply IsS77.drew | apply IsS77.set_1 | refine IsS77.far ?_ NB347_344.out _) | exact HI347.out))) : g347 ≠ gb355)); have NB355_347 := aS ((by rw [hg]; exact Nat.ne_of_gt (IsS77.lt (show IsS77 w _ g347 t345 t354 from by repeat (first | (with_reducible first | exact HI347.out | apply IsS77.alloc | apply IsS77.drewN | apply IsS77.drew | apply IsS77.set_1 | refine IsS77.far ?_ NB347_344.out _) | exact HI347.out))) : gb355 ≠ g347)); replace HB := aS (below_step (by repeat (first | (with_reducible first | exact HB.out | apply below_alloc | apply pw_below_drewN | apply below_drew1 | refine below_set ?_ (IsS77.ge HI347.out) | refine below_set ?_ GE344.out) | exact HB.out)) hb); replace HI347 := aS (IsS77.below (by repeat (first | (with_reducible first | exact HI347.out | apply IsS77.alloc | apply IsS77.drewN | apply IsS77.drew | apply IsS77.set_1 | refine IsS77.far ?_ NB347_344.out _) | exact HI347.out)) hb); clear hb hbox hg; obtain ⟨Ao9, co9, eo9⟩ := Kd.R_slice HO350.out; subst eo9; obtain ⟨hnb10, hnc10⟩ := bO NB355_344 NB344_355; obtain ⟨hnb11, hnc11⟩ := bO NB355_347 NB347_355; obtain ⟨hcz12_0, hcz12_1, hfz12_0, hfz12_1⟩ := c2 BK355; obtain ⟨Ao13, co13, eo13⟩ := Kd.R_slice HO353.out; subst eo13))
 have n0_ : Aside0 (Kd.R (Kd.int .i64) 3 ((w8.setCell ⟨gb355, 0, none⟩ (.slice Ao9 t348.length co9)).setCell ⟨gb355, 1, none⟩ (.slice Ao13 t351.length co13)) w.heap.size (fun _ => True) (.slice Ao9 t348.length co9) t348) := ⟨by (with_reducible repeat (first | apply Kd.R_alloc | apply Kd.R_drewN | apply Kd.R_drew)); exact Kd.R_mono (Kd.R_far (p := ⟨gb355, 1, none⟩) (Kd.R_far (p := ⟨gb355, 0, none⟩) (Kd.R_types HO350.out BK355.out (by decide)) (fun _ hk => hk.2) (.slice Ao9 t348.length co9)) (fun _ hk => hk.2) (.slice Ao13 t351.length co13)) (fun _ hk => trivial)⟩; have n1_ : Aside0 (Kd.R k56 56 ((w8.setCell ⟨gb355, 0, none⟩ (.slice Ao9 t348.length co9)).setCell ⟨gb355, 1, none⟩ (.slice Ao13 t351.length co13)) w.heap.size (fun _ => True) (.slice Ao13 t351.length co13) t351) := ⟨by (with_reducible repeat (first | apply Kd.R_alloc | apply Kd.R_drewN | apply Kd.R_drew)); exact Kd.R_mono (Kd.R_far (p := ⟨gb355, 1, none⟩) (Kd.R_far (p := ⟨gb355, 0, none⟩) (Kd.R_types HO353.out BK355.out (by decide)) (fun _ hk => hk.2) (.slice Ao9 t348.length co9)) (fun _ hk => hk.2) (.slice Ao13 t351.length co13)) (fun _ hk => trivial)⟩; have n2_ : Aside0 (((w8.setCell ⟨gb355, 0, none⟩ (.slice Ao9 t348.length co9)).setCell ⟨gb355, 1, none⟩ (.slice Ao13 t351.length co13)).heap[gb344]? = some (.cells #[.slice none 0 0, .slice none 0 0] 26 (0, 0))) := ⟨tZ⟩; have n3_ : Aside0 (((w8.setCell ⟨gb355, 0, none⟩ (.slice Ao9 t348.length co9)).setCell ⟨gb355, 1, none⟩ (.slice Ao13 t351.length co13)).heap[gb355]? = some (.cells #[.slice Ao9 t348.length co9, .slice Ao13 t351.length co13] 26 (0, 0))) := ⟨by (with_reducible repeat (first | refine blk_drewN ?_ _ | refine blk_drew ?_ | refine blk_alloc ?_ _)); refine blk_put (cs := #[.slice Ao9 t348.length co9, .slice none 0 0]) ?_ 1 _ rfl; (with_reducible repeat (first | refine blk_drewN ?_ _ | refine blk_drew ?_ | refine blk_alloc ?_ _)); refine blk_put (cs := #[.slice none 0 0, .slice none 0 0]) ?_ 0 _ rfl; (with_reducible repeat (first | refine blk_drewN ?_ _ | refine blk_drew ?_ | refine blk_alloc ?_ _)); exact BK355.out⟩; have n4_ : Aside0 (IsS77 w ((w8.setCell ⟨gb355, 0, none⟩ (.slice Ao9 t348.length co9)).setCell ⟨gb355, 1, none⟩ (.slice Ao13 t351.length co13)) g347 t345 t354) := ⟨by repeat (first | (with_reducible first | exact HI347.out | apply IsS77.alloc | apply IsS77.drewN | apply IsS77.drew | apply IsS77.set_1 | refine IsS77.far ?_ NB347_344.out _ | refine IsS77.far ?_ NB347_355.out _) | exact HI347.out)⟩; have n5_ : Aside0 (Below w.heap.size w ((w8.setCell ⟨gb355, 0, none⟩ (.slice Ao9 t348.length co9)).setCell ⟨gb355, 1, none⟩ (.slice Ao13 t351.length co13))) := ⟨by repeat (first | (with_reducible first | exact HB.out | apply below_alloc | apply pw_below_drewN | apply below_drew1 | refine below_set ?_ (IsS77.ge HI347.out) | refine below_set ?_ GE344.out | refine below_set ?_ GE355.out) | exact HB.out)⟩; clear HO350 HO353 BK344 BK355 HI347 HB; generalize ((w8.setCell ⟨gb355, 0, none⟩ (.slice Ao9 t348.length co9)).setCell ⟨gb355, 1, none⟩ (.slice Ao13 t351.length co13)) = w14 at n0_ n1_ n2_ n3_ n4_ n5_ ⊢; have HO350 := n0_; have HO353 := n1_; have BK344 := n2_; have BK355 := n3_; have HI347 := n4_; have HB := n5_; clear n0_ n1_ n2_ n3_ n4_ n5_; have n0_ := aS (Kd.R_drew HO350.out); have n1_ := aS (Kd.R_drew HO353.out); have n2_ := aS (blk_drew BK344.out); have n3_ := aS (blk_drew BK355.out); have n4_ := aS (IsS77.drew HI347.out); have n5_ := aS (below_drew1 HB.out); clear HO350; clear HO353; clear BK344; clear BK355; clear HI347; clear HB; have HO350 := n0_; have HO353 := n1_; have BK344 := n2_; have BK355 := n3_; have HI347 := n4_; have HB := n5_; clear n0_ n1_ n2_ n3_ n4_ n5_; refine start_ (n := 5) (S := fun w' => w'.cell? ⟨gb355, 0, none⟩ = some (.slice Ao9 t348.length co9) ∧ w'.cell? ⟨gb355, 1, none⟩ = some (.slice Ao13 t351.length co13)) (ds := []) (.replicate 5 false) (by kernel_rfl) rfl rfl ⟨(blk_cell BK355.out 0).trans rfl, (blk_cell BK355.out 1).trans rfl⟩ (fun hHeld => ?_); generalize w14.drew = w15 at HO350 HO353 BK344 BK355 HI347 HB hHeld ⊢; refine pure_ (i := 1) (N := some 11) (v := ?_) (a' := ?_) M11_5_2 rfl rfl (by kernel_rfl) (fun _ _ _ h => h) (Or.inl ⟨by rfl, ?_⟩) ?_ ?_
 rotate_left
 · intro w'
   go_simp
   with_reducible rfl
 rotate_left
 · simp only [Act.put, List.setIfInBounds_toArray, List.set_cons_zero, List.set_cons_succ, i64_w, i32_w]
   rfl
 refine take_ (i := 0) (N := some 10) (v := ?_) (a' := ?_) M11_5_3 rfl rfl (by kernel_rfl) (fun _ _ _ h => h) (Or.inl ⟨by rfl, ?_⟩) hHeld ?_ ?_
 rotate_left
 · rintro w' ⟨s0, s1⟩
   go_simp
   with_reducible rfl
 rotate_left
 · simp only [Act.put, List.setIfInBounds_toArray, List.set_cons_zero, List.set_cons_succ, i64_w, i32_w]
   rfl
 refine one_ (i := 2) (N := some 12) M11_5_7 rfl rfl (by kernel_rfl) (by decide) (fun K hK => ?_); refine goes_ Try.func28 (by kernel_rfl) rfl #[.pointer (some ⟨g347, 0, none⟩)] (by rfl) rfl rfl tA ?_
 with_reducible refine (spec_rnd_key.calls k g347 t345 t354 t356 t357 w _ ?side1 ?side2 A4.out).mono ?_
 (case side1 => repeat (first | (with_reducible first | exact HI347.out | apply IsS77.alloc | apply IsS77.drewN | apply IsS77.drew | apply IsS77.set_1 | refine IsS77.far ?_ NB347_344.out _ | refine IsS77.far ?_ NB347_355.out _) | exact HI347.out))
 (case side2 => repeat (first | (with_reducible first | exact HB.out | apply below_alloc | apply pw_below_drewN | apply below_drew1 | refine below_set ?_ (IsS77.ge HI347.out) | refine below_set ?_ GE344.out | refine below_set ?_ GE355.out) | exact HB.out))
 rintro e w16 ⟨rfl, hi, hb, hk⟩; refine ⟨_, rfl, ?_⟩; have n0_ := aS (KeepBut.blk hk (g' := gb344) (o := .cells #[.slice none 0 0, .slice none 0 0] 26 (0, 0)) (tK BK344.out) NB344_347.out (by simp)); have n1_ := aS (Kd.R_mono (Kd.R_keep (IsS77.apart (show IsS77 w _ g347 t345 t354 from by repeat (first | (with_reducible first | exact HI347.out | apply IsS77.alloc | apply IsS77.drewN | apply IsS77.drew | apply IsS77.set_1 | refine IsS77.far ?_ NB347_344.out _ | refine IsS77.far ?_ NB347_355.out _) | exact HI347.out)) (tR HO350.out) (by decide)) hk (fun _ h => h.2)) (fun _ h => h.1)); have n2_ := aS (Kd.R_mono (Kd.R_keep (IsS77.apart (show IsS77 w _ g347 t345 t354 from by repeat (first | (with_reducible first | exact HI347.out | apply IsS77.alloc | apply IsS77.drewN | apply IsS77.drew | apply IsS77.set_1 | refine IsS77.far ?_ NB347_344.out _ | refine IsS77.far ?_ NB347_355.out _) | exact HI347.out)) (tR HO353.out) (by decide)) hk (fun _ h => h.2)) (fun _ h => h.1)); have n3_ := aS (KeepBut.blk hk (g' := gb355) (o := .cells #[.slice Ao9 t348.length co9, .slice Ao13 t351.length co13] 26 (0, 0)) (tK BK355.out) NB355_347.out (by simp)); have n4_ := aS (hb); have n5_ := aS (hi); clear BK344; clear HO350; clear HO353; clear BK355; clear HB; clear HI347; have BK344 := n0_; have HO350 := n1_; have HO353 := n2_; have BK355 := n3_; have HB := n4_; have HI347 := n5_; clear n0_ n1_ n2_ n3_ n4_ n5_; clear hb hk hi; refine hK.out _ _ ⟨(blk_cell BK355.out 0).trans rfl, (blk_cell BK355.out 1).trans rfl⟩ (fun hHeld => ?_); clear hK K; refine norm_ (a' := ?_) ?_ ?_
 rotate_left
 · show Act.put _ (some 12) _ = _
   simp only [Act.put, List.setIfInBounds_toArray, List.set_cons_zero, List.set_cons_succ, i64_w, i32_w]
   rfl
 refine one_ (i := 3) (N := none) M11_5_f rfl rfl (by kernel_rfl) (by decide) (fun K hK => ?_); have hs17 : w16.cell? ⟨gb344, 0, none⟩ = some (.slice none 0 0) := (blk_cell BK344.out 0).trans rfl; have hfs17 := bF BK344 0; have hns17_1 := NB355_344.out; have hms17_1 := NB344_355.out; have hs18 : w16.cell? ⟨gb344, 1, none⟩ = some (.slice none 0 0) := (blk_cell BK344.out 1).trans rfl; have hfs18 := bF BK344 1; have hns18_1 := NB355_344.out; have hms18_1 := NB344_355.out; refine skip_ (w1 := ?_) (by rfl) rfl ?_ ?_
 rotate_left
 · go_simp
   rfl
 refine hK.out _ _ ⟨((cell_far (p := ⟨gb344, _, none⟩) NB355_344.out _).trans (((cell_far (p := ⟨gb344, _, none⟩) NB355_344.out _).trans (hHeld.1)))), ((cell_far (p := ⟨gb344, _, none⟩) NB355_344.out _).trans (((cell_far (p := ⟨gb344, _, none⟩) NB355_344.out _).trans (hHeld.2))))⟩ (fun hHeld => ?_); clear hK K; refine pure_ (i := 4) (N := some 3) (v := ?_) (a' := ?_) M11_5_1f rfl rfl (by kernel_rfl) (fun _ _ _ h => h) (Or.inl ⟨by rfl, ?_⟩) ?_ ?_
 rotate_left
 · intro w'
   go_simp
   with_reducible rfl
 rotate_left
 · simp only [Act.put, List.setIfInBounds_toArray, List.set_cons_zero, List.set_cons_succ, i64_w, i32_w]
   rfl
 refine done_ (by kernel_rfl) ?_
 try go_wp2
 refine bodyPost_ret (results_ct rfl _ _ gb344 26 #[.slice Ao9 t348.length co9, .slice Ao13 t351.length co13] (0, 0) _ rfl tZ Try.underlying26 rfl (by kernel_rfl)) rfl ?_; exact ⟨_, _, tE, by (with_reducible repeat (first | apply Kd.R_alloc | apply Kd.R_drewN | apply Kd.R_drew)); exact Kd.R_mono (Kd.R_far (p := ⟨gb344, 1, none⟩) (Kd.R_far (p := ⟨gb344, 0, none⟩) (Kd.R_types HO350.out BK344.out (by decide)) (fun _ hk => hk.2) (.slice Ao9 t348.length co9)) (fun _ hk => hk.2) (.slice Ao13 t351.length co13)) (fun _ hk => trivial), by (with_reducible repeat (first | apply Kd.R_alloc | apply Kd.R_drewN | apply Kd.R_drew)); exact Kd.R_mono (Kd.R_far (p := ⟨gb344, 1, none⟩) (Kd.R_far (p := ⟨gb344, 0, none⟩) (Kd.R_types HO353.out BK344.out (by decide)) (fun _ hk => hk.2) (.slice Ao9 t348.length co9)) (fun _ hk => hk.2) (.slice Ao13 t351.length co13)) (fun _ hk => trivial), by repeat (first | (with_reducible first | exact HB.out | apply below_alloc | apply pw_below_drewN | apply below_drew1 | refine below_set ?_ (IsS77.ge HI347.out) | refine below_set ?_ GE344.out | refine below_set ?_ GE355.out) | exact HB.out)⟩

/-! ### impl_DictHash: function 43 -/
def impl_DictHash.l0 : Nat → ByteArray → Int → Int → Int → Option (Int)
 | 0, _, _, _, _ => none
 | k + 1, x0, x3, x9, x10 => if x10 < x9 then (if 0 ≤ x10 then (if x10 < (x0.size : Int) then (impl_DictHash.l0 k x0 (Int.tmod (wrap64 ((wrap64 (x3 * 31)) + (wrap64 (bt x0 x10)))) 65536) x9 (wrap64 (x10 + 1))) else (none)) else (none)) else (some x3)
def impl_DictHash.f (k : Nat) (a0 : ByteArray) : Option (Int) := if (a0.size : Int) > 20 then (some (-1)) else (impl_DictHash.l0 k a0 7 (a0.size : Int) 0)
theorem impl_DictHash.mono_l : ∀ k, (∀ y0 y1 y2 y3, LeO (impl_DictHash.l0 k y0 y1 y2 y3) (impl_DictHash.l0 (k + 1) y0 y1 y2 y3))
 | 0 => fun _ _ _ _ r h => by simp [impl_DictHash.l0] at h
 | k + 1 => by
  have ih0 := impl_DictHash.mono_l k; intro y0 y1 y2 y3
  unfold impl_DictHash.l0
  exact tM
theorem impl_DictHash.mono : ∀ a0 k, LeO (impl_DictHash.f k a0) (impl_DictHash.f (k + 1) a0) := by
 intro a0 k; have ih0 := impl_DictHash.mono_l k
 unfold impl_DictHash.f
 exact tM
set_option maxHeartbeats 8000000 in
set_option maxRecDepth 100000 in
theorem impl_DictHash.calls (k : Nat) (a0 : ByteArray) (r : Int) (w : World) (h : impl_DictHash.f k a0 = some r) :
 Calls Try.prog 43 #[.string a0] w fun e w' => e = .returned (.int .i64 r) ∧ Drawn0 w w' := by
 have H : (if (a0.size : Int) > 20 then (some (-1)) else (impl_DictHash.l0 k a0 7 (a0.size : Int) 0)) = some r := h; clear h; by_cases c2 : (a0.size : Int) > 20
 · rw [if_pos c2] at H; have c2b0 : decide (20 < (a0.size : Int)) = true := decide_eq_true c2; have c2b1 : decide (20 < a0.size) = true := decide_eq_true (by omega); clear c2; obtain rfl := oI H
   go_enter Try.func43, Try.ntmps43
   go_wp2; go_ret; exact ⟨by first | rfl | (simp; done) | (simp [*]; done), by repeat (first | exact Drawn0.refl _ | apply Drawn0.step)⟩
 rw [if_neg c2] at H; have c2b0 : decide (20 < (a0.size : Int)) = false := decide_eq_false c2; have c2b1 : decide (20 < a0.size) = false := decide_eq_false (by omega); clear c2; have H' := aS H; clear H
 go_enter Try.func43, Try.ntmps43
 go_wp2
 go_loopg [3, 10] k (fun kq v3 v10 w' => ∃ (x3_1 : Int) (x10_1 : Int), v3 = .int .i64 x3_1 ∧ v10 = .int .i64 x10_1 ∧ Aside0 (impl_DictHash.l0 kq a0 x3_1 (a0.size : Int) x10_1 = some r) ∧ Aside0 (kq ≤ k) ∧ Drawn0 w w')
 case atStart => exact ⟨(7), (0), tX, tX, H', ⟨Nat.le_refl _⟩, by repeat (first | exact Drawn0.refl _ | apply Drawn0.step)⟩
 case round =>
  clear H'; clear c2b0 c2b1; obtain ⟨x3_1, x10_1, rfl, rfl, HA, HK1, ⟨m1, rfl⟩⟩ := hrel
  cases gk with
  | zero => exact absurd HA.out (by simp [impl_DictHash.l0])
  | succ k1 =>
   have H := HA.out; clear HA; simp only [impl_DictHash.l0] at H; by_cases c3 : x10_1 < (a0.size : Int)
   · rw [if_pos c3] at H; have c3b0 : decide (x10_1 < (a0.size : Int)) = true := decide_eq_true c3; clear c3; by_cases c4 : 0 ≤ x10_1
     case neg =>
      rw [if_neg c4] at H; exact nS H
     rw [if_pos c4] at H; have c4b0 : decide (0 ≤ x10_1) = true := decide_eq_true c4; clear c4; by_cases c5 : x10_1 < (a0.size : Int)
     case neg =>
      rw [if_neg c5] at H; exact nS H
     rw [if_pos c5] at H; have c5b0 : decide (x10_1 < (a0.size : Int)) = true := decide_eq_true c5; clear c5; have H' := aS H; clear H; have p6 : 0 ≤ (x10_1 : Int) := of_decide_eq_true tP; have q6 : x10_1 < (a0.size : Int) := of_decide_eq_true tP; have hx6 := bt_at a0 x10_1; replace p6 := eq_true p6; replace q6 := eq_true q6; go_wp2; go_roundg k1
     case measure => have := HK1.out; omega
     case rel => exact ⟨(Int.tmod (wrap64 ((wrap64 (x3_1 * 31)) + (wrap64 (bt a0 x10_1)))) 65536), (wrap64 (x10_1 + 1)), tX, tX, H', ⟨by have := HK1.out; omega⟩, by repeat (first | exact Drawn0.refl _ | apply Drawn0.step)⟩
   rw [if_neg c3] at H; have c3b0 : decide (x10_1 < (a0.size : Int)) = false := decide_eq_false c3; clear c3; obtain rfl := oI H; go_wp2; go_ret; exact ⟨by first | rfl | (simp; done) | (simp [*]; done), by repeat (first | exact Drawn0.refl _ | apply Drawn0.step)⟩

/-! ### impl_Dict_probe: function 30 -/
def impl_Dict_probe.l0 : Nat → ByteArray → Int → Int → Int → List Int → Int → Int → List Int → List (S56) → Option (List Int)
 | 0, _, _, _, _, _, _, _, _, _ => none
 | k + 1, x1, x6, x7, x8, x9, x22, x23, x359000, x359001 => if x23 < x22 then (if x9.length < 17592186044416 then ((some (x9 ++ [x7] : List Int)).bind fun y360 => (if 0 ≤ x7 then (if x7 < (x359000.length : Int) then (if (rd x359000 x7) = (-1) then (some y360) else (if (rd x359000 x7) ≥ 0 then (if 0 ≤ (rd x359000 x7) then (if (rd x359000 x7) < (x359001.length : Int) then (if ((rd_T56 x359001 (rd x359000 x7)).f0).toList = x1.toList then (some y360) else (if x6 = 0 then (none) else (impl_Dict_probe.l0 k x1 x6 (Int.tmod (wrap64 ((wrap64 ((wrap64 (5 * x7)) + (wrap64 (Int.tdiv x8 8)))) + 1)) x6) (wrap64 (Int.tdiv x8 8)) y360 x22 (wrap64 (x23 + 1)) x359000 x359001))) else (none)) else (none)) else (if x6 = 0 then (none) else (impl_Dict_probe.l0 k x1 x6 (Int.tmod (wrap64 ((wrap64 ((wrap64 (5 * x7)) + (wrap64 (Int.tdiv x8 8)))) + 1)) x6) (wrap64 (Int.tdiv x8 8)) y360 x22 (wrap64 (x23 + 1)) x359000 x359001)))) else (none)) else (none))) else (none)) else (some x9)
def impl_Dict_probe.f (k : Nat) (l0_0 : List Int) (l0_1 : List (S56)) (a1 : ByteArray) : Option (List Int) := (impl_DictHash.f k a1).bind fun t359 => (if (l0_0.length : Int) = 0 then (none) else (impl_Dict_probe.l0 k a1 (l0_0.length : Int) (Int.tmod t359 (l0_0.length : Int)) t359 ([] : List Int) (wrap64 (65536 + (wrap64 (2 * (l0_0.length : Int))))) 0 l0_0 l0_1))
theorem impl_Dict_probe.mono_l : ∀ k, (∀ y0 y1 y2 y3 y4 y5 y6 y7 y8, LeO (impl_Dict_probe.l0 k y0 y1 y2 y3 y4 y5 y6 y7 y8) (impl_Dict_probe.l0 (k + 1) y0 y1 y2 y3 y4 y5 y6 y7 y8))
 | 0 => fun _ _ _ _ _ _ _ _ _ r h => by simp [impl_Dict_probe.l0] at h
 | k + 1 => by
  have ih0 := impl_Dict_probe.mono_l k; intro y0 y1 y2 y3 y4 y5 y6 y7 y8
  unfold impl_Dict_probe.l0
  have m0_ := @impl_DictHash.mono; exact tM
theorem impl_Dict_probe.mono : ∀ a0 a1 a2 k, LeO (impl_Dict_probe.f k a0 a1 a2) (impl_Dict_probe.f (k + 1) a0 a1 a2) := by
 intro a0 a1 a2 k; have ih0 := impl_Dict_probe.mono_l k
 unfold impl_Dict_probe.f
 have m0_ := @impl_DictHash.mono; exact tM
set_option maxHeartbeats 8000000 in
set_option maxRecDepth 100000 in
theorem impl_Dict_probe.calls (k : Nat) (A0_0 : Option Addr) (c0_0 : Nat) (l0_0 : List Int) (A0_1 : Option Addr) (c0_1 : Nat) (l0_1 : List (S56)) (a1 : ByteArray) (r : List Int) (w : World) (hr0_0 : Kd.C (Kd.int .i64) w A0_0 l0_0.length l0_0) (hc0_0 : l0_0.length ≤ c0_0) (hr0_1 : Kd.C k56 w A0_1 l0_1.length l0_1) (hc0_1 : l0_1.length ≤ c0_1) (h : impl_Dict_probe.f k l0_0 l0_1 a1 = some r) :
 Calls Try.prog 30 #[.agg #[.slice A0_0 l0_0.length c0_0, .slice A0_1 l0_1.length c0_1], .string a1] w fun e w' => ∃ v0_ : Value, e = .returned (v0_) ∧ Kd.R (Kd.int .i64) 3 w' w.heap.size (fun _ => True) v0_ r ∧ Below w.heap.size w w' := by
 have hu26 := Try.underlying26; have HR0_0 := aS hr0_0; have HC0_0 := aS hc0_0; clear hr0_0 hc0_0; have HR0_1 := aS hr0_1; have HC0_1 := aS hc0_1; clear hr0_1 hc0_1; have HB := aS (Below.refl w.heap.size w); have H : ((impl_DictHash.f k a1).bind fun t359 => (if (l0_0.length : Int) = 0 then (none) else (impl_Dict_probe.l0 k a1 (l0_0.length : Int) (Int.tmod t359 (l0_0.length : Int)) t359 ([] : List Int) (wrap64 (65536 + (wrap64 (2 * (l0_0.length : Int))))) 0 l0_0 l0_1))) = some r := h; clear h; replace H := oB H; obtain ⟨t359, A30, H⟩ := H; replace H : (if (l0_0.length : Int) = 0 then (none) else (impl_Dict_probe.l0 k a1 (l0_0.length : Int) (Int.tmod t359 (l0_0.length : Int)) t359 ([] : List Int) (wrap64 (65536 + (wrap64 (2 * (l0_0.length : Int))))) 0 l0_0 l0_1)) = some r := H; have A3 := aS A30; clear A30; by_cases c4 : (l0_0.length : Int) = 0
 · rw [if_pos c4] at H; exact nS H
 rw [if_neg c4] at H; have c4b0 : ((l0_0.length : Int) == 0) = false := beq_eq_false_iff_ne.mpr c4; have c4b1 : ((l0_0.length : Int) != 0) = true := bne_iff_ne.mpr c4; have c4b2 : ¬ (l0_0 = []) := fun h_ => c4 (by rw [h_]; rfl)
 have H' := aS H; clear H
 go_enter Try.func30, Try.ntmps30
 go_wp2_with (first | ((with_reducible refine gD 2 ?_); refine boxS (N := 2) (cs := #[.slice A0_0 l0_0.length c0_0, .slice A0_1 l0_1.length c0_1]) (t := 26) ?_; intro gb358 hg w5 hbox hb; have BK358 := aS (hbox); have GW358 := gW (w := w) hg tB; have GE358 := GW358; replace HB := aS (below_step tB hb); clear hb hbox hg) | ((with_reducible refine gC 43 ?_); refine goS (some 12) Try.func43 #[.string a1] ?_; (with_reducible refine (impl_DictHash.calls k a1 t359 _ A3.out).mono ?_); rintro e w' ⟨rfl, ⟨nd, rfl⟩⟩; refine ⟨_, rfl, ?_⟩; have hcz6_0 := cA BK358 0; have hcz6_1 := cA BK358 1; have hfz6_0 := bF BK358 0; have hfz6_1 := bF BK358 1))
 go_loopg [7, 8, 9, 23] k (fun kq v7 v8 v9 v23 w' => ∃ (x7_1 : Int) (x8_1 : Int) (x9_1 : List Int) (x23_1 : Int), v7 = .int .i64 x7_1 ∧ v8 = .int .i64 x8_1 ∧ v23 = .int .i64 x23_1 ∧ Aside0 (impl_Dict_probe.l0 kq a1 (l0_0.length : Int) x7_1 x8_1 x9_1 (wrap64 (65536 + (wrap64 (2 * (l0_0.length : Int))))) x23_1 l0_0 l0_1 = some r) ∧ Aside0 (kq ≤ k) ∧ Aside0 (Kd.R (Kd.int .i64) 3 w' w.heap.size (fun _ => True) v9 x9_1) ∧ Aside0 (w'.heap[gb358]? = some (.cells #[(.slice A0_0 l0_0.length c0_0), (.slice A0_1 l0_1.length c0_1)] 26 (0, 0))) ∧ Aside0 (Below w.heap.size w w'))
 case atStart => exact ⟨(Int.tmod t359 (l0_0.length : Int)), (t359), (([] : List Int)), (0), tX, tX, tX, H', ⟨Nat.le_refl _⟩, ⟨by first | exact Kd.R_nil _ _ _ _ _ | exact Kd.N_nil _ _ _ _ _ | exact Kd.V_nil _ _ _ _ _ | exact Kd.Q_nil _ _ _ _ _ | exact Kd.S_nil _ _ _ _ _⟩, ⟨tZ⟩, ⟨tB⟩⟩
 case round =>
  clear H'; clear c4 c4b0 c4b1 c4b2 hcz6_0 hcz6_1 hfz6_0 hfz6_1; obtain ⟨x7_1, x8_1, x9_1, x23_1, rfl, rfl, rfl, HA, HK1, HO_9, BK358, HB⟩ := hrel
  cases gk with
  | zero => exact absurd HA.out (by simp [impl_Dict_probe.l0])
  | succ k1 =>
   have H := HA.out; clear HA; simp only [impl_Dict_probe.l0] at H; by_cases c7 : x23_1 < (wrap64 (65536 + (wrap64 (2 * (l0_0.length : Int)))))
   · rw [if_pos c7] at H; have c7b0 : decide (x23_1 < (wrap64 (65536 + (wrap64 (2 * (l0_0.length : Int)))))) = true := decide_eq_true c7; clear c7; by_cases c8 : x9_1.length < 17592186044416
     case neg =>
      rw [if_neg c8] at H; exact nS H
     rw [if_pos c8] at H; have LMc8 := aS c8; clear c8; obtain ⟨y360, hy360⟩ : ∃ y_ : List Int, y_ = (x9_1 ++ [x7_1]) := ⟨_, rfl⟩
     replace H : (if 0 ≤ x7_1 then (if x7_1 < (l0_0.length : Int) then (if (rd l0_0 x7_1) = (-1) then (some y360) else (if (rd l0_0 x7_1) ≥ 0 then (if 0 ≤ (rd l0_0 x7_1) then (if (rd l0_0 x7_1) < (l0_1.length : Int) then (if ((rd_T56 l0_1 (rd l0_0 x7_1)).f0).toList = a1.toList then (some y360) else (if (l0_0.length : Int) = 0 then (none) else (impl_Dict_probe.l0 k1 a1 (l0_0.length : Int) (Int.tmod (wrap64 ((wrap64 ((wrap64 (5 * x7_1)) + (wrap64 (Int.tdiv x8_1 8)))) + 1)) (l0_0.length : Int)) (wrap64 (Int.tdiv x8_1 8)) y360 (wrap64 (65536 + (wrap64 (2 * (l0_0.length : Int))))) (wrap64 (x23_1 + 1)) l0_0 l0_1))) else (none)) else (none)) else (if (l0_0.length : Int) = 0 then (none) else (impl_Dict_probe.l0 k1 a1 (l0_0.length : Int) (Int.tmod (wrap64 ((wrap64 ((wrap64 (5 * x7_1)) + (wrap64 (Int.tdiv x8_1 8)))) + 1)) (l0_0.length : Int)) (wrap64 (Int.tdiv x8_1 8)) y360 (wrap64 (65536 + (wrap64 (2 * (l0_0.length : Int))))) (wrap64 (x23_1 + 1)) l0_0 l0_1)))) else (none)) else (none)) = some r := by first | (rw [hy360]; with_reducible exact H) | (have H2_ := (Option.bind_some _ _).symm.trans H; rw [hy360]; with_reducible exact H2_) | (have H2_ := (Option.bind_some _ _).symm.trans H; with_reducible exact H2_) | with_reducible exact H | (rw [hy360]; exact H) | exact H
     have Ny360 := aS hy360; clear hy360; by_cases c9 : 0 ≤ x7_1
     case neg =>
      rw [if_neg c9] at H; exact nS H
     rw [if_pos c9] at H; have c9b0 : decide (0 ≤ x7_1) = true := decide_eq_true c9; clear c9; by_cases c10 : x7_1 < (l0_0.length : Int)
     case neg =>
      rw [if_neg c10] at H; exact nS H
     rw [if_pos c10] at H; have c10b0 : decide (x7_1 < (l0_0.length : Int)) = true := decide_eq_true c10; clear c10; by_cases c11 : (rd l0_0 x7_1) = (-1)
     · rw [if_pos c11] at H; have c11b0 : ((rd l0_0 x7_1) == (-1)) = true := beq_iff_eq.mpr c11; have c11b1 : ((rd l0_0 x7_1) != (-1)) = false := bne_eq_false_iff_eq.mpr c11; clear c11; obtain rfl := oI H
       go_wp2_with (first | ((with_reducible refine gate_builtin (b := .append) (xs := #[.tmp 25, .tmp 27]) rfl ?_); at_builtin; refine Kd.R_append (Kd.int .i64) (w0 := w) w.heap.size rfl (.tmp 25) (.tmp 27) 23 3 (.int .i64 0) 8 rfl Try.underlying23 info3 rfl (by decide) (by omega) u9 x9_1 x7_1 [.int .i64 x7_1] (fun _ => True) (fun _ => False) rfl rfl ?aP (fun _ hk => hk.elim) ?aF ?aO ?aB ?aS ?aL ?_; (case aP => exact rfl); (case aB => exact tB); (case aF => exact (fun _ _ => trivial)); (case aO => exact (tR HO_9.out)); (case aS => exact (below_size tB)); (case aL => have := LMc8.out; omega); intro v361 w12 ho hb hg hat; rw [← Ny360.out] at ho; have n0_ := aS (blk_grown (g := gb358) (o := .cells #[.slice A0_0 l0_0.length c0_0, .slice A0_1 l0_1.length c0_1] 26 (0, 0)) (tK BK358.out) hg (Kd.R_ne HO_9.out BK358.out (by decide))); have n1_ := aS (hb); have n2_ := aS (ho); clear BK358; clear HB; clear HO_9; have BK358 := n0_; have HB := n1_; have HO362 := n2_; clear n0_ n1_ n2_; clear ho hb hg hat; obtain ⟨hcz13_0, hcz13_1, hfz13_0, hfz13_1⟩ := c2 BK358; have p363 : 0 ≤ (x7_1 : Int) := of_decide_eq_true tP; have q363 : x7_1 < (l0_0.length : Int) := of_decide_eq_true tP; obtain ⟨ad363, e363, hx363_0⟩ := Kd.at_int HR0_0.out x7_1 p363 q363; cases e363; replace hx363_0 := cB HB hx363_0; replace p363 := eq_true p363; replace q363 := eq_true q363))
       go_ret; exact ⟨_, tE, by (with_reducible repeat (first | apply Kd.R_alloc | apply Kd.R_drewN | apply Kd.R_drew)); exact HO362.out, tB⟩
     rw [if_neg c11] at H; have c11b0 : ((rd l0_0 x7_1) == (-1)) = false := beq_eq_false_iff_ne.mpr c11; have c11b1 : ((rd l0_0 x7_1) != (-1)) = true := bne_iff_ne.mpr c11; by_cases c14 : (rd l0_0 x7_1) ≥ 0
     · rw [if_pos c14] at H; have c14b0 : decide (0 ≤ (rd l0_0 x7_1)) = true := decide_eq_true c14; clear c14; by_cases c15 : 0 ≤ (rd l0_0 x7_1)
       case neg =>
        rw [if_neg c15] at H; exact nS H
       rw [if_pos c15] at H; have c15b0 : decide (0 ≤ (rd l0_0 x7_1)) = true := decide_eq_true c15; clear c15; by_cases c16 : (rd l0_0 x7_1) < (l0_1.length : Int)
       case neg =>
        rw [if_neg c16] at H; exact nS H
       rw [if_pos c16] at H; have c16b0 : decide ((rd l0_0 x7_1) < (l0_1.length : Int)) = true := decide_eq_true c16; clear c16; by_cases c17 : ((rd_T56 l0_1 (rd l0_0 x7_1)).f0).toList = a1.toList
       · rw [if_pos c17] at H; have c17b0 : (((rd_T56 l0_1 (rd l0_0 x7_1)).f0).toList == a1.toList) = true := beq_iff_eq.mpr c17; have c17b1 : (((rd_T56 l0_1 (rd l0_0 x7_1)).f0).toList != a1.toList) = false := bne_eq_false_iff_eq.mpr c17; clear c17; obtain rfl := oI H
         go_wp2_with (first | ((with_reducible refine gate_builtin (b := .append) (xs := #[.tmp 25, .tmp 27]) rfl ?_); at_builtin; refine Kd.R_append (Kd.int .i64) (w0 := w) w.heap.size rfl (.tmp 25) (.tmp 27) 23 3 (.int .i64 0) 8 rfl Try.underlying23 info3 rfl (by decide) (by omega) u9 x9_1 x7_1 [.int .i64 x7_1] (fun _ => True) (fun _ => False) rfl rfl ?aP (fun _ hk => hk.elim) ?aF ?aO ?aB ?aS ?aL ?_; (case aP => exact rfl); (case aB => exact tB); (case aF => exact (fun _ _ => trivial)); (case aO => exact (tR HO_9.out)); (case aS => exact (below_size tB)); (case aL => have := LMc8.out; omega); intro v361 w18 ho hb hg hat; rw [← Ny360.out] at ho; have n0_ := aS (blk_grown (g := gb358) (o := .cells #[.slice A0_0 l0_0.length c0_0, .slice A0_1 l0_1.length c0_1] 26 (0, 0)) (tK BK358.out) hg (Kd.R_ne HO_9.out BK358.out (by decide))); have n1_ := aS (hb); have n2_ := aS (ho); clear BK358; clear HB; clear HO_9; have BK358 := n0_; have HB := n1_; have HO362 := n2_; clear n0_ n1_ n2_; clear ho hb hg hat; obtain ⟨hcz19_0, hcz19_1, hfz19_0, hfz19_1⟩ := c2 BK358; have p363 : 0 ≤ (x7_1 : Int) := of_decide_eq_true tP; have q363 : x7_1 < (l0_0.length : Int) := of_decide_eq_true tP; obtain ⟨ad363, e363, hx363_0⟩ := Kd.at_int HR0_0.out x7_1 p363 q363; cases e363; replace hx363_0 := cB HB hx363_0; replace p363 := eq_true p363; replace q363 := eq_true q363; have p364 : 0 ≤ ((rd l0_0 x7_1) : Int) := of_decide_eq_true tP; have q364 : (rd l0_0 x7_1) < (l0_1.length : Int) := of_decide_eq_true tP; obtain ⟨ad364, e364, hx364_0, hx364_1, hx364_2, hx364_3⟩ := at_T56 HR0_1.out (rd l0_0 x7_1) p364 q364; cases e364; replace hx364_0 := cB HB hx364_0; replace hx364_1 := cB HB hx364_1; replace hx364_2 := cB HB hx364_2; replace hx364_3 := cB HB hx364_3; replace p364 := eq_true p364; replace q364 := eq_true q364))
         go_ret; exact ⟨_, tE, by (with_reducible repeat (first | apply Kd.R_alloc | apply Kd.R_drewN | apply Kd.R_drew)); exact HO362.out, tB⟩
       rw [if_neg c17] at H; have c17b0 : (((rd_T56 l0_1 (rd l0_0 x7_1)).f0).toList == a1.toList) = false := beq_eq_false_iff_ne.mpr c17; have c17b1 : (((rd_T56 l0_1 (rd l0_0 x7_1)).f0).toList != a1.toList) = true := bne_iff_ne.mpr c17; by_cases c20 : (l0_0.length : Int) = 0
       · rw [if_pos c20] at H; exact nS H
       rw [if_neg c20] at H; have c20b0 : ((l0_0.length : Int) == 0) = false := beq_eq_false_iff_ne.mpr c20; have c20b1 : ((l0_0.length : Int) != 0) = true := bne_iff_ne.mpr c20; have c20b2 : ¬ (l0_0 = []) := fun h_ => c20 (by rw [h_]; rfl)
       have H' := aS H; clear H
       go_wp2_with (first | ((with_reducible refine gate_builtin (b := .append) (xs := #[.tmp 25, .tmp 27]) rfl ?_); at_builtin; refine Kd.R_append (Kd.int .i64) (w0 := w) w.heap.size rfl (.tmp 25) (.tmp 27) 23 3 (.int .i64 0) 8 rfl Try.underlying23 info3 rfl (by decide) (by omega) u9 x9_1 x7_1 [.int .i64 x7_1] (fun _ => True) (fun _ => False) rfl rfl ?aP (fun _ hk => hk.elim) ?aF ?aO ?aB ?aS ?aL ?_; (case aP => exact rfl); (case aB => exact tB); (case aF => exact (fun _ _ => trivial)); (case aO => exact (tR HO_9.out)); (case aS => exact (below_size tB)); (case aL => have := LMc8.out; omega); intro v361 w21 ho hb hg hat; rw [← Ny360.out] at ho; have n0_ := aS (blk_grown (g := gb358) (o := .cells #[.slice A0_0 l0_0.length c0_0, .slice A0_1 l0_1.length c0_1] 26 (0, 0)) (tK BK358.out) hg (Kd.R_ne HO_9.out BK358.out (by decide))); have n1_ := aS (hb); have n2_ := aS (ho); clear BK358; clear HB; clear HO_9; have BK358 := n0_; have HB := n1_; have HO362 := n2_; clear n0_ n1_ n2_; clear ho hb hg hat; obtain ⟨hcz22_0, hcz22_1, hfz22_0, hfz22_1⟩ := c2 BK358; have p363 : 0 ≤ (x7_1 : Int) := of_decide_eq_true tP; have q363 : x7_1 < (l0_0.length : Int) := of_decide_eq_true tP; obtain ⟨ad363, e363, hx363_0⟩ := Kd.at_int HR0_0.out x7_1 p363 q363; cases e363; replace hx363_0 := cB HB hx363_0; replace p363 := eq_true p363; replace q363 := eq_true q363; have p364 : 0 ≤ ((rd l0_0 x7_1) : Int) := of_decide_eq_true tP; have q364 : (rd l0_0 x7_1) < (l0_1.length : Int) := of_decide_eq_true tP; obtain ⟨ad364, e364, hx364_0, hx364_1, hx364_2, hx364_3⟩ := at_T56 HR0_1.out (rd l0_0 x7_1) p364 q364; cases e364; replace hx364_0 := cB HB hx364_0; replace hx364_1 := cB HB hx364_1; replace hx364_2 := cB HB hx364_2; replace hx364_3 := cB HB hx364_3; replace p364 := eq_true p364; replace q364 := eq_true q364))
       go_roundg k1
       case measure => have := HK1.out; omega
       case rel => exact ⟨(Int.tmod (wrap64 ((wrap64 ((wrap64 (5 * x7_1)) + (wrap64 (Int.tdiv x8_1 8)))) + 1)) (l0_0.length : Int)), (wrap64 (Int.tdiv x8_1 8)), (y360), (wrap64 (x23_1 + 1)), tX, tX, tX, H', ⟨by have := HK1.out; omega⟩, ⟨tR HO362.out⟩, ⟨tZ⟩, ⟨tB⟩⟩
     rw [if_neg c14] at H; have c14b0 : decide (0 ≤ (rd l0_0 x7_1)) = false := decide_eq_false c14; clear c14; by_cases c23 : (l0_0.length : Int) = 0
     · rw [if_pos c23] at H; exact nS H
     rw [if_neg c23] at H; have c23b0 : ((l0_0.length : Int) == 0) = false := beq_eq_false_iff_ne.mpr c23; have c23b1 : ((l0_0.length : Int) != 0) = true := bne_iff_ne.mpr c23; have c23b2 : ¬ (l0_0 = []) := fun h_ => c23 (by rw [h_]; rfl)
     have H' := aS H; clear H
     go_wp2_with (first | ((with_reducible refine gate_builtin (b := .append) (xs := #[.tmp 25, .tmp 27]) rfl ?_); at_builtin; refine Kd.R_append (Kd.int .i64) (w0 := w) w.heap.size rfl (.tmp 25) (.tmp 27) 23 3 (.int .i64 0) 8 rfl Try.underlying23 info3 rfl (by decide) (by omega) u9 x9_1 x7_1 [.int .i64 x7_1] (fun _ => True) (fun _ => False) rfl rfl ?aP (fun _ hk => hk.elim) ?aF ?aO ?aB ?aS ?aL ?_; (case aP => exact rfl); (case aB => exact tB); (case aF => exact (fun _ _ => trivial)); (case aO => exact (tR HO_9.out)); (case aS => exact (below_size tB)); (case aL => have := LMc8.out; omega); intro v361 w24 ho hb hg hat; rw [← Ny360.out] at ho; have n0_ := aS (blk_grown (g := gb358) (o := .cells #[.slice A0_0 l0_0.length c0_0, .slice A0_1 l0_1.length c0_1] 26 (0, 0)) (tK BK358.out) hg (Kd.R_ne HO_9.out BK358.out (by decide))); have n1_ := aS (hb); have n2_ := aS (ho); clear BK358; clear HB; clear HO_9; have BK358 := n0_; have HB := n1_; have HO362 := n2_; clear n0_ n1_ n2_; clear ho hb hg hat; obtain ⟨hcz25_0, hcz25_1, hfz25_0, hfz25_1⟩ := c2 BK358; have p363 : 0 ≤ (x7_1 : Int) := of_decide_eq_true tP; have q363 : x7_1 < (l0_0.length : Int) := of_decide_eq_true tP; obtain ⟨ad363, e363, hx363_0⟩ := Kd.at_int HR0_0.out x7_1 p363 q363; cases e363; replace hx363_0 := cB HB hx363_0; replace p363 := eq_true p363; replace q363 := eq_true q363))
     go_roundg k1
     case measure => have := HK1.out; omega
     case rel => exact ⟨(Int.tmod (wrap64 ((wrap64 ((wrap64 (5 * x7_1)) + (wrap64 (Int.tdiv x8_1 8)))) + 1)) (l0_0.length : Int)), (wrap64 (Int.tdiv x8_1 8)), (y360), (wrap64 (x23_1 + 1)), tX, tX, tX, H', ⟨by have := HK1.out; omega⟩, ⟨tR HO362.out⟩, ⟨tZ⟩, ⟨tB⟩⟩
   rw [if_neg c7] at H; have c7b0 : decide (x23_1 < (wrap64 (65536 + (wrap64 (2 * (l0_0.length : Int)))))) = false := decide_eq_false c7; clear c7; obtain rfl := oI H; go_wp2; go_ret; exact ⟨_, tE, by (with_reducible repeat (first | apply Kd.R_alloc | apply Kd.R_drewN | apply Kd.R_drew)); exact HO_9.out, tB⟩

/-! ### impl_within: function 38 -/
def impl_within.f (a0 : Int) (a1 : Int) (a2 : Int) : Option (Bool) := if a0 ≥ a1 then (some (decide (a0 ≤ a2))) else (some false)
set_option maxHeartbeats 8000000 in
set_option maxRecDepth 100000 in
theorem impl_within.calls (a0 : Int) (a1 : Int) (a2 : Int) (r : Bool) (w : World) (h : impl_within.f a0 a1 a2 = some r) :
 Calls Try.prog 38 #[.int .i64 a0, .int .i64 a1, .int .i64 a2] w fun e w' => e = .returned (.bool r) ∧ Drawn0 w w' := by
 have H : (if a0 ≥ a1 then (some (decide (a0 ≤ a2))) else (some false)) = some r := h; clear h; by_cases c4 : a0 ≥ a1
 · rw [if_pos c4] at H; have c4b0 : decide (a1 ≤ a0) = true := decide_eq_true c4; clear c4; obtain rfl := oI H
   go_enter Try.func38, Try.ntmps38
   go_wp2; go_ret; exact ⟨by first | rfl | (simp; done) | (simp [*]; done), by repeat (first | exact Drawn0.refl _ | apply Drawn0.step)⟩
 rw [if_neg c4] at H; have c4b0 : decide (a1 ≤ a0) = false := decide_eq_false c4; clear c4; obtain rfl := oI H
 go_enter Try.func38, Try.ntmps38
 go_wp2; go_ret; exact ⟨by first | rfl | (simp; done) | (simp [*]; done), by repeat (first | exact Drawn0.refl _ | apply Drawn0.step)⟩

/-! ### impl_Dict_live: function 39 -/
def impl_Dict_live.l0 : Nat → Int → List (S56) → Int → Int → Option (Int)
 | 0, _, _, _, _ => none
 | k + 1, x3, x7, x8, x9 => if x9 < x8 then (if 0 ≤ x9 then (if x9 < (x7.length : Int) then (if (rd_T56 x7 x9).f3 = true then (impl_Dict_live.l0 k (wrap64 (x3 + 1)) x7 x8 (wrap64 (x9 + 1))) else (impl_Dict_live.l0 k x3 x7 x8 (wrap64 (x9 + 1)))) else (none)) else (none)) else (some x3)
def impl_Dict_live.f (k : Nat) (l0_0 : List Int) (l0_1 : List (S56)) : Option (Int) := impl_Dict_live.l0 k 0 l0_1 (l0_1.length : Int) 0
theorem impl_Dict_live.mono_l : ∀ k, (∀ y0 y1 y2 y3, LeO (impl_Dict_live.l0 k y0 y1 y2 y3) (impl_Dict_live.l0 (k + 1) y0 y1 y2 y3))
 | 0 => fun _ _ _ _ r h => by simp [impl_Dict_live.l0] at h
 | k + 1 => by
  have ih0 := impl_Dict_live.mono_l k; intro y0 y1 y2 y3
  unfold impl_Dict_live.l0
  exact tM
theorem impl_Dict_live.mono : ∀ a0 a1 k, LeO (impl_Dict_live.f k a0 a1) (impl_Dict_live.f (k + 1) a0 a1) := by
 intro a0 a1 k; have ih0 := impl_Dict_live.mono_l k
 unfold impl_Dict_live.f
 exact tM
set_option maxHeartbeats 8000000 in
set_option maxRecDepth 100000 in
theorem impl_Dict_live.calls (k : Nat) (A0_0 : Option Addr) (c0_0 : Nat) (l0_0 : List Int) (A0_1 : Option Addr) (c0_1 : Nat) (l0_1 : List (S56)) (r : Int) (w : World) (hr0_0 : Kd.C (Kd.int .i64) w A0_0 l0_0.length l0_0) (hc0_0 : l0_0.length ≤ c0_0) (hr0_1 : Kd.C k56 w A0_1 l0_1.length l0_1) (hc0_1 : l0_1.length ≤ c0_1) (h : impl_Dict_live.f k l0_0 l0_1 = some r) :
 Calls Try.prog 39 #[.agg #[.slice A0_0 l0_0.length c0_0, .slice A0_1 l0_1.length c0_1]] w fun e w' => e = .returned (.int .i64 r) ∧ Below w.heap.size w w' := by
 have hu26 := Try.underlying26; have hu56 := Try.underlying56; have HR0_0 := aS hr0_0; have HC0_0 := aS hc0_0; clear hr0_0 hc0_0; have HR0_1 := aS hr0_1; have HC0_1 := aS hc0_1; clear hr0_1 hc0_1; have HB := aS (Below.refl w.heap.size w); have H : (impl_Dict_live.l0 k 0 l0_1 (l0_1.length : Int) 0) = some r := h; clear h; have H' := aS H; clear H
 go_enter Try.func39, Try.ntmps39
 go_wp2_with (first | ((with_reducible refine gD 1 ?_); refine boxS (N := 1) (cs := #[.slice A0_0 l0_0.length c0_0, .slice A0_1 l0_1.length c0_1]) (t := 26) ?_; intro gb365 hg w2 hbox hb; have BK365 := aS (hbox); have GW365 := gW (w := w) hg tB; have GE365 := GW365; replace HB := aS (below_step tB hb); clear hb hbox hg; have hcz3_0 := cA BK365 0; have hcz3_1 := cA BK365 1; have hfz3_0 := bF BK365 0; have hfz3_1 := bF BK365 1))
 go_loopg [3, 9] k (fun kq v3 v9 w' => ∃ (x3_1 : Int) (x9_1 : Int), v3 = .int .i64 x3_1 ∧ v9 = .int .i64 x9_1 ∧ Aside0 (impl_Dict_live.l0 kq x3_1 l0_1 (l0_1.length : Int) x9_1 = some r) ∧ Aside0 (kq ≤ k) ∧ Aside0 (w'.heap[gb365]? = some (.cells #[(.slice A0_0 l0_0.length c0_0), (.slice A0_1 l0_1.length c0_1)] 26 (0, 0))) ∧ Aside0 (Below w.heap.size w w'))
 case atStart => exact ⟨(0), (0), tX, tX, H', ⟨Nat.le_refl _⟩, ⟨tZ⟩, ⟨tB⟩⟩
 case round =>
  clear H'; clear hcz3_0 hcz3_1 hfz3_0 hfz3_1; obtain ⟨x3_1, x9_1, rfl, rfl, HA, HK1, BK365, HB⟩ := hrel
  cases gk with
  | zero => exact absurd HA.out (by simp [impl_Dict_live.l0])
  | succ k1 =>
   have H := HA.out; clear HA; simp only [impl_Dict_live.l0] at H; by_cases c4 : x9_1 < (l0_1.length : Int)
   · rw [if_pos c4] at H; have c4b0 : decide (x9_1 < (l0_1.length : Int)) = true := decide_eq_true c4; clear c4; by_cases c5 : 0 ≤ x9_1
     case neg =>
      rw [if_neg c5] at H; exact nS H
     rw [if_pos c5] at H; have c5b0 : decide (0 ≤ x9_1) = true := decide_eq_true c5; clear c5; by_cases c6 : x9_1 < (l0_1.length : Int)
     case neg =>
      rw [if_neg c6] at H; exact nS H
     rw [if_pos c6] at H; have c6b0 : decide (x9_1 < (l0_1.length : Int)) = true := decide_eq_true c6; clear c6; obtain ⟨bq7, hbq7⟩ : ∃ b_ : Bool, b_ = ((rd_T56 l0_1 x9_1).f3) := ⟨_, rfl⟩
     replace H : (if bq7 = true then (impl_Dict_live.l0 k1 (wrap64 (x3_1 + 1)) l0_1 (l0_1.length : Int) (wrap64 (x9_1 + 1))) else (impl_Dict_live.l0 k1 x3_1 l0_1 (l0_1.length : Int) (wrap64 (x9_1 + 1)))) = some r := by rw [← hbq7] at H; exact H
     have Nbq7 := aS hbq7; clear hbq7; by_cases c8 : bq7 = true
     · subst c8; have H1 : (impl_Dict_live.l0 k1 (wrap64 (x3_1 + 1)) l0_1 (l0_1.length : Int) (wrap64 (x9_1 + 1))) = some r := by rw [if_pos rfl] at H; exact H
       clear H; have H := H1; clear H1; have H' := aS H; clear H; have p366 : 0 ≤ (x9_1 : Int) := of_decide_eq_true tP; have q366 : x9_1 < (l0_1.length : Int) := of_decide_eq_true tP; obtain ⟨ad366, e366, hx366_0, hx366_1, hx366_2, hx366_3⟩ := at_T56 HR0_1.out x9_1 p366 q366
       (try rw [← Nbq7.out] at hx366_3); (try rw [← Nbq7.out] at hw366_3)
       cases e366; replace hx366_0 := cB HB hx366_0; replace hx366_1 := cB HB hx366_1; replace hx366_2 := cB HB hx366_2; replace hx366_3 := cB HB hx366_3; replace p366 := eq_true p366; replace q366 := eq_true q366
       go_wp2_with (first | ((with_reducible refine gD 5 ?_); refine boxS (N := 5) (cs := #[.string (⟨#[]⟩ : ByteArray), .int .i64 0, .int .i64 0, .bool false]) (t := 56) ?_; intro gb367 hg w9 hbox hb; have BK367 := aS (hbox); have GW367 := gW (w := w) hg tB; have GE367 := GW367; have NB365_367 := nL hg BK365; have NB367_365 := nR hg BK365; replace BK365 := bB BK365 hb; replace HB := aS (below_step tB hb); clear hb hbox hg; obtain ⟨hnb10, hnc10⟩ := bO NB367_365 NB365_367; have hcz11_0 := cA BK367 0; have hcz11_1 := cA BK367 1; have hcz11_2 := cA BK367 2; have hcz11_3 := cA BK367 3; have hfz11_0 := bF BK367 0; have hfz11_1 := bF BK367 1; have hfz11_2 := bF BK367 2; have hfz11_3 := bF BK367 3))
       go_roundg k1
       case measure => have := HK1.out; omega
       case rel => exact ⟨(wrap64 (x3_1 + 1)), (wrap64 (x9_1 + 1)), tX, tX, H', ⟨by have := HK1.out; omega⟩, ⟨tZ⟩, ⟨tB⟩⟩
     replace c8 := Bool.eq_false_iff.mpr c8; subst c8; have H1 : (impl_Dict_live.l0 k1 x3_1 l0_1 (l0_1.length : Int) (wrap64 (x9_1 + 1))) = some r := by rw [if_neg (show ¬ (false = true) by decide)] at H; exact H
     clear H; have H := H1; clear H1; have H' := aS H; clear H; have p366 : 0 ≤ (x9_1 : Int) := of_decide_eq_true tP; have q366 : x9_1 < (l0_1.length : Int) := of_decide_eq_true tP; obtain ⟨ad366, e366, hx366_0, hx366_1, hx366_2, hx366_3⟩ := at_T56 HR0_1.out x9_1 p366 q366
     (try rw [← Nbq7.out] at hx366_3); (try rw [← Nbq7.out] at hw366_3)
     cases e366; replace hx366_0 := cB HB hx366_0; replace hx366_1 := cB HB hx366_1; replace hx366_2 := cB HB hx366_2; replace hx366_3 := cB HB hx366_3; replace p366 := eq_true p366; replace q366 := eq_true q366
     go_wp2_with (first | ((with_reducible refine gD 5 ?_); refine boxS (N := 5) (cs := #[.string (⟨#[]⟩ : ByteArray), .int .i64 0, .int .i64 0, .bool false]) (t := 56) ?_; intro gb367 hg w12 hbox hb; have BK367 := aS (hbox); have GW367 := gW (w := w) hg tB; have GE367 := GW367; have NB365_367 := nL hg BK365; have NB367_365 := nR hg BK365; replace BK365 := bB BK365 hb; replace HB := aS (below_step tB hb); clear hb hbox hg; obtain ⟨hnb13, hnc13⟩ := bO NB367_365 NB365_367; have hcz14_0 := cA BK367 0; have hcz14_1 := cA BK367 1; have hcz14_2 := cA BK367 2; have hcz14_3 := cA BK367 3; have hfz14_0 := bF BK367 0; have hfz14_1 := bF BK367 1; have hfz14_2 := bF BK367 2; have hfz14_3 := bF BK367 3))
     go_roundg k1
     case measure => have := HK1.out; omega
     case rel => exact ⟨(x3_1), (wrap64 (x9_1 + 1)), tX, tX, H', ⟨by have := HK1.out; omega⟩, ⟨tZ⟩, ⟨tB⟩⟩
   rw [if_neg c4] at H; have c4b0 : decide (x9_1 < (l0_1.length : Int)) = false := decide_eq_false c4; clear c4; obtain rfl := oI H; go_wp2; go_ret; exact ⟨tE, tB⟩

/-! ### slices_Index_int_int: function 72 -/
def slices_Index_int_int.l0 : Nat → List Int → Int → Int → Int → Option (Int)
 | 0, _, _, _, _ => none
 | k + 1, x0, x1, x7, x8 => if x8 < x7 then (if 0 ≤ x8 then (if x8 < (x0.length : Int) then (if x1 = (rd x0 x8) then (some x8) else (slices_Index_int_int.l0 k x0 x1 x7 (wrap64 (x8 + 1)))) else (none)) else (none)) else (some (-1))
def slices_Index_int_int.f (k : Nat) (l0 : List Int) (a1 : Int) : Option (Int) := slices_Index_int_int.l0 k l0 a1 (l0.length : Int) 0
theorem slices_Index_int_int.mono_l : ∀ k, (∀ y0 y1 y2 y3, LeO (slices_Index_int_int.l0 k y0 y1 y2 y3) (slices_Index_int_int.l0 (k + 1) y0 y1 y2 y3))
 | 0 => fun _ _ _ _ r h => by simp [slices_Index_int_int.l0] at h
 | k + 1 => by
  have ih0 := slices_Index_int_int.mono_l k; intro y0 y1 y2 y3
  unfold slices_Index_int_int.l0
  exact tM
theorem slices_Index_int_int.mono : ∀ a0 a1 k, LeO (slices_Index_int_int.f k a0 a1) (slices_Index_int_int.f (k + 1) a0 a1) := by
 intro a0 a1 k; have ih0 := slices_Index_int_int.mono_l k
 unfold slices_Index_int_int.f
 exact tM
set_option maxHeartbeats 8000000 in
set_option maxRecDepth 100000 in
theorem slices_Index_int_int.calls (k : Nat) (A0 : Option Addr) (c0 : Nat) (l0 : List Int) (a1 : Int) (r : Int) (w : World) (hr0 : Kd.C (Kd.int .i64) w A0 l0.length l0) (hc0 : l0.length ≤ c0) (h : slices_Index_int_int.f k l0 a1 = some r) :
 Calls Try.prog 72 #[.slice A0 l0.length c0, .int .i64 a1] w fun e w' => e = .returned (.int .i64 r) ∧ Drawn0 w w' := by
 have HR0 := aS hr0; have HC0 := aS hc0; clear hr0 hc0; have H : (slices_Index_int_int.l0 k l0 a1 (l0.length : Int) 0) = some r := h; clear h; have H' := aS H; clear H
 go_enter Try.func72, Try.ntmps72
 go_wp2
 go_loopg [8] k (fun kq v8 w' => ∃ (x8_1 : Int), v8 = .int .i64 x8_1 ∧ Aside0 (slices_Index_int_int.l0 kq l0 a1 (l0.length : Int) x8_1 = some r) ∧ Aside0 (kq ≤ k) ∧ Drawn0 w w')
 case atStart => exact ⟨(0), tX, H', ⟨Nat.le_refl _⟩, by repeat (first | exact Drawn0.refl _ | apply Drawn0.step)⟩
 case round =>
  clear H'; obtain ⟨x8_1, rfl, HA, HK1, ⟨m1, rfl⟩⟩ := hrel
  cases gk with
  | zero => exact absurd HA.out (by simp [slices_Index_int_int.l0])
  | succ k1 =>
   have H := HA.out; clear HA; simp only [slices_Index_int_int.l0] at H; by_cases c3 : x8_1 < (l0.length : Int)
   · rw [if_pos c3] at H; have c3b0 : decide (x8_1 < (l0.length : Int)) = true := decide_eq_true c3; clear c3; by_cases c4 : 0 ≤ x8_1
     case neg =>
      rw [if_neg c4] at H; exact nS H
     rw [if_pos c4] at H; have c4b0 : decide (0 ≤ x8_1) = true := decide_eq_true c4; clear c4; by_cases c5 : x8_1 < (l0.length : Int)
     case neg =>
      rw [if_neg c5] at H; exact nS H
     rw [if_pos c5] at H; have c5b0 : decide (x8_1 < (l0.length : Int)) = true := decide_eq_true c5; clear c5; by_cases c6 : a1 = (rd l0 x8_1)
     · rw [if_pos c6] at H; have c6b0 : (a1 == (rd l0 x8_1)) = true := beq_iff_eq.mpr c6; have c6b1 : (a1 != (rd l0 x8_1)) = false := bne_eq_false_iff_eq.mpr c6; clear c6; obtain rfl := oI H; have p368 : 0 ≤ (x8_1 : Int) := of_decide_eq_true tP; have q368 : x8_1 < (l0.length : Int) := of_decide_eq_true tP; obtain ⟨ad368, e368, hx368_0⟩ := Kd.at_int HR0.out x8_1 p368 q368; cases e368; replace p368 := eq_true p368; replace q368 := eq_true q368; go_wp2; go_ret; exact ⟨by first | rfl | (simp; done) | (simp [*]; done), by repeat (first | exact Drawn0.refl _ | apply Drawn0.step)⟩
     rw [if_neg c6] at H; have c6b0 : (a1 == (rd l0 x8_1)) = false := beq_eq_false_iff_ne.mpr c6; have c6b1 : (a1 != (rd l0 x8_1)) = true := bne_iff_ne.mpr c6; have H' := aS H; clear H; have p368 : 0 ≤ (x8_1 : Int) := of_decide_eq_true tP; have q368 : x8_1 < (l0.length : Int) := of_decide_eq_true tP; obtain ⟨ad368, e368, hx368_0⟩ := Kd.at_int HR0.out x8_1 p368 q368; cases e368; replace p368 := eq_true p368; replace q368 := eq_true q368; go_wp2; go_roundg k1
     case measure => have := HK1.out; omega
     case rel => exact ⟨(wrap64 (x8_1 + 1)), tX, H', ⟨by have := HK1.out; omega⟩, by repeat (first | exact Drawn0.refl _ | apply Drawn0.step)⟩
   rw [if_neg c3] at H; have c3b0 : decide (x8_1 < (l0.length : Int)) = false := decide_eq_false c3; clear c3; obtain rfl := oI H; go_wp2; go_ret; exact ⟨by first | rfl | (simp; done) | (simp [*]; done), by repeat (first | exact Drawn0.refl _ | apply Drawn0.step)⟩

/-! ### slices_Contains_int_int: function 42 -/
def slices_Contains_int_int.f (k : Nat) (l0 : List Int) (a1 : Int) : Option (Bool) := (slices_Index_int_int.f k l0 a1).bind fun t369 => (some (decide (t369 ≥ 0)))
theorem slices_Contains_int_int.mono : ∀ a0 a1 k, LeO (slices_Contains_int_int.f k a0 a1) (slices_Contains_int_int.f (k + 1) a0 a1) := by
 intro a0 a1 k
 unfold slices_Contains_int_int.f
 have m0_ := @slices_Index_int_int.mono; exact tM
set_option maxHeartbeats 8000000 in
set_option maxRecDepth 100000 in
theorem slices_Contains_int_int.calls (k : Nat) (A0 : Option Addr) (c0 : Nat) (l0 : List Int) (a1 : Int) (r : Bool) (w : World) (hr0 : Kd.C (Kd.int .i64) w A0 l0.length l0) (hc0 : l0.length ≤ c0) (h : slices_Contains_int_int.f k l0 a1 = some r) :
 Calls Try.prog 42 #[.slice A0 l0.length c0, .int .i64 a1] w fun e w' => e = .returned (.bool r) ∧ Drawn0 w w' := by
 have HR0 := aS hr0; have HC0 := aS hc0; clear hr0 hc0; have H : ((slices_Index_int_int.f k l0 a1).bind fun t369 => (some (decide (t369 ≥ 0)))) = some r := h; clear h; replace H := oB H; obtain ⟨t369, A30, H⟩ := H; replace H : (some (decide (t369 ≥ 0))) = some r := H; have A3 := aS A30; clear A30; obtain rfl := oI H
 go_enter Try.func42, Try.ntmps42
 go_wp2_with (first | ((with_reducible refine gC 72 ?_); refine goS (some 7) Try.func72 #[.slice A0 l0.length c0, .int .i64 a1] ?_; (with_reducible refine (slices_Index_int_int.calls k _ _ l0 a1 t369 _ ?side1 ?side2 A3.out).mono ?_); (case side1 => exact tC HR0.out); (case side2 => exact HC0.out); rintro e w' ⟨rfl, ⟨nd, rfl⟩⟩; refine ⟨_, rfl, ?_⟩))
 go_ret; exact ⟨by first | rfl | (simp; done) | (simp [*]; done), by repeat (first | exact Drawn0.refl _ | apply Drawn0.step)⟩

end Go.Proofs.Ytihcollncjcpgaa.P
