/- The walk of the law FnDictAgain: with what its calls come to, it returns true and leaves what was there. Conditions: those that each theorem names (what the functions that it calls come to). -/
import Derived.Test.YtihcollncjcpgaaLwUndone
namespace Go.Proofs.Ytihcollncjcpgaa.P
open Go.RowKit Go.Proofs.YtihcollncjcpgaaW.PrintWords Go.Proofs.YtihcollncjcpgaaW.PrintLast Go.Proofs.YtihcollncjcpgaaW.PrintMore
set_option linter.unusedVariables false
set_option linter.unusedSimpArgs false

set_option maxHeartbeats 8000000 in
set_option maxRecDepth 100000 in
theorem again_no {l0 I J : List Int} {E F : List S56} {key : ByteArray} {v : Int} {A0 : Option Addr} {c0 : Nat} {w : World} (r0 : Aside0 (Rd (Kd.int .u8) w A0 c0 l0)) (hl : l0.length ≤ 1048576)
    (h1 : Aside0 (Ev (fun k => spec_DrawDictSet.f k l0) (I, E, key, v))) (h2 : Aside0 (Ev (fun k => impl_DictSet.f k I E key v) (J, F, false))) (h3 : Aside0 (Ev (fun k => spec_DictSet.f k I E key v) (J, F, false))) (h4 : Aside0 (Ev (fun k => spec_SameDict.f k J F J F) true)) :
    Calls Try.prog 4 #[.slice A0 l0.length c0] w fun e w' => e = .returned (.bool true) ∧ Below w.heap.size w w' := by
  have hu26 := Try.underlying26
  have b0 : decide (1048576 < (l0.length : Int)) = false := decide_eq_false (by omega)
  have b1 : decide (1048576 < l0.length) = false := decide_eq_false (by omega)
  clear hl
  go_enter Try.func4, Try.ntmps4
  go_wp2_with (first
    | ((with_reducible refine gC 16 ?_); refine goS (some 19) Try.func16 #[.slice A0 l0.length c0] ?_; refine (cDrawS h1.out r0.out).mono ?_; rintro e w1 ⟨A1, c1, A2, d2, rfl, R1, R2, B1⟩; refine ⟨_, rfl, ?_⟩)
    | ((with_reducible refine gD 3 ?_); refine boxS (N := 3) (cs := #[.slice none 0 0, .slice none 0 0]) (t := 26) ?_; intro g1 hg w2 hk hb; have G1 := aS hg; have K1 := aS hk; have B2 := aS hb; clear hg hk hb; obtain ⟨z1, z2, z3, z4⟩ := c2 K1)
    | ((with_reducible refine gS 26 3 (.tmp 20) ?_); refine storeN (cs' := #[.slice A1 I.length c1, .slice A2 E.length d2]) G1 B2 K1 ?_; clear K1 B2; clear z1 z2 z3 z4; intro w3 K1 B3; obtain ⟨z5, z6, z7, z8⟩ := c2 K1)
    | ((with_reducible refine gC 13 ?_); refine goS (some 27) Try.func13 #[.agg #[.slice A1 I.length c1, .slice A2 E.length d2], .string key, .int .i64 v] ?_; refine (cSet h2.out R1 R2 tL).mono ?_; clear z5 z6 z7 z8; rintro e w4 ⟨A3, c3, A4, d4, rfl, R3, R4, B4⟩; refine ⟨_, rfl, ?_⟩; replace K1 := bW K1 B4)
    | ((with_reducible refine gD 6 ?_); refine boxS (N := 6) (cs := #[.slice none 0 0, .slice none 0 0]) (t := 26) ?_; intro g2 hg w5 hk hb; have G2 := aS hg; have K2 := aS hk; have B5 := aS hb; clear hg hk hb; obtain ⟨z9, z10, z11, z12⟩ := c2 K2)
    | ((with_reducible refine gS 26 6 (.tmp 28) ?_); refine storeN (cs' := #[.slice A3 J.length c3, .slice A4 F.length d4]) G2 B5 K2 ?_; clear K2 B5; clear z9 z10 z11 z12; intro w6 K2 B6; replace K1 := bW K1 B6; obtain ⟨z13, z14, z15, z16⟩ := c2 K1)
    | ((with_reducible refine gC 17 ?_); refine goS (some 34) Try.func17 #[.agg #[.slice A1 I.length c1, .slice A2 E.length d2], .string key, .int .i64 v] ?_; refine (cSetS h3.out R1 R2 tL).mono ?_; clear z13 z14 z15 z16; rintro e w7 ⟨A5, c5, A6, d6, rfl, R5, R6, B7⟩; refine ⟨_, rfl, ?_⟩; replace K1 := bW K1 B7; replace K2 := bW K2 B7)
    | ((with_reducible refine gD 8 ?_); refine boxS (N := 8) (cs := #[.slice none 0 0, .slice none 0 0]) (t := 26) ?_; intro g3 hg w8 hk hb; have G3 := aS hg; have K3 := aS hk; have B8 := aS hb; clear hg hk hb; obtain ⟨z17, z18, z19, z20⟩ := c2 K3)
    | ((with_reducible refine gS 26 8 (.tmp 35) ?_); refine storeN (cs' := #[.slice A5 J.length c5, .slice A6 F.length d6]) G3 B8 K3 ?_; clear K3 B8; clear z17 z18 z19 z20; intro w9 K3 B9; replace K1 := bW K1 B9; replace K2 := bW K2 B9; obtain ⟨z21, z22, z23, z24⟩ := c2 K2; obtain ⟨z25, z26, z27, z28⟩ := c2 K3)
    | (go_at_call 11; refine (cSame h4.out R3 R4 tL R5 R6 tL).mono ?_; clear z21 z22 z23 z24 z25 z26 z27 z28; rintro e w10 ⟨rfl, B10⟩; clear K3; replace K1 := bW K1 B10; replace K2 := bW K2 B10))
  try go_wp2
  go_ret
  exact ⟨by first | rfl | (simp; done) | (simp [*]; done), tL⟩
def again_T12 : Bool × List (List Nat × List Nat) := (true, [([], []), ([0], [0]), ([1], [1]), ([2], [2]), ([3, 2], [2, 3]), ([4, 2], [2, 4]), ([2, 5], [2, 5]), ([6, 2], [6]), ([7], [7]), ([8, 7, 7], [7, 8]), ([9], [9]), ([9, 10, 7], [7, 9, 10]), ([11, 9, 7], [7, 11]), ([12], [12]), ([12], [12]), ([14, 12], [12, 14]), ([13, 15, 12], [12, 13, 15]), ([12, 16, 7], [7, 12, 16]), ([17, 12, 7], [7, 17]), ([18], [18]), ([19, 18, 18], [18, 19]), ([18], [18]), ([21, 20, 18], [18, 21]), ([20, 22, 22, 18], [18, 20, 22]), ([18, 23, 7], [7, 18, 23]), ([24, 23, 7], [7, 24]), ([25], [25]), ([26, 25], [25, 26]), ([27, 25], [25, 27]), ([25], [25]), ([29, 25], [25, 29]), ([30, 25], [25, 30]), ([28, 31, 25], [25, 28, 31]), ([25, 32, 7], [7, 25, 32]), ([7, 33], [7, 33]), ([34, 25, 0, 1, 2, 3, 4, 5, 6, 7, 8, 9, 10, 11, 12, 13, 14, 15, 16, 17, 18, 19, 20, 21, 22, 23, 24, 25, 26, 27, 28, 29, 30, 31, 32, 33, 34], [34])])
def again_B12 : List Nat := [0, 1, 3, 7, 15, 31, 63, 127, 255, 511, 1023, 2047, 4095, 8191, 8191, 24575, 65535, 131071, 262143, 524287, 1048575, 524287, 4194303, 8388607, 16777215, 33554431, 67108863, 134217727, 268435455, 67108863, 603979775, 1677721599, 4294967295, 8589934591, 17179869183, 34359738367]
theorem again_tab12 : rtab .any (opsOf Try.f4 12) = again_T12 := by kernel_rfl
theorem again_bits12 : waitsOk again_T12.2 again_B12 = true := by kernel_rfl
set_option maxHeartbeats 8000000 in
set_option maxRecDepth 100000 in
theorem again_big {l0 I J : List Int} {E F : List S56} {key : ByteArray} {v : Int} {A0 : Option Addr} {c0 : Nat} {w : World} (r0 : Aside0 (Rd (Kd.int .u8) w A0 c0 l0)) (hl : l0.length ≤ 1048576)
    (h1 : Aside0 (Ev (fun k => spec_DrawDictSet.f k l0) (I, E, key, v))) (h2 : Aside0 (Ev (fun k => impl_DictSet.f k I E key v) (J, F, true))) (h3 : Aside0 (Ev (fun k => spec_DictSet.f k I E key v) (J, F, true))) (h4 : Aside0 (Ev (fun k => spec_SameDict.f k J F J F) true))
    {x : Int} {S : List Int} {T : List S56} {there : Bool} (h6 : Aside0 (Ev (fun k => impl_DictSet.f k J F key (v + 1)) (S, T, false))) (h7 : Aside0 (Ev (fun k => impl_DictGet.f k S T key) (x, there))) (hv : 1000000 < v + 1) (hv' : v ≤ 1000000) :
    Calls Try.prog 4 #[.slice A0 l0.length c0] w fun e w' => e = .returned (.bool true) ∧ Below w.heap.size w w' := by
  have hu26 := Try.underlying26
  have b0 : decide (1048576 < (l0.length : Int)) = false := decide_eq_false (by omega)
  have b1 : decide (1048576 < l0.length) = false := decide_eq_false (by omega)
  clear hl
  have hw1 : IntKind.i64.wrap (v + 1) = v + 1 := by rw [i64_w]; unfold wrap64; omega
  have hw2 : wrap64 (v + 1) = v + 1 := by unfold wrap64; omega
  have b2 : decide (1000000 < v + 1) = true := decide_eq_true hv
  go_enter Try.func4, Try.ntmps4
  go_wp2_with (first
    | ((with_reducible refine gC 16 ?_); refine goS (some 19) Try.func16 #[.slice A0 l0.length c0] ?_; refine (cDrawS h1.out r0.out).mono ?_; rintro e w1 ⟨A1, c1, A2, d2, rfl, R1, R2, B1⟩; refine ⟨_, rfl, ?_⟩)
    | ((with_reducible refine gD 3 ?_); refine boxS (N := 3) (cs := #[.slice none 0 0, .slice none 0 0]) (t := 26) ?_; intro g1 hg w2 hk hb; have G1 := aS hg; have K1 := aS hk; have B2 := aS hb; clear hg hk hb; obtain ⟨z1, z2, z3, z4⟩ := c2 K1)
    | ((with_reducible refine gS 26 3 (.tmp 20) ?_); refine storeN (cs' := #[.slice A1 I.length c1, .slice A2 E.length d2]) G1 B2 K1 ?_; clear K1 B2; clear z1 z2 z3 z4; intro w3 K1 B3; obtain ⟨z5, z6, z7, z8⟩ := c2 K1)
    | ((with_reducible refine gC 13 ?_); refine goS (some 27) Try.func13 #[.agg #[.slice A1 I.length c1, .slice A2 E.length d2], .string key, .int .i64 v] ?_; refine (cSet h2.out R1 R2 tL).mono ?_; clear z5 z6 z7 z8; rintro e w4 ⟨A3, c3, A4, d4, rfl, R3, R4, B4⟩; refine ⟨_, rfl, ?_⟩; replace K1 := bW K1 B4)
    | ((with_reducible refine gD 6 ?_); refine boxS (N := 6) (cs := #[.slice none 0 0, .slice none 0 0]) (t := 26) ?_; intro g2 hg w5 hk hb; have G2 := aS hg; have K2 := aS hk; have B5 := aS hb; clear hg hk hb; obtain ⟨z9, z10, z11, z12⟩ := c2 K2)
    | ((with_reducible refine gS 26 6 (.tmp 28) ?_); refine storeN (cs' := #[.slice A3 J.length c3, .slice A4 F.length d4]) G2 B5 K2 ?_; clear K2 B5; clear z9 z10 z11 z12; intro w6 K2 B6; replace K1 := bW K1 B6; obtain ⟨z13, z14, z15, z16⟩ := c2 K1)
    | ((with_reducible refine gC 17 ?_); refine goS (some 34) Try.func17 #[.agg #[.slice A1 I.length c1, .slice A2 E.length d2], .string key, .int .i64 v] ?_; refine (cSetS h3.out R1 R2 tL).mono ?_; clear z13 z14 z15 z16; rintro e w7 ⟨A5, c5, A6, d6, rfl, R5, R6, B7⟩; refine ⟨_, rfl, ?_⟩; replace K1 := bW K1 B7; replace K2 := bW K2 B7)
    | ((with_reducible refine gD 8 ?_); refine boxS (N := 8) (cs := #[.slice none 0 0, .slice none 0 0]) (t := 26) ?_; intro g3 hg w8 hk hb; have G3 := aS hg; have K3 := aS hk; have B8 := aS hb; clear hg hk hb; obtain ⟨z17, z18, z19, z20⟩ := c2 K3)
    | ((with_reducible refine gS 26 8 (.tmp 35) ?_); refine storeN (cs' := #[.slice A5 J.length c5, .slice A6 F.length d6]) G3 B8 K3 ?_; clear K3 B8; clear z17 z18 z19 z20; intro w9 K3 B9; replace K1 := bW K1 B9; replace K2 := bW K2 B9; obtain ⟨z21, z22, z23, z24⟩ := c2 K2; obtain ⟨z25, z26, z27, z28⟩ := c2 K3)
    | (go_at_call 11; refine (cSame h4.out R3 R4 tL R5 R6 tL).mono ?_; clear z21 z22 z23 z24 z25 z26 z27 z28; rintro e w10 ⟨rfl, B10⟩; clear K3; clear K1; replace K2 := bW K2 B10; obtain ⟨z29, z30, z31, z32⟩ := c2 K2)
    | ((with_reducible refine gC 13 ?_); refine goS (some 53) Try.func13 #[.agg #[.slice A3 J.length c3, .slice A4 F.length d4], .string key, .int .i64 (v + 1)] ?_; refine (cSet h6.out R3 R4 tL).mono ?_; clear z29 z30 z31 z32; rintro e w11 ⟨A7, c7, A8, d8, rfl, R7, R8, B11⟩; refine ⟨_, rfl, ?_⟩; replace K2 := bW K2 B11)
    | ((with_reducible refine gD 10 ?_); refine boxS (N := 10) (cs := #[.slice none 0 0, .slice none 0 0]) (t := 26) ?_; intro g4 hg w12 hk hb; have G4 := aS hg; have K4 := aS hk; have B12 := aS hb; clear hg hk hb; obtain ⟨z33, z34, z35, z36⟩ := c2 K4)
    | ((with_reducible refine gS 26 10 (.tmp 54) ?_); refine storeN (cs' := #[.slice A7 S.length c7, .slice A8 T.length d8]) G4 B12 K4 ?_; clear K4 B12; clear z33 z34 z35 z36; intro w13 K4 B13; replace K2 := bW K2 B13; obtain ⟨z37, z38, z39, z40⟩ := c2 K4)
    | ((with_reducible refine gC 12 ?_); refine goS (some 59) Try.func12 #[.agg #[.slice A7 S.length c7, .slice A8 T.length d8], .string key] ?_; refine (cGet h7.out R7 R8 tL).mono ?_; clear z37 z38 z39 z40; rintro e w14 ⟨rfl, B14⟩; refine ⟨_, rfl, ?_⟩; replace K2 := bW K2 B14; replace K4 := bW K4 B14))
  have B15 := bD w14; replace K2 := bW K2 B15; replace K4 := bW K4 B15; refine start_ (n := 36) (S := fun w' => w'.cell? ⟨g4, 0, none⟩ = some (.slice A7 S.length c7) ∧ w'.cell? ⟨g4, 1, none⟩ = some (.slice A8 T.length d8) ∧ w'.cell? ⟨g2, 0, none⟩ = some (.slice A3 J.length c3) ∧ w'.cell? ⟨g2, 1, none⟩ = some (.slice A4 F.length d4)) (ds := []) (.replicate 36 false) (by kernel_rfl) rfl rfl ⟨cl K4 0, cl K4 1, cl K2 0, cl K2 1⟩ (fun hHeld => ?_); refine with_tabW again_tab12 again_bits12 (fun HT_ HW_ => ?_)
  generalize w14.drew = w15 at B15 K2 K4 hHeld ⊢
  refine pN 0 62 ?_; refine pN 1 63 ?_; refine pN 2 64 ?_; refine pN 3 65 ?_; refine pN 4 66 ?_; refine pN 5 67 ?_; refine pN 6 68 ?_; refine pN 7 69 ?_; refine uN 8 70 ?_; refine uN 9 71 ?_; refine uN 10 72 ?_; refine uN 11 73 ?_; refine uN 12 74 ?_; refine uN 13 75 ?_; refine uN 14 76 ?_; refine uN 15 77 ?_; refine uN 16 78 ?_; refine uN 17 79 ?_; refine uN 18 80 ?_; refine uN 19 81 ?_; refine uN 20 82 ?_; refine uN 21 83 ?_; refine uN 22 84 ?_; refine uN 23 85 ?_; refine uN 24 86 ?_; refine uN 25 87 ?_; refine uN 26 88 ?_; refine uN 27 89 ?_; refine uN 28 90 ?_; refine uN 29 91 ?_; refine uN 30 92 ?_; refine uN 31 93 ?_; refine uN 32 94 ?_; refine uN 33 95 ?_; refine pN 34 96 ?_; refine pN 35 2 ?_
  refine dN ?_
  try go_wp2
  go_ret
  exact ⟨by first | rfl | (simp; done) | (simp [*]; done), tL⟩
set_option maxHeartbeats 8000000 in
set_option maxRecDepth 100000 in
theorem again_yes {l0 I J : List Int} {E F : List S56} {key : ByteArray} {v : Int} {A0 : Option Addr} {c0 : Nat} {w : World} (r0 : Aside0 (Rd (Kd.int .u8) w A0 c0 l0)) (hl : l0.length ≤ 1048576)
    (h1 : Aside0 (Ev (fun k => spec_DrawDictSet.f k l0) (I, E, key, v))) (h2 : Aside0 (Ev (fun k => impl_DictSet.f k I E key v) (J, F, true))) (h3 : Aside0 (Ev (fun k => spec_DictSet.f k I E key v) (J, F, true))) (h4 : Aside0 (Ev (fun k => spec_SameDict.f k J F J F) true))
    {S : List Int} {T : List S56} {ks : List ByteArray} (h6 : Aside0 (Ev (fun k => impl_DictSet.f k J F key (v + 1)) (S, T, true))) (h7 : Aside0 (Ev (fun k => impl_DictGet.f k S T key) (v + 1, true)))
    (h8 : Aside0 (Ev (fun k => impl_DictKeys.f k S T) ks)) (h9 : Aside0 (Ev (fun k => impl_DictKeys.f k J F) ks)) (h10 : Aside0 (Ev (fun k => spec_SameTexts.f k ks ks) true)) (hT : Aside0 (T.length = F.length)) (hv : -1000000 ≤ v) (hv' : v ≤ 1000000) :
    Calls Try.prog 4 #[.slice A0 l0.length c0] w fun e w' => e = .returned (.bool true) ∧ Below w.heap.size w w' := by
  have hu26 := Try.underlying26
  have b0 : decide (1048576 < (l0.length : Int)) = false := decide_eq_false (by omega)
  have b1 : decide (1048576 < l0.length) = false := decide_eq_false (by omega)
  clear hl
  have hw1 : IntKind.i64.wrap (v + 1) = v + 1 := by rw [i64_w]; unfold wrap64; omega
  have hw2 : wrap64 (v + 1) = v + 1 := by unfold wrap64; omega
  have b2 : ((T.length : Int) == (F.length : Int)) = true := by rw [hT.out]; simp
  have b3 : (T.length == F.length) = true := by rw [hT.out]; simp
  go_enter Try.func4, Try.ntmps4
  go_wp2_with (first
    | ((with_reducible refine gC 16 ?_); refine goS (some 19) Try.func16 #[.slice A0 l0.length c0] ?_; refine (cDrawS h1.out r0.out).mono ?_; rintro e w1 ⟨A1, c1, A2, d2, rfl, R1, R2, B1⟩; refine ⟨_, rfl, ?_⟩)
    | ((with_reducible refine gD 3 ?_); refine boxS (N := 3) (cs := #[.slice none 0 0, .slice none 0 0]) (t := 26) ?_; intro g1 hg w2 hk hb; have G1 := aS hg; have K1 := aS hk; have B2 := aS hb; clear hg hk hb; obtain ⟨z1, z2, z3, z4⟩ := c2 K1)
    | ((with_reducible refine gS 26 3 (.tmp 20) ?_); refine storeN (cs' := #[.slice A1 I.length c1, .slice A2 E.length d2]) G1 B2 K1 ?_; clear K1 B2; clear z1 z2 z3 z4; intro w3 K1 B3; obtain ⟨z5, z6, z7, z8⟩ := c2 K1)
    | ((with_reducible refine gC 13 ?_); refine goS (some 27) Try.func13 #[.agg #[.slice A1 I.length c1, .slice A2 E.length d2], .string key, .int .i64 v] ?_; refine (cSet h2.out R1 R2 tL).mono ?_; clear z5 z6 z7 z8; rintro e w4 ⟨A3, c3, A4, d4, rfl, R3, R4, B4⟩; refine ⟨_, rfl, ?_⟩; replace K1 := bW K1 B4)
    | ((with_reducible refine gD 6 ?_); refine boxS (N := 6) (cs := #[.slice none 0 0, .slice none 0 0]) (t := 26) ?_; intro g2 hg w5 hk hb; have G2 := aS hg; have K2 := aS hk; have B5 := aS hb; clear hg hk hb; obtain ⟨z9, z10, z11, z12⟩ := c2 K2)
    | ((with_reducible refine gS 26 6 (.tmp 28) ?_); refine storeN (cs' := #[.slice A3 J.length c3, .slice A4 F.length d4]) G2 B5 K2 ?_; clear K2 B5; clear z9 z10 z11 z12; intro w6 K2 B6; replace K1 := bW K1 B6; obtain ⟨z13, z14, z15, z16⟩ := c2 K1)
    | ((with_reducible refine gC 17 ?_); refine goS (some 34) Try.func17 #[.agg #[.slice A1 I.length c1, .slice A2 E.length d2], .string key, .int .i64 v] ?_; refine (cSetS h3.out R1 R2 tL).mono ?_; clear z13 z14 z15 z16; rintro e w7 ⟨A5, c5, A6, d6, rfl, R5, R6, B7⟩; refine ⟨_, rfl, ?_⟩; replace K1 := bW K1 B7; replace K2 := bW K2 B7)
    | ((with_reducible refine gD 8 ?_); refine boxS (N := 8) (cs := #[.slice none 0 0, .slice none 0 0]) (t := 26) ?_; intro g3 hg w8 hk hb; have G3 := aS hg; have K3 := aS hk; have B8 := aS hb; clear hg hk hb; obtain ⟨z17, z18, z19, z20⟩ := c2 K3)
    | ((with_reducible refine gS 26 8 (.tmp 35) ?_); refine storeN (cs' := #[.slice A5 J.length c5, .slice A6 F.length d6]) G3 B8 K3 ?_; clear K3 B8; clear z17 z18 z19 z20; intro w9 K3 B9; replace K1 := bW K1 B9; replace K2 := bW K2 B9; obtain ⟨z21, z22, z23, z24⟩ := c2 K2; obtain ⟨z25, z26, z27, z28⟩ := c2 K3)
    | (go_at_call 11; refine (cSame h4.out R3 R4 tL R5 R6 tL).mono ?_; clear z21 z22 z23 z24 z25 z26 z27 z28; rintro e w10 ⟨rfl, B10⟩; clear K3; clear K1; replace K2 := bW K2 B10; obtain ⟨z29, z30, z31, z32⟩ := c2 K2)
    | ((with_reducible refine gC 13 ?_); refine goS (some 53) Try.func13 #[.agg #[.slice A3 J.length c3, .slice A4 F.length d4], .string key, .int .i64 (v + 1)] ?_; refine (cSet h6.out R3 R4 tL).mono ?_; clear z29 z30 z31 z32; rintro e w11 ⟨A7, c7, A8, d8, rfl, R7, R8, B11⟩; refine ⟨_, rfl, ?_⟩; replace K2 := bW K2 B11)
    | ((with_reducible refine gD 10 ?_); refine boxS (N := 10) (cs := #[.slice none 0 0, .slice none 0 0]) (t := 26) ?_; intro g4 hg w12 hk hb; have G4 := aS hg; have K4 := aS hk; have B12 := aS hb; clear hg hk hb; obtain ⟨z33, z34, z35, z36⟩ := c2 K4)
    | ((with_reducible refine gS 26 10 (.tmp 54) ?_); refine storeN (cs' := #[.slice A7 S.length c7, .slice A8 T.length d8]) G4 B12 K4 ?_; clear K4 B12; clear z33 z34 z35 z36; intro w13 K4 B13; replace K2 := bW K2 B13; obtain ⟨z37, z38, z39, z40⟩ := c2 K4)
    | ((with_reducible refine gC 12 ?_); refine goS (some 59) Try.func12 #[.agg #[.slice A7 S.length c7, .slice A8 T.length d8], .string key] ?_; refine (cGet h7.out R7 R8 tL).mono ?_; clear z37 z38 z39 z40; rintro e w14 ⟨rfl, B14⟩; refine ⟨_, rfl, ?_⟩; replace K2 := bW K2 B14; replace K4 := bW K4 B14))
  have B15 := bD w14; replace K2 := bW K2 B15; replace K4 := bW K4 B15; refine start_ (n := 36) (S := fun w' => w'.cell? ⟨g4, 0, none⟩ = some (.slice A7 S.length c7) ∧ w'.cell? ⟨g4, 1, none⟩ = some (.slice A8 T.length d8) ∧ w'.cell? ⟨g2, 0, none⟩ = some (.slice A3 J.length c3) ∧ w'.cell? ⟨g2, 1, none⟩ = some (.slice A4 F.length d4)) (ds := []) (.replicate 36 false) (by kernel_rfl) rfl rfl ⟨cl K4 0, cl K4 1, cl K2 0, cl K2 1⟩ (fun hHeld => ?_); refine with_tabW again_tab12 again_bits12 (fun HT_ HW_ => ?_)
  generalize w14.drew = w15 at B15 K2 K4 hHeld ⊢
  refine pN 0 62 ?_; refine pN 1 63 ?_; refine pN 2 64 ?_; refine uN 3 65 ?_; refine uN 4 66 ?_; refine uN 5 67 ?_; refine pN 6 68 ?_; refine pN 7 69 ?_; refine pN 8 70 ?_; refine pN 9 71 ?_; refine pN 10 72 ?_; refine pN 11 73 ?_; refine pN 12 74 ?_; refine pN 13 75 ?_; refine pN 14 76 ?_; refine pN 15 77 ?_; refine pN 16 78 ?_; refine pN 17 79 ?_; refine pN 18 80 ?_; refine tN 19 81 ?_; refine tN 21 83 ?_
  refine callN 20 82 Try.func14 #[.agg #[.slice A7 S.length c7, .slice A8 T.length d8]] ?_; refine (cKeys h8.out R7 R8 tL).mono ?_; rintro e w16 ⟨A9, c9, rfl, R9, B16⟩
  replace K2 := bW K2 B16; replace K4 := bW K4 B16; refine ⟨_, rfl, ⟨cl K4 0, cl K4 1, cl K2 0, cl K2 1⟩, ?_⟩; intro a_ ha; clear hHeld; intro hHeld; simp only [Act.put, List.setIfInBounds_toArray, List.set_cons_zero, List.set_cons_succ] at ha; subst ha
  refine callN 22 84 Try.func14 #[.agg #[.slice A3 J.length c3, .slice A4 F.length d4]] ?_; refine (cKeys h9.out R3 R4 tL).mono ?_; rintro e w17 ⟨A10, c10, rfl, R10, B17⟩
  replace K2 := bW K2 B17; replace K4 := bW K4 B17; refine ⟨_, rfl, ⟨cl K4 0, cl K4 1, cl K2 0, cl K2 1⟩, ?_⟩; intro a_ ha; clear hHeld; intro hHeld; simp only [Act.put, List.setIfInBounds_toArray, List.set_cons_zero, List.set_cons_succ] at ha; subst ha
  refine callN 23 85 Try.func18 #[.slice A9 ks.length c9, .slice A10 ks.length c10] ?_; refine (cTexts h10.out R9 tL R10 tL).mono ?_; rintro e w18 ⟨rfl, B18⟩
  replace K2 := bW K2 B18; replace K4 := bW K4 B18; refine ⟨_, rfl, ⟨cl K4 0, cl K4 1, cl K2 0, cl K2 1⟩, ?_⟩; intro a_ ha; clear hHeld; intro hHeld; simp only [Act.put, List.setIfInBounds_toArray, List.set_cons_zero, List.set_cons_succ] at ha; subst ha
  refine pN 24 86 ?_; refine pN 25 87 ?_; refine pN 26 88 ?_; refine pN 29 91 ?_; refine tN 27 89 ?_; refine pN 28 90 ?_; refine tN 30 92 ?_; refine pN 31 93 ?_; refine pN 32 94 ?_; refine pN 33 95 ?_; refine pN 34 96 ?_; refine pN 35 2 ?_
  refine dN ?_
  try go_wp2
  go_ret
  exact ⟨by first | rfl | (simp; done) | (simp [*]; done), tL⟩
end Go.Proofs.Ytihcollncjcpgaa.P
