/- The walk of the law FnDictUndone: with what its calls come to, it returns true and leaves what was there. Conditions: those that each theorem names (what the functions that it calls come to). -/
import Derived.Test.YtihcollncjcpgaaLwDrop
namespace Go.Proofs.Ytihcollncjcpgaa.P
open Go.RowKit Go.Proofs.YtihcollncjcpgaaW.PrintWords Go.Proofs.YtihcollncjcpgaaW.PrintLast Go.Proofs.YtihcollncjcpgaaW.PrintMore
set_option linter.unusedVariables false
set_option linter.unusedSimpArgs false

section
variable {I J : List Int} {E F : List S56} {A A' : Option Addr} {c c' : Nat} {w w1 w2 : World} {key : ByteArray} {v : Int} {b : Bool}
theorem cSetS (h : Ev (fun k => spec_DictSet.f k I E key v) (J, F, b)) (r : Aside0 (Rd (Kd.int .i64) w1 A c I)) (r' : Aside0 (Rd k56 w1 A' c' E)) (hb : Below w1.heap.size w1 w) : DB 17 #[.agg #[.slice A I.length c, .slice A' E.length c'], .string key, .int .i64 v] w J F b := by
  obtain ⟨k, h⟩ := h
  have r := r.out.below hb; have r' := r'.out.below hb
  exact DB.of (spec_DictSet.calls k _ _ I _ _ E key v J F b w r.1 r.2 r'.1 r'.2 (h k (Nat.le_refl _)))
theorem cDictSame {B B' : Option Addr} {d d' : Nat} (h : Ev (fun k => impl_DictSame.f k I E J F) b) (r : Aside0 (Rd (Kd.int .i64) w1 A c I)) (r' : Aside0 (Rd k56 w1 A' c' E)) (hb : Below w1.heap.size w1 w) (q : Aside0 (Rd (Kd.int .i64) w2 B d J)) (q' : Aside0 (Rd k56 w2 B' d' F)) (hb2 : Below w2.heap.size w2 w) :
    Calls Try.prog 25 #[.agg #[.slice A I.length c, .slice A' E.length c'], .agg #[.slice B J.length d, .slice B' F.length d']] w fun e w' => e = .returned (.bool b) ∧ Aside0 (Below w.heap.size w w') := by
  obtain ⟨k, h⟩ := h
  have r := r.out.below hb; have r' := r'.out.below hb
  have q := q.out.below hb2; have q' := q'.out.below hb2
  exact (impl_DictSame.calls k _ _ I _ _ E _ _ J _ _ F b w r.1 r.2 r'.1 r'.2 q.1 q.2 q'.1 q'.2 (h k (Nat.le_refl _))).mono fun e w' ⟨h1, h2⟩ => ⟨h1, ⟨h2⟩⟩
theorem cTexts {l m : List ByteArray} (h : Ev (fun k => spec_SameTexts.f k l m) b) (r : Aside0 (Rd Kd.string w1 A c l)) (hb : Below w1.heap.size w1 w) (q : Aside0 (Rd Kd.string w2 A' c' m)) (hb2 : Below w2.heap.size w2 w) :
    Calls Try.prog 18 #[.slice A l.length c, .slice A' m.length c'] w fun e w' => e = .returned (.bool b) ∧ Aside0 (Below w.heap.size w w') := by
  obtain ⟨k, h⟩ := h
  have r := r.out.below hb; have q := q.out.below hb2
  exact (spec_SameTexts.calls k _ _ l _ _ m b w r.1 r.2 q.1 q.2 (h k (Nat.le_refl _))).mono fun e w' ⟨h1, h2⟩ => ⟨h1, ⟨h2.below⟩⟩
end
theorem cDrawS {l0 : List Int} {I : List Int} {E : List S56} {key : ByteArray} {v : Int} {A : Option Addr} {c : Nat} {w : World} (h : Ev (fun k => spec_DrawDictSet.f k l0) (I, E, key, v)) (r : Rd (Kd.int .u8) w A c l0) :
    Calls Try.prog 16 #[.slice A l0.length c] w fun e w' => ∃ B d B' d', e = .returned (.tuple #[.agg #[.slice B I.length d, .slice B' E.length d'], .string key, .int .i64 v]) ∧ Aside0 (Rd (Kd.int .i64) w' B d I) ∧ Aside0 (Rd k56 w' B' d' E) ∧ Aside0 (Below w.heap.size w w') := by
  obtain ⟨k, h⟩ := h
  refine (spec_DrawDictSet.calls k _ _ l0 I E key v w r.1 r.2 (h k (Nat.le_refl _))).mono ?_
  rintro e w' ⟨v0, v1, rfl, h0, h1, hb⟩
  obtain ⟨A, c, rfl, r0⟩ := Rd.of h0
  obtain ⟨A', c', rfl, r1⟩ := Rd.of h1
  exact ⟨A, c, A', c', rfl, ⟨r0⟩, ⟨r1⟩, ⟨hb⟩⟩
set_option maxHeartbeats 8000000 in
set_option maxRecDepth 100000 in
theorem undone_no {b there : Bool} {l0 I J : List Int} {E F : List S56} {key : ByteArray} {v : Int} {A0 : Option Addr} {c0 : Nat} {w : World} (r0 : Aside0 (Rd (Kd.int .u8) w A0 c0 l0)) (hl : l0.length ≤ 1048576)
    (h1 : Aside0 (Ev (fun k => spec_DrawDictSet.f k l0) (I, E, key, v))) (h2 : Aside0 (Ev (fun k => impl_DictSet.f k I E key v) (J, F, b))) (h3 : Aside0 (Ev (fun k => spec_DictSet.f k I E key v) (J, F, b))) (h4 : Aside0 (Ev (fun k => spec_SameDict.f k J F J F) true))
    {x : Int} (h5 : Aside0 (Ev (fun k => impl_DictGet.f k I E key) (x, there))) (hno : (!b || there) = true) :
    Calls Try.prog 7 #[.slice A0 l0.length c0] w fun e w' => e = .returned (.bool true) ∧ Below w.heap.size w w' := by
  have hu26 := Try.underlying26
  have b0 : decide (1048576 < (l0.length : Int)) = false := decide_eq_false (by omega)
  have b1 : decide (1048576 < l0.length) = false := decide_eq_false (by omega)
  clear hl
  cases b <;> cases there <;> first | exact absurd hno (by decide) | skip
  all_goals
    clear hno
    go_enter Try.func7, Try.ntmps7
    go_wp2_with (first
      | ((with_reducible refine gC 16 ?_); refine goS (some 19) Try.func16 #[.slice A0 l0.length c0] ?_; refine (cDrawS h1.out r0.out).mono ?_; rintro e w1 ⟨A1, c1, A2, d2, rfl, R1, R2, B1⟩; refine ⟨_, rfl, ?_⟩)
      | ((with_reducible refine gD 3 ?_); refine boxS (N := 3) (cs := #[.slice none 0 0, .slice none 0 0]) (t := 26) ?_; intro g1 hg w2 hk hb; have G1 := aS hg; have K1 := aS hk; have B2 := aS hb; clear hg hk hb; obtain ⟨z1, z2, z3, z4⟩ := c2 K1)
      | ((with_reducible refine gS 26 3 (.tmp 20) ?_); refine storeN (cs' := #[.slice A1 I.length c1, .slice A2 E.length d2]) G1 B2 K1 ?_; clear K1 B2; clear z1 z2 z3 z4; intro w3 K1 B3; obtain ⟨z5, z6, z7, z8⟩ := c2 K1)
      | ((with_reducible refine gC 13 ?_); refine goS (some 27) Try.func13 #[.agg #[.slice A1 I.length c1, .slice A2 E.length d2], .string key, .int .i64 v] ?_; refine (cSet h2.out R1 R2 tL).mono ?_; clear z5 z6 z7 z8; rintro e w4 ⟨A3, c3, A4, d4, rfl, R3, R4, B4⟩; refine ⟨_, rfl, ?_⟩; replace K1 := bW K1 B4)
      | ((with_reducible refine gD 6 ?_); refine boxS (N := 6) (cs := #[.slice none 0 0, .slice none 0 0]) (t := 26) ?_; intro g2 hg w5 hk hb; have G2 := aS hg; have K2 := aS hk; have B5 := aS hb; clear hg hk hb; obtain ⟨z9, z10, z11, z12⟩ := c2 K2)
      | ((with_reducible refine gS 26 6 (.tmp 28) ?_); refine storeN (cs' := #[.slice A3 J.length c3, .slice A4 F.length d4]) G2 B5 K2 ?_; clear K2 B5; clear z9 z10 z11 z12; intro w6 K2 B6; replace K1 := bW K1 B6; obtain ⟨z13, z14, z15, z16⟩ := c2 K1)
      | ((with_reducible refine gC 17 ?_); refine goS (some 34) Try.func17 #[.agg #[.slice A1 I.length c1, .slice A2 E.length d2], .string key, .int .i64 v] ?_; refine (cSetS h3.out R1 R2 tL).mono ?_; clear z13 z14 z15 z16; rintro e w7 ⟨A5, c5, A6, d6, rfl, R5, R6, B7⟩; refine ⟨_, rfl, ?_⟩; replace K1 := bW K1 B7; replace K2 := bW K2 B7)
      | ((with_reducible refine gD 8 ?_); refine boxS (N := 8) (cs := #[.slice none 0 0, .slice none 0 0]) (t := 26) ?_; intro g3 hg w8 hk hb; have G3 := aS hg; have K3 := aS hk; have B8 := aS hb; clear hg hk hb; obtain ⟨z17, z18, z19, z20⟩ := c2 K3)
      | ((with_reducible refine gS 26 8 (.tmp 35) ?_); refine storeN (cs' := #[.slice A5 J.length c5, .slice A6 F.length d6]) G3 B8 K3 ?_; clear K3 B8; clear z17 z18 z19 z20; intro w9 K3 B9; replace K1 := bW K1 B9; replace K2 := bW K2 B9; obtain ⟨z21, z22, z23, z24⟩ := c2 K2; obtain ⟨z25, z26, z27, z28⟩ := c2 K3)
      | (go_at_call 11; refine (cSame h4.out R3 R4 tL R5 R6 tL).mono ?_; clear z21 z22 z23 z24 z25 z26 z27 z28; rintro e w10 ⟨rfl, B10⟩; clear K3; replace K1 := bW K1 B10; replace K2 := bW K2 B10; obtain ⟨z29, z30, z31, z32⟩ := c2 K1)
      | ((with_reducible refine gC 12 ?_); refine goS (some 49) Try.func12 #[.agg #[.slice A1 I.length c1, .slice A2 E.length d2], .string key] ?_; refine (cGet h5.out R1 R2 tL).mono ?_; clear z29 z30 z31 z32; rintro e w11 ⟨rfl, B11⟩; refine ⟨_, rfl, ?_⟩; replace K1 := bW K1 B11; replace K2 := bW K2 B11; obtain ⟨z33, z34, z35, z36⟩ := c2 K2))
    go_ret
    exact ⟨by first | rfl | (simp; done), tL⟩
def undone_T12 : Bool × List (List Nat × List Nat) := (true, [([], []), ([0], [0]), ([1], [1]), ([1], [1]), ([2, 3, 1, 1], [1, 2, 3]), ([1, 4], [1, 4]), ([5, 4], [5]), ([6], [6]), ([7, 6, 6], [6, 7]), ([6], [6]), ([9, 8, 6], [6, 9]), ([8, 10, 10, 6], [6, 8, 10]), ([6, 11], [6, 11]), ([12, 11, 0, 1, 2, 3, 4, 5, 6, 7, 8, 9, 10, 11, 12], [12])])
def undone_B12 : List Nat := [0, 1, 3, 3, 15, 31, 63, 127, 255, 127, 1023, 2047, 4095, 8191]
theorem undone_tab12 : rtab .any (opsOf Try.f7 12) = undone_T12 := by kernel_rfl
theorem undone_bits12 : waitsOk undone_T12.2 undone_B12 = true := by kernel_rfl
set_option maxHeartbeats 8000000 in
set_option maxRecDepth 100000 in
theorem undone_yes {l0 I J : List Int} {E F : List S56} {key : ByteArray} {v : Int} {A0 : Option Addr} {c0 : Nat} {w : World} (r0 : Aside0 (Rd (Kd.int .u8) w A0 c0 l0)) (hl : l0.length ≤ 1048576)
    (h1 : Aside0 (Ev (fun k => spec_DrawDictSet.f k l0) (I, E, key, v))) (h2 : Aside0 (Ev (fun k => impl_DictSet.f k I E key v) (J, F, true))) (h3 : Aside0 (Ev (fun k => spec_DictSet.f k I E key v) (J, F, true))) (h4 : Aside0 (Ev (fun k => spec_SameDict.f k J F J F) true))
    {x : Int} {S : List Int} {T : List S56} {ks : List ByteArray} (h5 : Aside0 (Ev (fun k => impl_DictGet.f k I E key) (x, false))) (h6 : Aside0 (Ev (fun k => impl_DictDrop.f k J F key) (S, T, true))) (h7 : Aside0 (Ev (fun k => impl_DictSame.f k S T I E) true))
    (h8 : Aside0 (Ev (fun k => impl_DictKeys.f k S T) ks)) (h9 : Aside0 (Ev (fun k => impl_DictKeys.f k I E) ks)) (h10 : Aside0 (Ev (fun k => spec_SameTexts.f k ks ks) true)) :
    Calls Try.prog 7 #[.slice A0 l0.length c0] w fun e w' => e = .returned (.bool true) ∧ Below w.heap.size w w' := by
  have hu26 := Try.underlying26
  have b0 : decide (1048576 < (l0.length : Int)) = false := decide_eq_false (by omega)
  have b1 : decide (1048576 < l0.length) = false := decide_eq_false (by omega)
  clear hl
  go_enter Try.func7, Try.ntmps7
  go_wp2_with (first
    | ((with_reducible refine gC 16 ?_); refine goS (some 19) Try.func16 #[.slice A0 l0.length c0] ?_; refine (cDrawS h1.out r0.out).mono ?_; rintro e w1 ⟨A1, c1, A2, d2, rfl, R1, R2, B1⟩; refine ⟨_, rfl, ?_⟩)
    | ((with_reducible refine gD 3 ?_); refine boxS (N := 3) (cs := #[.slice none 0 0, .slice none 0 0]) (t := 26) ?_; intro g1 hg w2 hk hb; have G1 := aS hg; have K1 := aS hk; have B2 := aS hb; clear hg hk hb; obtain ⟨z1, z2, z3, z4⟩ := c2 K1)
    | ((with_reducible refine gS 26 3 (.tmp 20) ?_); refine storeN (cs' := #[.slice A1 I.length c1, .slice A2 E.length d2]) G1 B2 K1 ?_; clear K1 B2; clear z1 z2 z3 z4; intro w3 K1 B3; obtain ⟨z5, z6, z7, z8⟩ := c2 K1)
    | ((with_reducible refine gC 13 ?_); refine goS (some 27) Try.func13 #[.agg #[.slice A1 I.length c1, .slice A2 E.length d2], .string key, .int .i64 v] ?_; refine (cSet h2.out R1 R2 tL).mono ?_; clear z5 z6 z7 z8; rintro e w4 ⟨A3, c3, A4, d4, rfl, R3, R4, B4⟩; refine ⟨_, rfl, ?_⟩; replace K1 := bW K1 B4)
    | ((with_reducible refine gD 6 ?_); refine boxS (N := 6) (cs := #[.slice none 0 0, .slice none 0 0]) (t := 26) ?_; intro g2 hg w5 hk hb; have G2 := aS hg; have K2 := aS hk; have B5 := aS hb; clear hg hk hb; obtain ⟨z9, z10, z11, z12⟩ := c2 K2)
    | ((with_reducible refine gS 26 6 (.tmp 28) ?_); refine storeN (cs' := #[.slice A3 J.length c3, .slice A4 F.length d4]) G2 B5 K2 ?_; clear K2 B5; clear z9 z10 z11 z12; intro w6 K2 B6; replace K1 := bW K1 B6; obtain ⟨z13, z14, z15, z16⟩ := c2 K1)
    | ((with_reducible refine gC 17 ?_); refine goS (some 34) Try.func17 #[.agg #[.slice A1 I.length c1, .slice A2 E.length d2], .string key, .int .i64 v] ?_; refine (cSetS h3.out R1 R2 tL).mono ?_; clear z13 z14 z15 z16; rintro e w7 ⟨A5, c5, A6, d6, rfl, R5, R6, B7⟩; refine ⟨_, rfl, ?_⟩; replace K1 := bW K1 B7; replace K2 := bW K2 B7)
    | ((with_reducible refine gD 8 ?_); refine boxS (N := 8) (cs := #[.slice none 0 0, .slice none 0 0]) (t := 26) ?_; intro g3 hg w8 hk hb; have G3 := aS hg; have K3 := aS hk; have B8 := aS hb; clear hg hk hb; obtain ⟨z17, z18, z19, z20⟩ := c2 K3)
    | ((with_reducible refine gS 26 8 (.tmp 35) ?_); refine storeN (cs' := #[.slice A5 J.length c5, .slice A6 F.length d6]) G3 B8 K3 ?_; clear K3 B8; clear z17 z18 z19 z20; intro w9 K3 B9; replace K1 := bW K1 B9; replace K2 := bW K2 B9; obtain ⟨z21, z22, z23, z24⟩ := c2 K2; obtain ⟨z25, z26, z27, z28⟩ := c2 K3)
    | (go_at_call 11; refine (cSame h4.out R3 R4 tL R5 R6 tL).mono ?_; clear z21 z22 z23 z24 z25 z26 z27 z28; rintro e w10 ⟨rfl, B10⟩; clear K3; replace K1 := bW K1 B10; replace K2 := bW K2 B10; obtain ⟨z29, z30, z31, z32⟩ := c2 K1)
    | ((with_reducible refine gC 12 ?_); refine goS (some 49) Try.func12 #[.agg #[.slice A1 I.length c1, .slice A2 E.length d2], .string key] ?_; refine (cGet h5.out R1 R2 tL).mono ?_; clear z29 z30 z31 z32; rintro e w11 ⟨rfl, B11⟩; refine ⟨_, rfl, ?_⟩; replace K1 := bW K1 B11; replace K2 := bW K2 B11; obtain ⟨z33, z34, z35, z36⟩ := c2 K2)
    | ((with_reducible refine gC 9 ?_); refine goS (some 60) Try.func9 #[.agg #[.slice A3 J.length c3, .slice A4 F.length d4], .string key] ?_; refine (cDrop h6.out R3 R4 tL).mono ?_; clear z33 z34 z35 z36; rintro e w12 ⟨A7, c7, A8, d8, rfl, R7, R8, B12⟩; refine ⟨_, rfl, ?_⟩; clear K2; replace K1 := bW K1 B12)
    | ((with_reducible refine gD 12 ?_); refine boxS (N := 12) (cs := #[.slice none 0 0, .slice none 0 0]) (t := 26) ?_; intro g4 hg w13 hk hb; have G4 := aS hg; have K4 := aS hk; have B13 := aS hb; clear hg hk hb; obtain ⟨z37, z38, z39, z40⟩ := c2 K4)
    | ((with_reducible refine gS 26 12 (.tmp 61) ?_); refine storeN (cs' := #[.slice A7 S.length c7, .slice A8 T.length d8]) G4 B13 K4 ?_; clear K4 B13; clear z37 z38 z39 z40; intro w14 K4 B14; replace K1 := bW K1 B14; obtain ⟨z41, z42, z43, z44⟩ := c2 K1; obtain ⟨z45, z46, z47, z48⟩ := c2 K4))
  have B15 := bD w14; clear z41 z42 z43 z44 z45 z46 z47 z48; replace K1 := bW K1 B15; replace K4 := bW K4 B15; refine start_ (n := 14) (S := fun w' => w'.cell? ⟨g4, 0, none⟩ = some (.slice A7 S.length c7) ∧ w'.cell? ⟨g4, 1, none⟩ = some (.slice A8 T.length d8) ∧ w'.cell? ⟨g1, 0, none⟩ = some (.slice A1 I.length c1) ∧ w'.cell? ⟨g1, 1, none⟩ = some (.slice A2 E.length d2)) (ds := []) (.replicate 14 false) (by kernel_rfl) rfl rfl ⟨cl K4 0, cl K4 1, cl K1 0, cl K1 1⟩ (fun hHeld => ?_); refine with_tabW undone_tab12 undone_bits12 (fun HT_ HW_ => ?_)
  generalize w14.drew = w15 at B15 K1 K4 hHeld ⊢
  refine pN 0 63 ?_; refine pN 1 64 ?_; refine tN 2 65 ?_; refine tN 3 66 ?_
  refine callN 4 67 Try.func25 #[.agg #[.slice A7 S.length c7, .slice A8 T.length d8], .agg #[.slice A1 I.length c1, .slice A2 E.length d2]] ?_; refine (cDictSame h7.out R7 R8 tL R1 R2 tL).mono ?_; rintro e w16 ⟨rfl, B16⟩
  replace K1 := bW K1 B16; replace K4 := bW K4 B16; refine ⟨_, rfl, ⟨cl K4 0, cl K4 1, cl K1 0, cl K1 1⟩, ?_⟩; intro a_ ha; clear hHeld; intro hHeld; simp only [Act.put, List.setIfInBounds_toArray, List.set_cons_zero, List.set_cons_succ] at ha; subst ha
  refine pN 5 68 ?_; refine pN 6 69 ?_; refine tN 7 70 ?_; refine tN 9 72 ?_
  refine callN 8 71 Try.func14 #[.agg #[.slice A7 S.length c7, .slice A8 T.length d8]] ?_; refine (cKeys h8.out R7 R8 tL).mono ?_; rintro e w17 ⟨A9, c9, rfl, R9, B17⟩
  replace K1 := bW K1 B17; replace K4 := bW K4 B17; refine ⟨_, rfl, ⟨cl K4 0, cl K4 1, cl K1 0, cl K1 1⟩, ?_⟩; intro a_ ha; clear hHeld; intro hHeld; simp only [Act.put, List.setIfInBounds_toArray, List.set_cons_zero, List.set_cons_succ] at ha; subst ha
  refine callN 10 73 Try.func14 #[.agg #[.slice A1 I.length c1, .slice A2 E.length d2]] ?_; refine (cKeys h9.out R1 R2 tL).mono ?_; rintro e w18 ⟨A10, c10, rfl, R10, B18⟩
  replace K1 := bW K1 B18; replace K4 := bW K4 B18; refine ⟨_, rfl, ⟨cl K4 0, cl K4 1, cl K1 0, cl K1 1⟩, ?_⟩; intro a_ ha; clear hHeld; intro hHeld; simp only [Act.put, List.setIfInBounds_toArray, List.set_cons_zero, List.set_cons_succ] at ha; subst ha
  refine callN 11 74 Try.func18 #[.slice A9 ks.length c9, .slice A10 ks.length c10] ?_; refine (cTexts h10.out R9 tL R10 tL).mono ?_; rintro e w19 ⟨rfl, B19⟩
  replace K1 := bW K1 B19; replace K4 := bW K4 B19; refine ⟨_, rfl, ⟨cl K4 0, cl K4 1, cl K1 0, cl K1 1⟩, ?_⟩; intro a_ ha; clear hHeld; intro hHeld; simp only [Act.put, List.setIfInBounds_toArray, List.set_cons_zero, List.set_cons_succ] at ha; subst ha
  refine pN 12 75 ?_; refine pN 13 2 ?_; refine dN ?_
  try go_wp2
  go_ret
  exact ⟨by first | rfl | (simp; done) | (simp [*]; done), tL⟩
end Go.Proofs.Ytihcollncjcpgaa.P
