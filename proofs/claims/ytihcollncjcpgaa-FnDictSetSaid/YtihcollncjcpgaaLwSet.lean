/- The walk of the law FnDictSet: with what its calls come to, it returns true and leaves what was there. Conditions: those that each theorem names (what the functions that it calls come to). -/
import Derived.Test.YtihcollncjcpgaaLwUndone
namespace Go.Proofs.Ytihcollncjcpgaa.P
open Go.RowKit Go.Proofs.YtihcollncjcpgaaW.PrintWords Go.Proofs.YtihcollncjcpgaaW.PrintLast Go.Proofs.YtihcollncjcpgaaW.PrintMore
set_option linter.unusedVariables false
set_option linter.unusedSimpArgs false

theorem cKeysR {I : List Int} {E : List S56} {A A' : Option Addr} {c c' : Nat} {w w1 : World} {l : List ByteArray} (h : Ev (fun k => impl_DictKeys.f k I E) l) (r : Aside0 (Rd (Kd.int .i64) w1 A c I)) (r' : Aside0 (Rd k56 w1 A' c' E)) (hb : Below w1.heap.size w1 w) : Calls Try.prog 14 #[.agg #[.slice A I.length c, .slice A' E.length c']] w fun e w' => ∃ B d, e = .returned (.slice B l.length d) ∧ Aside0 (Kd.R Kd.string 9 w' w.heap.size (fun _ => True) (.slice B l.length d) l) ∧ Aside0 (Below w.heap.size w w') := by
  obtain ⟨k, h⟩ := h
  have r := r.out.below hb; have r' := r'.out.below hb
  refine (impl_DictKeys.calls k _ _ I _ _ E l w r.1 r.2 r'.1 r'.2 (h k (Nat.le_refl _))).mono ?_
  rintro e w' ⟨v0, rfl, h0, hb⟩
  obtain ⟨B, d, rfl⟩ := Kd.R_slice h0
  exact ⟨B, d, rfl, ⟨h0⟩, ⟨hb⟩⟩
theorem rW {α : Type} {d : Kd α} {e base : Nat} {ok : Nat → Prop} {w w1 : World} {v : Value} {l : List α} (h : Aside0 (Kd.R d e w base ok v l)) (hb : Aside0 (Below w.heap.size w w1)) : Aside0 (Kd.R d e w1 base ok v l) := ⟨Kd.R_below h.out hb.out⟩
theorem Rd.ofR {α : Type} {d : Kd α} {e base : Nat} {ok : Nat → Prop} {w : World} {A : Option Addr} {n c : Nat} {l : List α} (h : Aside0 (Kd.R d e w base ok (.slice A n c) l)) : Aside0 (Rd d w A c l) := by
  have h1 := Kd.R_reads' h.out
  exact ⟨h1.2.2, by have := h1.2.1; have := h1.1; omega⟩
theorem Rd.over {α : Type} {d : Kd α} {e base : Nat} {ok : Nat → Prop} {w w1 : World} {v : Value} {row : Option Nat} {l : List α} (h : Aside0 (Kd.R d e w base ok v l)) (hg : w.grownBy w1 row) (hr : ∀ k, row = some k → k < base) : Aside0 (Kd.R d e w1 base (fun _ => True) v l) :=
  ⟨Kd.R_mono (Kd.R_step (Kd.R_bound h.out) (fun k hk hlt => hg.block k hlt (fun e => by have := hr k e.symm; have := hk.2.1; omega))) (fun _ _ => trivial)⟩
theorem own_ltR {α : Type} {d : Kd α} {e base : Nat} {ok : Nat → Prop} {w : World} {v : Value} {l : List α} (h : Aside0 (Kd.R d e w base ok v l)) : ∀ k, v.ownBlock = some k → k < w.heap.size := fun k hk => (by obtain ⟨inner, ho⟩ := Kd.R_own h.out; exact own_lt ho k hk)
theorem cTextsN {A A' : Option Addr} {c c' n : Nat} {w w1 w2 : World} {b : Bool} {l m : List ByteArray} (hn : l.length = n) (h : Ev (fun k => spec_SameTexts.f k l m) b) (r : Aside0 (Rd Kd.string w1 A c l)) (hb : Below w1.heap.size w1 w) (q : Aside0 (Rd Kd.string w2 A' c' m)) (hb2 : Below w2.heap.size w2 w) :
    Calls Try.prog 18 #[.slice A n c, .slice A' m.length c'] w fun e w' => e = .returned (.bool b) ∧ Aside0 (Below w.heap.size w w') := by
  subst hn
  exact cTexts h r hb q hb2
theorem cIsOne {A : Option Addr} {c : Nat} {w w1 : World} {l : List ByteArray} {key : ByteArray} {b : Bool} (h : Ev (fun k => spec_IsOne.f k l key) b) (r : Aside0 (Rd Kd.string w1 A c l)) (hb : Below w1.heap.size w1 w) : Calls Try.prog 19 #[.slice A l.length c, .string key] w fun e w' => e = .returned (.bool b) ∧ Aside0 (Below w.heap.size w w') := by
  obtain ⟨k, h⟩ := h
  have r := r.out.below hb
  exact (spec_IsOne.calls k _ _ l key b w r.1 r.2 (h k (Nat.le_refl _))).mono fun e w' ⟨h1, h2⟩ => ⟨h1, ⟨h2.below⟩⟩
set_option maxHeartbeats 8000000 in
set_option maxRecDepth 100000 in
theorem set_no {l0 I J : List Int} {E F : List S56} {key : ByteArray} {v : Int} {A0 : Option Addr} {c0 : Nat} {w : World} (r0 : Aside0 (Rd (Kd.int .u8) w A0 c0 l0)) (hl : l0.length ≤ 1048576)
    (h1 : Aside0 (Ev (fun k => spec_DrawDictSet.f k l0) (I, E, key, v))) (h2 : Aside0 (Ev (fun k => impl_DictSet.f k I E key v) (J, F, false))) (h3 : Aside0 (Ev (fun k => spec_DictSet.f k I E key v) (J, F, false))) (h4 : Aside0 (Ev (fun k => spec_SameDict.f k J F J F) true)) :
    Calls Try.prog 5 #[.slice A0 l0.length c0] w fun e w' => e = .returned (.bool true) ∧ Below w.heap.size w w' := by
  have hu26 := Try.underlying26
  have b0 : decide (1048576 < (l0.length : Int)) = false := decide_eq_false (by omega)
  have b1 : decide (1048576 < l0.length) = false := decide_eq_false (by omega)
  clear hl
  go_enter Try.func5, Try.ntmps5
  go_wp2_with (first
    | ((with_reducible refine gC 16 ?_); refine goS (some 20) Try.func16 #[.slice A0 l0.length c0] ?_; refine (cDrawS h1.out r0.out).mono ?_; rintro e w1 ⟨A1, c1, A2, d2, rfl, R1, R2, B1⟩; refine ⟨_, rfl, ?_⟩)
    | ((with_reducible refine gD 3 ?_); refine boxS (N := 3) (cs := #[.slice none 0 0, .slice none 0 0]) (t := 26) ?_; intro g1 hg w2 hk hb; have G1 := aS hg; have K1 := aS hk; have B2 := aS hb; clear hg hk hb; obtain ⟨z1, z2, z3, z4⟩ := c2 K1)
    | ((with_reducible refine gS 26 3 (.tmp 21) ?_); refine storeN (cs' := #[.slice A1 I.length c1, .slice A2 E.length d2]) G1 B2 K1 ?_; clear K1 B2; clear z1 z2 z3 z4; intro w3 K1 B3; obtain ⟨z5, z6, z7, z8⟩ := c2 K1)
    | ((with_reducible refine gC 13 ?_); refine goS (some 28) Try.func13 #[.agg #[.slice A1 I.length c1, .slice A2 E.length d2], .string key, .int .i64 v] ?_; refine (cSet h2.out R1 R2 tL).mono ?_; clear z5 z6 z7 z8; rintro e w4 ⟨A3, c3, A4, d4, rfl, R3, R4, B4⟩; refine ⟨_, rfl, ?_⟩; replace K1 := bW K1 B4)
    | ((with_reducible refine gD 6 ?_); refine boxS (N := 6) (cs := #[.slice none 0 0, .slice none 0 0]) (t := 26) ?_; intro g2 hg w5 hk hb; have G2 := aS hg; have K2 := aS hk; have B5 := aS hb; clear hg hk hb; obtain ⟨z9, z10, z11, z12⟩ := c2 K2)
    | ((with_reducible refine gS 26 6 (.tmp 29) ?_); refine storeN (cs' := #[.slice A3 J.length c3, .slice A4 F.length d4]) G2 B5 K2 ?_; clear K2 B5; clear z9 z10 z11 z12; intro w6 K2 B6; replace K1 := bW K1 B6; obtain ⟨z13, z14, z15, z16⟩ := c2 K1)
    | ((with_reducible refine gC 17 ?_); refine goS (some 35) Try.func17 #[.agg #[.slice A1 I.length c1, .slice A2 E.length d2], .string key, .int .i64 v] ?_; refine (cSetS h3.out R1 R2 tL).mono ?_; clear z13 z14 z15 z16; rintro e w7 ⟨A5, c5, A6, d6, rfl, R5, R6, B7⟩; refine ⟨_, rfl, ?_⟩; replace K1 := bW K1 B7; replace K2 := bW K2 B7)
    | ((with_reducible refine gD 8 ?_); refine boxS (N := 8) (cs := #[.slice none 0 0, .slice none 0 0]) (t := 26) ?_; intro g3 hg w8 hk hb; have G3 := aS hg; have K3 := aS hk; have B8 := aS hb; clear hg hk hb; obtain ⟨z17, z18, z19, z20⟩ := c2 K3)
    | ((with_reducible refine gS 26 8 (.tmp 36) ?_); refine storeN (cs' := #[.slice A5 J.length c5, .slice A6 F.length d6]) G3 B8 K3 ?_; clear K3 B8; clear z17 z18 z19 z20; intro w9 K3 B9; replace K1 := bW K1 B9; replace K2 := bW K2 B9; obtain ⟨z21, z22, z23, z24⟩ := c2 K2; obtain ⟨z25, z26, z27, z28⟩ := c2 K3)
    | ((with_reducible refine gC 11 ?_); refine goS (some 40) Try.func11 #[.agg #[.slice A3 J.length c3, .slice A4 F.length d4], .agg #[.slice A5 J.length c5, .slice A6 F.length d6]] ?_; refine (cSame h4.out R3 R4 tL R5 R6 tL).mono ?_; clear z21 z22 z23 z24 z25 z26 z27 z28; rintro e w10 ⟨rfl, B10⟩; refine ⟨_, rfl, ?_⟩; clear K3; replace K1 := bW K1 B10; replace K2 := bW K2 B10))
  try go_wp2
  go_ret
  exact ⟨by first | rfl | (simp; done) | (simp [*]; done), tL⟩
set_option maxHeartbeats 8000000 in
set_option maxRecDepth 100000 in
theorem set_old {l0 I J : List Int} {E F : List S56} {key : ByteArray} {v : Int} {A0 : Option Addr} {c0 : Nat} {w : World} (r0 : Aside0 (Rd (Kd.int .u8) w A0 c0 l0)) (hl : l0.length ≤ 1048576)
    (h1 : Aside0 (Ev (fun k => spec_DrawDictSet.f k l0) (I, E, key, v))) (h2 : Aside0 (Ev (fun k => impl_DictSet.f k I E key v) (J, F, true))) (h3 : Aside0 (Ev (fun k => spec_DictSet.f k I E key v) (J, F, true))) (h4 : Aside0 (Ev (fun k => spec_SameDict.f k J F J F) true))
    {ks ls : List ByteArray} (h5 : Aside0 (Ev (fun k => impl_DictGet.f k J F key) (v, true))) (h6 : Aside0 (Ev (fun k => impl_DictKeys.f k I E) ks)) (h7 : Aside0 (Ev (fun k => impl_DictKeys.f k J F) ls))
    (h8 : Aside0 (Ev (fun k => spec_IsOne.f k ks key) true)) (h9 : Aside0 (Ev (fun k => impl_DictOk.f k J F) true)) (h10 : Aside0 (Ev (fun k => spec_SameTexts.f k ks ls) true)) (hks : Aside0 (ks.length ≤ 1000)) :
    Calls Try.prog 5 #[.slice A0 l0.length c0] w fun e w' => e = .returned (.bool true) ∧ Below w.heap.size w w' := by
  have hu26 := Try.underlying26
  have b0 : decide (1048576 < (l0.length : Int)) = false := decide_eq_false (by omega)
  have b1 : decide (1048576 < l0.length) = false := decide_eq_false (by omega)
  clear hl
  go_enter Try.func5, Try.ntmps5
  go_wp2_with (first
    | ((with_reducible refine gC 16 ?_); refine goS (some 20) Try.func16 #[.slice A0 l0.length c0] ?_; refine (cDrawS h1.out r0.out).mono ?_; rintro e w1 ⟨A1, c1, A2, d2, rfl, R1, R2, B1⟩; refine ⟨_, rfl, ?_⟩)
    | ((with_reducible refine gD 3 ?_); refine boxS (N := 3) (cs := #[.slice none 0 0, .slice none 0 0]) (t := 26) ?_; intro g1 hg w2 hk hb; have G1 := aS hg; have K1 := aS hk; have B2 := aS hb; clear hg hk hb; obtain ⟨z1, z2, z3, z4⟩ := c2 K1)
    | ((with_reducible refine gS 26 3 (.tmp 21) ?_); refine storeN (cs' := #[.slice A1 I.length c1, .slice A2 E.length d2]) G1 B2 K1 ?_; clear K1 B2; clear z1 z2 z3 z4; intro w3 K1 B3; obtain ⟨z5, z6, z7, z8⟩ := c2 K1)
    | ((with_reducible refine gC 13 ?_); refine goS (some 28) Try.func13 #[.agg #[.slice A1 I.length c1, .slice A2 E.length d2], .string key, .int .i64 v] ?_; refine (cSet h2.out R1 R2 tL).mono ?_; clear z5 z6 z7 z8; rintro e w4 ⟨A3, c3, A4, d4, rfl, R3, R4, B4⟩; refine ⟨_, rfl, ?_⟩; replace K1 := bW K1 B4)
    | ((with_reducible refine gD 6 ?_); refine boxS (N := 6) (cs := #[.slice none 0 0, .slice none 0 0]) (t := 26) ?_; intro g2 hg w5 hk hb; have G2 := aS hg; have K2 := aS hk; have B5 := aS hb; clear hg hk hb; obtain ⟨z9, z10, z11, z12⟩ := c2 K2)
    | ((with_reducible refine gS 26 6 (.tmp 29) ?_); refine storeN (cs' := #[.slice A3 J.length c3, .slice A4 F.length d4]) G2 B5 K2 ?_; clear K2 B5; clear z9 z10 z11 z12; intro w6 K2 B6; replace K1 := bW K1 B6; obtain ⟨z13, z14, z15, z16⟩ := c2 K1)
    | ((with_reducible refine gC 17 ?_); refine goS (some 35) Try.func17 #[.agg #[.slice A1 I.length c1, .slice A2 E.length d2], .string key, .int .i64 v] ?_; refine (cSetS h3.out R1 R2 tL).mono ?_; clear z13 z14 z15 z16; rintro e w7 ⟨A5, c5, A6, d6, rfl, R5, R6, B7⟩; refine ⟨_, rfl, ?_⟩; replace K1 := bW K1 B7; replace K2 := bW K2 B7)
    | ((with_reducible refine gD 8 ?_); refine boxS (N := 8) (cs := #[.slice none 0 0, .slice none 0 0]) (t := 26) ?_; intro g3 hg w8 hk hb; have G3 := aS hg; have K3 := aS hk; have B8 := aS hb; clear hg hk hb; obtain ⟨z17, z18, z19, z20⟩ := c2 K3)
    | ((with_reducible refine gS 26 8 (.tmp 36) ?_); refine storeN (cs' := #[.slice A5 J.length c5, .slice A6 F.length d6]) G3 B8 K3 ?_; clear K3 B8; clear z17 z18 z19 z20; intro w9 K3 B9; replace K1 := bW K1 B9; replace K2 := bW K2 B9; obtain ⟨z21, z22, z23, z24⟩ := c2 K2; obtain ⟨z25, z26, z27, z28⟩ := c2 K3)
    | ((with_reducible refine gC 11 ?_); refine goS (some 40) Try.func11 #[.agg #[.slice A3 J.length c3, .slice A4 F.length d4], .agg #[.slice A5 J.length c5, .slice A6 F.length d6]] ?_; refine (cSame h4.out R3 R4 tL R5 R6 tL).mono ?_; clear z21 z22 z23 z24 z25 z26 z27 z28; rintro e w10 ⟨rfl, B10⟩; refine ⟨_, rfl, ?_⟩; clear K3; replace K1 := bW K1 B10; replace K2 := bW K2 B10; obtain ⟨z29, z30, z31, z32⟩ := c2 K2)
    | ((with_reducible refine gC 12 ?_); refine goS (some 56) Try.func12 #[.agg #[.slice A3 J.length c3, .slice A4 F.length d4], .string key] ?_; refine (cGet h5.out R3 R4 tL).mono ?_; clear z29 z30 z31 z32; rintro e w11 ⟨rfl, B11⟩; refine ⟨_, rfl, ?_⟩; replace K1 := bW K1 B11; replace K2 := bW K2 B11; obtain ⟨z33, z34, z35, z36⟩ := c2 K1; have K2o := K2)
    | ((with_reducible refine gC 14 ?_); refine goS (some 60) Try.func14 #[.agg #[.slice A1 I.length c1, .slice A2 E.length d2]] ?_; refine (cKeysR h6.out R1 R2 tL).mono ?_; clear z33 z34 z35 z36; rintro e w12 ⟨A7, c7, rfl, R7, B12⟩; refine ⟨_, rfl, ?_⟩; replace K1 := bW K1 B12; replace K2 := bW K2 B12; obtain ⟨z37, z38, z39, z40⟩ := c2 K2; have R7o := R7)
    | ((with_reducible refine gC 14 ?_); refine goS (some 62) Try.func14 #[.agg #[.slice A3 J.length c3, .slice A4 F.length d4]] ?_; refine (cKeysR h7.out R3 R4 tL).mono ?_; clear z37 z38 z39 z40; rintro e w13 ⟨A8, c8, rfl, R8, B13⟩; refine ⟨_, rfl, ?_⟩; replace K1 := bW K1 B13; replace K2 := bW K2 B13)
    | ((with_reducible refine gC 19 ?_); refine goS (some 65) Try.func19 #[.slice A7 ks.length c7, .string key] ?_; refine (cIsOne h8.out (Rd.ofR R7) tL).mono ?_; rintro e w14 ⟨rfl, B14⟩; refine ⟨_, rfl, ?_⟩; replace K1 := bW K1 B14; replace K2 := bW K2 B14; obtain ⟨z41, z42, z43, z44⟩ := c2 K2; replace R7 := rW (rW R7 B13) B14; replace R8 := rW R8 B14)
    | (go_at_call 15; refine (cOk h9.out R3 R4 tL).mono ?_; clear z41 z42 z43 z44; rintro e w15 ⟨rfl, B15⟩; replace K1 := bW K1 B15; replace K2 := bW K2 B15)
    | (go_at_call 18; refine (cTexts h10.out (Rd.ofR R7) tL (Rd.ofR R8) tL).mono ?_; rintro e w16 ⟨rfl, B16⟩; replace K1 := bW K1 B16; replace K2 := bW K2 B16))
  try go_wp2
  go_ret
  exact ⟨by first | rfl | (simp; done) | (simp [*]; done), tL⟩
set_option maxHeartbeats 8000000 in
set_option maxRecDepth 100000 in
theorem set_new {l0 I J : List Int} {E F : List S56} {key : ByteArray} {v : Int} {A0 : Option Addr} {c0 : Nat} {w : World} (r0 : Aside0 (Rd (Kd.int .u8) w A0 c0 l0)) (hl : l0.length ≤ 1048576)
    (h1 : Aside0 (Ev (fun k => spec_DrawDictSet.f k l0) (I, E, key, v))) (h2 : Aside0 (Ev (fun k => impl_DictSet.f k I E key v) (J, F, true))) (h3 : Aside0 (Ev (fun k => spec_DictSet.f k I E key v) (J, F, true))) (h4 : Aside0 (Ev (fun k => spec_SameDict.f k J F J F) true))
    {ks ls : List ByteArray} (h5 : Aside0 (Ev (fun k => impl_DictGet.f k J F key) (v, true))) (h6 : Aside0 (Ev (fun k => impl_DictKeys.f k I E) ks)) (h7 : Aside0 (Ev (fun k => impl_DictKeys.f k J F) ls))
    (h8 : Aside0 (Ev (fun k => spec_IsOne.f k ks key) false)) (h9 : Aside0 (Ev (fun k => impl_DictOk.f k J F) true)) (h10 : Aside0 (Ev (fun k => spec_SameTexts.f k (ks ++ [key]) ls) true)) (hks : Aside0 (ks.length ≤ 1000)) :
    Calls Try.prog 5 #[.slice A0 l0.length c0] w fun e w' => e = .returned (.bool true) ∧ Below w.heap.size w w' := by
  have hu26 := Try.underlying26
  have b0 : decide (1048576 < (l0.length : Int)) = false := decide_eq_false (by omega)
  have b1 : decide (1048576 < l0.length) = false := decide_eq_false (by omega)
  clear hl
  go_enter Try.func5, Try.ntmps5
  go_wp2_with (first
    | ((with_reducible refine gC 16 ?_); refine goS (some 20) Try.func16 #[.slice A0 l0.length c0] ?_; refine (cDrawS h1.out r0.out).mono ?_; rintro e w1 ⟨A1, c1, A2, d2, rfl, R1, R2, B1⟩; refine ⟨_, rfl, ?_⟩)
    | ((with_reducible refine gD 3 ?_); refine boxS (N := 3) (cs := #[.slice none 0 0, .slice none 0 0]) (t := 26) ?_; intro g1 hg w2 hk hb; have G1 := aS hg; have K1 := aS hk; have B2 := aS hb; clear hg hk hb; obtain ⟨z1, z2, z3, z4⟩ := c2 K1)
    | ((with_reducible refine gS 26 3 (.tmp 21) ?_); refine storeN (cs' := #[.slice A1 I.length c1, .slice A2 E.length d2]) G1 B2 K1 ?_; clear K1 B2; clear z1 z2 z3 z4; intro w3 K1 B3; obtain ⟨z5, z6, z7, z8⟩ := c2 K1)
    | ((with_reducible refine gC 13 ?_); refine goS (some 28) Try.func13 #[.agg #[.slice A1 I.length c1, .slice A2 E.length d2], .string key, .int .i64 v] ?_; refine (cSet h2.out R1 R2 tL).mono ?_; clear z5 z6 z7 z8; rintro e w4 ⟨A3, c3, A4, d4, rfl, R3, R4, B4⟩; refine ⟨_, rfl, ?_⟩; replace K1 := bW K1 B4)
    | ((with_reducible refine gD 6 ?_); refine boxS (N := 6) (cs := #[.slice none 0 0, .slice none 0 0]) (t := 26) ?_; intro g2 hg w5 hk hb; have G2 := aS hg; have K2 := aS hk; have B5 := aS hb; clear hg hk hb; obtain ⟨z9, z10, z11, z12⟩ := c2 K2)
    | ((with_reducible refine gS 26 6 (.tmp 29) ?_); refine storeN (cs' := #[.slice A3 J.length c3, .slice A4 F.length d4]) G2 B5 K2 ?_; clear K2 B5; clear z9 z10 z11 z12; intro w6 K2 B6; replace K1 := bW K1 B6; obtain ⟨z13, z14, z15, z16⟩ := c2 K1)
    | ((with_reducible refine gC 17 ?_); refine goS (some 35) Try.func17 #[.agg #[.slice A1 I.length c1, .slice A2 E.length d2], .string key, .int .i64 v] ?_; refine (cSetS h3.out R1 R2 tL).mono ?_; clear z13 z14 z15 z16; rintro e w7 ⟨A5, c5, A6, d6, rfl, R5, R6, B7⟩; refine ⟨_, rfl, ?_⟩; replace K1 := bW K1 B7; replace K2 := bW K2 B7)
    | ((with_reducible refine gD 8 ?_); refine boxS (N := 8) (cs := #[.slice none 0 0, .slice none 0 0]) (t := 26) ?_; intro g3 hg w8 hk hb; have G3 := aS hg; have K3 := aS hk; have B8 := aS hb; clear hg hk hb; obtain ⟨z17, z18, z19, z20⟩ := c2 K3)
    | ((with_reducible refine gS 26 8 (.tmp 36) ?_); refine storeN (cs' := #[.slice A5 J.length c5, .slice A6 F.length d6]) G3 B8 K3 ?_; clear K3 B8; clear z17 z18 z19 z20; intro w9 K3 B9; replace K1 := bW K1 B9; replace K2 := bW K2 B9; obtain ⟨z21, z22, z23, z24⟩ := c2 K2; obtain ⟨z25, z26, z27, z28⟩ := c2 K3)
    | ((with_reducible refine gC 11 ?_); refine goS (some 40) Try.func11 #[.agg #[.slice A3 J.length c3, .slice A4 F.length d4], .agg #[.slice A5 J.length c5, .slice A6 F.length d6]] ?_; refine (cSame h4.out R3 R4 tL R5 R6 tL).mono ?_; clear z21 z22 z23 z24 z25 z26 z27 z28; rintro e w10 ⟨rfl, B10⟩; refine ⟨_, rfl, ?_⟩; clear K3; replace K1 := bW K1 B10; replace K2 := bW K2 B10; obtain ⟨z29, z30, z31, z32⟩ := c2 K2)
    | ((with_reducible refine gC 12 ?_); refine goS (some 56) Try.func12 #[.agg #[.slice A3 J.length c3, .slice A4 F.length d4], .string key] ?_; refine (cGet h5.out R3 R4 tL).mono ?_; clear z29 z30 z31 z32; rintro e w11 ⟨rfl, B11⟩; refine ⟨_, rfl, ?_⟩; replace K1 := bW K1 B11; replace K2 := bW K2 B11; obtain ⟨z33, z34, z35, z36⟩ := c2 K1; have K2o := K2)
    | ((with_reducible refine gC 14 ?_); refine goS (some 60) Try.func14 #[.agg #[.slice A1 I.length c1, .slice A2 E.length d2]] ?_; refine (cKeysR h6.out R1 R2 tL).mono ?_; clear z33 z34 z35 z36; rintro e w12 ⟨A7, c7, rfl, R7, B12⟩; refine ⟨_, rfl, ?_⟩; replace K1 := bW K1 B12; replace K2 := bW K2 B12; obtain ⟨z37, z38, z39, z40⟩ := c2 K2; have R7o := R7)
    | ((with_reducible refine gC 14 ?_); refine goS (some 62) Try.func14 #[.agg #[.slice A3 J.length c3, .slice A4 F.length d4]] ?_; refine (cKeysR h7.out R3 R4 tL).mono ?_; clear z37 z38 z39 z40; rintro e w13 ⟨A8, c8, rfl, R8, B13⟩; refine ⟨_, rfl, ?_⟩; replace K1 := bW K1 B13; replace K2 := bW K2 B13)
    | ((with_reducible refine gC 19 ?_); refine goS (some 65) Try.func19 #[.slice A7 ks.length c7, .string key] ?_; refine (cIsOne h8.out (Rd.ofR R7) tL).mono ?_; rintro e w14 ⟨rfl, B14⟩; refine ⟨_, rfl, ?_⟩; replace K1 := bW K1 B14; replace K2 := bW K2 B14; replace R7 := rW (rW R7 B13) B14; replace R8 := rW R8 B14)
    | ((with_reducible refine gate_builtin (b := .append) (xs := #[.tmp 67, .tmp 69]) rfl ?_); at_builtin; refine Kd.R_append Kd.string (w0 := w11) w11.heap.size rfl (.tmp 67) (.tmp 69) 35 9 (.string ⟨#[]⟩) 16 rfl Try.underlying35 info9 rfl (by decide) (by omega) (.slice A7 ks.length c7) ks key [.string key] (fun _ => True) (fun _ => False) rfl rfl rfl (fun _ hk => hk.elim) (fun _ _ => trivial) R7.out tL (below_size tL) (by have := hks.out; omega) ?_; intro v9 w15 ho hb hg hat; have hlt := own_ltR R7o; replace R8 := Rd.over R8 hg (fun k hk => hlt k hk); clear hlt hg hat R7o R7; have R9 := aS ho; have B15 := aS hb; clear ho hb; obtain ⟨A9, c9, e9⟩ := Kd.R_slice R9.out; subst e9; clear K1; replace K2 := bW K2o B15; obtain ⟨y1, y2, y3, y4⟩ := c2 K2)
    | (go_at_call 15; refine (cOk h9.out R3 R4 tL).mono ?_; clear y1 y2 y3 y4; rintro e w16 ⟨rfl, B16⟩; replace K2 := bW K2 B16)
    | (go_at_call 18; refine (cTextsN (by simp) h10.out (Rd.ofR R9) tL (Rd.ofR R8) tL).mono ?_; rintro e w17 ⟨rfl, B17⟩; replace K2 := bW K2 B17))
  try go_wp2
  go_ret
  exact ⟨by first | rfl | (simp; done) | (simp [*]; done), tL⟩
end Go.Proofs.Ytihcollncjcpgaa.P
