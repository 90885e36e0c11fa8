/- The walk of the law FnDictDrop: with what its calls come to, it returns true and leaves what was there. Conditions: those that each theorem names (what the functions that it calls come to). -/
import Derived.Test.YtihcollncjcpgaaLk
import Derived.Test.YtihcollncjcpgaaHandC
import Derived.Test.YtihcollncjcpgaaPx15
import Derived.Test.YtihcollncjcpgaaPx16
namespace Go.Proofs.Ytihcollncjcpgaa.P
open Go.RowKit Go.Proofs.YtihcollncjcpgaaW.PrintWords Go.Proofs.YtihcollncjcpgaaW.PrintLast Go.Proofs.YtihcollncjcpgaaW.PrintMore
set_option linter.unusedVariables false
set_option linter.unusedSimpArgs false

theorem Rd.last {w : World} {A : Option Addr} {c : Nat} {l : List ByteArray} (h : Rd Kd.string w A c l) (hl : 1 ≤ l.length) : ∃ ad, A = some ad ∧ w.cell? (ad.add (l.length - 1)) = some (.string (rdOf ByteArray.empty l (l.length - 1))) := by
  obtain ⟨ad, e, hx⟩ := Kd.at_string h.1 (l.length - 1 : Int) (by omega) (by omega)
  rw [show ((l.length : Int) - 1).toNat = l.length - 1 by omega] at hx
  exact ⟨ad, e, hx⟩
/-- A call that returns a dictionary and a bool. -/
def DB (f : Nat) (args : Array Value) (w : World) (I : List Int) (E : List S56) (b : Bool) : Prop :=
  Calls Try.prog f args w fun e w' => ∃ A c A' c', e = .returned (.tuple #[.agg #[.slice A I.length c, .slice A' E.length c'], .bool b]) ∧ Aside0 (Rd (Kd.int .i64) w' A c I) ∧ Aside0 (Rd k56 w' A' c' E) ∧ Aside0 (Below w.heap.size w w')
theorem DB.of {f : Nat} {args : Array Value} {w : World} {I : List Int} {E : List S56} {b : Bool}
    (h : Calls Try.prog f args w fun e w' => ∃ v0_ v1_ : Value, e = .returned (.tuple #[.agg #[v0_, v1_], .bool b]) ∧ Kd.R (Kd.int .i64) 3 w' w.heap.size (fun _ => True) v0_ I ∧ Kd.R k56 56 w' w.heap.size (fun _ => True) v1_ E ∧ Below w.heap.size w w') : DB f args w I E b := by
  refine h.mono ?_
  rintro e w' ⟨v0, v1, rfl, h0, h1, hb⟩
  obtain ⟨A, c, rfl, r0⟩ := Rd.of h0
  obtain ⟨A', c', rfl, r1⟩ := Rd.of h1
  exact ⟨A, c, A', c', rfl, ⟨r0⟩, ⟨r1⟩, ⟨hb⟩⟩
section
variable {I J : List Int} {E F : List S56} {A A' : Option Addr} {c c' : Nat} {w w1 w2 : World} {key : ByteArray} {v : Int} {b : Bool}
theorem cDrop (h : Ev (fun k => impl_DictDrop.f k I E key) (J, F, b)) (r : Aside0 (Rd (Kd.int .i64) w1 A c I)) (r' : Aside0 (Rd k56 w1 A' c' E)) (hb : Below w1.heap.size w1 w) : DB 9 #[.agg #[.slice A I.length c, .slice A' E.length c'], .string key] w J F b := by
  obtain ⟨k, h⟩ := h
  have r := r.out.below hb; have r' := r'.out.below hb
  exact DB.of (impl_DictDrop.calls k _ _ I _ _ E key J F b w r.1 r.2 r'.1 r'.2 (h k (Nat.le_refl _)))
theorem cDropS (h : Ev (fun k => spec_DictDrop.f k I E key) (J, F, b)) (r : Aside0 (Rd (Kd.int .i64) w1 A c I)) (r' : Aside0 (Rd k56 w1 A' c' E)) (hb : Below w1.heap.size w1 w) : DB 10 #[.agg #[.slice A I.length c, .slice A' E.length c'], .string key] w J F b := by
  obtain ⟨k, h⟩ := h
  have r := r.out.below hb; have r' := r'.out.below hb
  exact DB.of (spec_DictDrop.calls k _ _ I _ _ E key J F b w r.1 r.2 r'.1 r'.2 (h k (Nat.le_refl _)))
theorem cSet (h : Ev (fun k => impl_DictSet.f k I E key v) (J, F, b)) (r : Aside0 (Rd (Kd.int .i64) w1 A c I)) (r' : Aside0 (Rd k56 w1 A' c' E)) (hb : Below w1.heap.size w1 w) : DB 13 #[.agg #[.slice A I.length c, .slice A' E.length c'], .string key, .int .i64 v] w J F b := by
  obtain ⟨k, h⟩ := h
  have r := r.out.below hb; have r' := r'.out.below hb
  exact DB.of (impl_DictSet.calls k _ _ I _ _ E key v J F b w r.1 r.2 r'.1 r'.2 (h k (Nat.le_refl _)))
theorem cOk (h : Ev (fun k => impl_DictOk.f k I E) b) (r : Aside0 (Rd (Kd.int .i64) w1 A c I)) (r' : Aside0 (Rd k56 w1 A' c' E)) (hb : Below w1.heap.size w1 w) : Calls Try.prog 15 #[.agg #[.slice A I.length c, .slice A' E.length c']] w fun e w' => e = .returned (.bool b) ∧ Aside0 (Below w.heap.size w w') := by
  obtain ⟨k, h⟩ := h
  have r := r.out.below hb; have r' := r'.out.below hb
  exact (impl_DictOk.calls k _ _ I _ _ E b w r.1 r.2 r'.1 r'.2 (h k (Nat.le_refl _))).mono fun e w' ⟨h1, h2⟩ => ⟨h1, ⟨h2⟩⟩
theorem cGet {x : Int} (h : Ev (fun k => impl_DictGet.f k I E key) (x, b)) (r : Aside0 (Rd (Kd.int .i64) w1 A c I)) (r' : Aside0 (Rd k56 w1 A' c' E)) (hb : Below w1.heap.size w1 w) : Calls Try.prog 12 #[.agg #[.slice A I.length c, .slice A' E.length c'], .string key] w fun e w' => e = .returned (.tuple #[.int .i64 x, .bool b]) ∧ Aside0 (Below w.heap.size w w') := by
  obtain ⟨k, h⟩ := h
  have r := r.out.below hb; have r' := r'.out.below hb
  exact (impl_DictGet.calls k _ _ I _ _ E key x b w r.1 r.2 r'.1 r'.2 (h k (Nat.le_refl _))).mono fun e w' ⟨h1, h2⟩ => ⟨h1, ⟨h2⟩⟩
theorem cKeys {l : List ByteArray} (h : Ev (fun k => impl_DictKeys.f k I E) l) (r : Aside0 (Rd (Kd.int .i64) w1 A c I)) (r' : Aside0 (Rd k56 w1 A' c' E)) (hb : Below w1.heap.size w1 w) : Calls Try.prog 14 #[.agg #[.slice A I.length c, .slice A' E.length c']] w fun e w' => ∃ B d, e = .returned (.slice B l.length d) ∧ Aside0 (Rd Kd.string w' B d l) ∧ Aside0 (Below w.heap.size w w') := by
  obtain ⟨k, h⟩ := h
  have r := r.out.below hb; have r' := r'.out.below hb
  refine (impl_DictKeys.calls k _ _ I _ _ E l w r.1 r.2 r'.1 r'.2 (h k (Nat.le_refl _))).mono ?_
  rintro e w' ⟨v0, rfl, h0, hb⟩
  obtain ⟨B, d, rfl, r0⟩ := Rd.of h0
  exact ⟨B, d, rfl, ⟨r0⟩, ⟨hb⟩⟩
theorem cSame {B B' : Option Addr} {d d' : Nat} (h : Ev (fun k => spec_SameDict.f k I E J F) b) (r : Aside0 (Rd (Kd.int .i64) w1 A c I)) (r' : Aside0 (Rd k56 w1 A' c' E)) (hb : Below w1.heap.size w1 w) (q : Aside0 (Rd (Kd.int .i64) w2 B d J)) (q' : Aside0 (Rd k56 w2 B' d' F)) (hb2 : Below w2.heap.size w2 w) :
    Calls Try.prog 11 #[.agg #[.slice A I.length c, .slice A' E.length c'], .agg #[.slice B J.length d, .slice B' F.length d']] w fun e w' => e = .returned (.bool b) ∧ Aside0 (Below w.heap.size w w') := by
  obtain ⟨k, h⟩ := h
  have r := r.out.below hb; have r' := r'.out.below hb
  have q := q.out.below hb2; have q' := q'.out.below hb2
  exact (spec_SameDict.calls k _ _ I _ _ E _ _ J _ _ F b w r.1 r.2 r'.1 r'.2 q.1 q.2 q'.1 q'.2 (h k (Nat.le_refl _))).mono fun e w' ⟨h1, h2⟩ => ⟨h1, ⟨h2⟩⟩
end
theorem cDraw {l0 : List Int} {I : List Int} {E : List S56} {key : ByteArray} {A : Option Addr} {c : Nat} {w : World} (h : Ev (fun k => spec_DrawDictDrop.f k l0) (I, E, key)) (r : Rd (Kd.int .u8) w A c l0) :
    Calls Try.prog 8 #[.slice A l0.length c] w fun e w' => ∃ B d B' d', e = .returned (.tuple #[.agg #[.slice B I.length d, .slice B' E.length d'], .string key]) ∧ Aside0 (Rd (Kd.int .i64) w' B d I) ∧ Aside0 (Rd k56 w' B' d' E) ∧ Aside0 (Below w.heap.size w w') := by
  obtain ⟨k, h⟩ := h
  refine (spec_DrawDictDrop.calls k _ _ l0 I E key w r.1 r.2 (h k (Nat.le_refl _))).mono ?_
  rintro e w' ⟨v0, v1, rfl, h0, h1, hb⟩
  obtain ⟨A, c, rfl, r0⟩ := Rd.of h0
  obtain ⟨A', c', rfl, r1⟩ := Rd.of h1
  exact ⟨A, c, A', c', rfl, ⟨r0⟩, ⟨r1⟩, ⟨hb⟩⟩
set_option maxHeartbeats 8000000 in
set_option maxRecDepth 100000 in
theorem drop_no {l0 I J : List Int} {E F : List S56} {key : ByteArray} {A0 : Option Addr} {c0 : Nat} {w : World} (r0 : Aside0 (Rd (Kd.int .u8) w A0 c0 l0)) (hl : l0.length ≤ 1048576)
    (h1 : Aside0 (Ev (fun k => spec_DrawDictDrop.f k l0) (I, E, key))) (h2 : Aside0 (Ev (fun k => impl_DictDrop.f k I E key) (J, F, false))) (h3 : Aside0 (Ev (fun k => spec_DictDrop.f k I E key) (J, F, false))) (h4 : Aside0 (Ev (fun k => spec_SameDict.f k J F J F) true)) :
    Calls Try.prog 3 #[.slice A0 l0.length c0] w fun e w' => e = .returned (.bool true) ∧ Below w.heap.size w w' := by
  have hu26 := Try.underlying26
  have b0 : decide (1048576 < (l0.length : Int)) = false := decide_eq_false (by omega)
  have b1 : decide (1048576 < l0.length) = false := decide_eq_false (by omega)
  clear hl
  go_enter Try.func3, Try.ntmps3
  go_wp2_with (first
    | ((with_reducible refine gC 8 ?_); refine goS (some 20) Try.func8 #[.slice A0 l0.length c0] ?_; refine (cDraw h1.out r0.out).mono ?_; rintro e w1 ⟨A1, c1, A2, c2_, rfl, R1, R2, B1⟩; refine ⟨_, rfl, ?_⟩)
    | ((with_reducible refine gD 3 ?_); refine boxS (N := 3) (cs := #[.slice none 0 0, .slice none 0 0]) (t := 26) ?_; intro g1 hg w2 hk hb; have G1 := aS hg; have K1 := aS hk; have B2 := aS hb; clear hg hk hb; obtain ⟨z1, z2, z3, z4⟩ := c2 K1)
    | ((with_reducible refine gS 26 3 (.tmp 21) ?_); refine storeN (cs' := #[.slice A1 I.length c1, .slice A2 E.length c2_]) G1 B2 K1 ?_; clear K1 B2 z1 z2 z3 z4; intro w3 K1 B3; obtain ⟨z1, z2, z3, z4⟩ := c2 K1)
    | ((with_reducible refine gC 9 ?_); refine goS (some 26) Try.func9 #[.agg #[.slice A1 I.length c1, .slice A2 E.length c2_], .string key] ?_; refine (cDrop h2.out R1 R2 tL).mono ?_; clear z1 z2 z3 z4; rintro e w4 ⟨A3, c3, A4, c4_, rfl, R3, R4, B4⟩; refine ⟨_, rfl, ?_⟩; replace K1 := bW K1 B4)
    | ((with_reducible refine gD 5 ?_); refine boxS (N := 5) (cs := #[.slice none 0 0, .slice none 0 0]) (t := 26) ?_; intro g2 hg w5 hk hb; have G2 := aS hg; have K2 := aS hk; have B5 := aS hb; clear hg hk hb; obtain ⟨z1, z2, z3, z4⟩ := c2 K2)
    | ((with_reducible refine gS 26 5 (.tmp 27) ?_); refine storeN (cs' := #[.slice A3 J.length c3, .slice A4 F.length c4_]) G2 B5 K2 ?_; clear K2 B5 z1 z2 z3 z4; intro w6 K2 B6; replace K1 := bW K1 B6; obtain ⟨z1, z2, z3, z4⟩ := c2 K1)
    | ((with_reducible refine gC 10 ?_); refine goS (some 32) Try.func10 #[.agg #[.slice A1 I.length c1, .slice A2 E.length c2_], .string key] ?_; refine (cDropS h3.out R1 R2 tL).mono ?_; clear z1 z2 z3 z4; rintro e w7 ⟨A5, c5, A6, c6, rfl, R5, R6, B7⟩; refine ⟨_, rfl, ?_⟩; replace K1 := bW K1 B7; replace K2 := bW K2 B7)
    | ((with_reducible refine gD 7 ?_); refine boxS (N := 7) (cs := #[.slice none 0 0, .slice none 0 0]) (t := 26) ?_; intro g3 hg w8 hk hb; have G3 := aS hg; have K3 := aS hk; have B8 := aS hb; clear hg hk hb; obtain ⟨z1, z2, z3, z4⟩ := c2 K3)
    | ((with_reducible refine gS 26 7 (.tmp 33) ?_); refine storeN (cs' := #[.slice A5 J.length c5, .slice A6 F.length c6]) G3 B8 K3 ?_; clear K3 B8 z1 z2 z3 z4; intro w9 K3 B9; replace K1 := bW K1 B9; replace K2 := bW K2 B9; obtain ⟨z1, z2, z3, z4⟩ := c2 K2; obtain ⟨z5, z6, z7, z8⟩ := c2 K3)
    | ((with_reducible refine gC 11 ?_); refine goS (some 37) Try.func11 #[.agg #[.slice A3 J.length c3, .slice A4 F.length c4_], .agg #[.slice A5 J.length c5, .slice A6 F.length c6]] ?_; refine (cSame h4.out R3 R4 tL R5 R6 tL).mono ?_; rintro e w10 ⟨rfl, B10⟩; refine ⟨_, rfl, ?_⟩; clear z1 z2 z3 z4 z5 z6 z7 z8))
  go_ret
  exact ⟨rfl, tL⟩
set_option maxHeartbeats 8000000 in
set_option maxRecDepth 100000 in
theorem drop_yes {l0 I J S : List Int} {E F T : List S56} {key : ByteArray} {x : Int} {ks ls : List ByteArray} {A0 : Option Addr} {c0 : Nat} {w : World} (r0 : Aside0 (Rd (Kd.int .u8) w A0 c0 l0)) (hl : l0.length ≤ 1048576)
    (h1 : Aside0 (Ev (fun k => spec_DrawDictDrop.f k l0) (I, E, key))) (h2 : Aside0 (Ev (fun k => impl_DictDrop.f k I E key) (J, F, true))) (h3 : Aside0 (Ev (fun k => spec_DictDrop.f k I E key) (J, F, true))) (h4 : Aside0 (Ev (fun k => spec_SameDict.f k J F J F) true))
    (h5 : Aside0 (Ev (fun k => impl_DictGet.f k J F key) (x, false))) (h6 : Aside0 (Ev (fun k => impl_DictSet.f k J F key 1) (S, T, true))) (h7 : Aside0 (Ev (fun k => impl_DictKeys.f k S T) ks)) (h8 : Aside0 (Ev (fun k => impl_DictOk.f k J F) true))
    (h9 : Aside0 (Ev (fun k => impl_DictKeys.f k I E) ls)) (hn : ls.length = ks.length) (hk : 1 ≤ ks.length) (hk' : ks.length ≤ 60) (hlast : Aside0 (rdOf ByteArray.empty ks (ks.length - 1) = key)) :
    Calls Try.prog 3 #[.slice A0 l0.length c0] w fun e w' => e = .returned (.bool true) ∧ Below w.heap.size w w' := by
  have hu26 := Try.underlying26
  have b0 : decide (1048576 < (l0.length : Int)) = false := decide_eq_false (by omega)
  have b1 : decide (1048576 < l0.length) = false := decide_eq_false (by omega)
  have b2 : decide ((0 : Int) < (ks.length : Int)) = true := decide_eq_true (by omega)
  have b3 : decide (0 < ks.length) = true := decide_eq_true (by omega)
  clear hl
  have hn := aS hn
  go_enter Try.func3, Try.ntmps3
  go_wp2_with (first
    | ((with_reducible refine gC 8 ?_); refine goS (some 20) Try.func8 #[.slice A0 l0.length c0] ?_; refine (cDraw h1.out r0.out).mono ?_; rintro e w1 ⟨A1, c1, A2, c2_, rfl, R1, R2, B1⟩; refine ⟨_, rfl, ?_⟩)
    | ((with_reducible refine gD 3 ?_); refine boxS (N := 3) (cs := #[.slice none 0 0, .slice none 0 0]) (t := 26) ?_; intro g1 hg w2 hk hb; have G1 := aS hg; have K1 := aS hk; have B2 := aS hb; clear hg hk hb; obtain ⟨z1, z2, z3, z4⟩ := c2 K1)
    | ((with_reducible refine gS 26 3 (.tmp 21) ?_); refine storeN (cs' := #[.slice A1 I.length c1, .slice A2 E.length c2_]) G1 B2 K1 ?_; clear K1 B2 z1 z2 z3 z4; intro w3 K1 B3; obtain ⟨z1, z2, z3, z4⟩ := c2 K1)
    | ((with_reducible refine gC 9 ?_); refine goS (some 26) Try.func9 #[.agg #[.slice A1 I.length c1, .slice A2 E.length c2_], .string key] ?_; refine (cDrop h2.out R1 R2 tL).mono ?_; clear z1 z2 z3 z4; rintro e w4 ⟨A3, c3, A4, c4_, rfl, R3, R4, B4⟩; refine ⟨_, rfl, ?_⟩; replace K1 := bW K1 B4)
    | ((with_reducible refine gD 5 ?_); refine boxS (N := 5) (cs := #[.slice none 0 0, .slice none 0 0]) (t := 26) ?_; intro g2 hg w5 hk hb; have G2 := aS hg; have K2 := aS hk; have B5 := aS hb; clear hg hk hb; obtain ⟨z1, z2, z3, z4⟩ := c2 K2)
    | ((with_reducible refine gS 26 5 (.tmp 27) ?_); refine storeN (cs' := #[.slice A3 J.length c3, .slice A4 F.length c4_]) G2 B5 K2 ?_; clear K2 B5 z1 z2 z3 z4; intro w6 K2 B6; replace K1 := bW K1 B6; obtain ⟨z1, z2, z3, z4⟩ := c2 K1)
    | ((with_reducible refine gC 10 ?_); refine goS (some 32) Try.func10 #[.agg #[.slice A1 I.length c1, .slice A2 E.length c2_], .string key] ?_; refine (cDropS h3.out R1 R2 tL).mono ?_; clear z1 z2 z3 z4; rintro e w7 ⟨A5, c5, A6, c6, rfl, R5, R6, B7⟩; refine ⟨_, rfl, ?_⟩; replace K1 := bW K1 B7; replace K2 := bW K2 B7)
    | ((with_reducible refine gD 7 ?_); refine boxS (N := 7) (cs := #[.slice none 0 0, .slice none 0 0]) (t := 26) ?_; intro g3 hg w8 hk hb; have G3 := aS hg; have K3 := aS hk; have B8 := aS hb; clear hg hk hb; obtain ⟨z1, z2, z3, z4⟩ := c2 K3)
    | ((with_reducible refine gS 26 7 (.tmp 33) ?_); refine storeN (cs' := #[.slice A5 J.length c5, .slice A6 F.length c6]) G3 B8 K3 ?_; clear K3 B8 z1 z2 z3 z4; intro w9 K3 B9; replace K1 := bW K1 B9; replace K2 := bW K2 B9; obtain ⟨z1, z2, z3, z4⟩ := c2 K2; obtain ⟨z5, z6, z7, z8⟩ := c2 K3)
    | ((with_reducible refine gC 11 ?_); refine goS (some 37) Try.func11 #[.agg #[.slice A3 J.length c3, .slice A4 F.length c4_], .agg #[.slice A5 J.length c5, .slice A6 F.length c6]] ?_; refine (cSame h4.out R3 R4 tL R5 R6 tL).mono ?_; rintro e w10 ⟨rfl, B10⟩; refine ⟨_, rfl, ?_⟩; clear z1 z2 z3 z4 z5 z6 z7 z8; clear K3; replace K1 := bW K1 B10; replace K2 := bW K2 B10; obtain ⟨z1, z2, z3, z4⟩ := c2 K2)
    | ((with_reducible refine gC 12 ?_); refine goS (some 53) Try.func12 #[.agg #[.slice A3 J.length c3, .slice A4 F.length c4_], .string key] ?_; refine (cGet h5.out R3 R4 tL).mono ?_; rintro e w11 ⟨rfl, B11⟩; refine ⟨_, rfl, ?_⟩; clear z1 z2 z3 z4; replace K1 := bW K1 B11; replace K2 := bW K2 B11; obtain ⟨z1, z2, z3, z4⟩ := c2 K2)
    | ((with_reducible refine gC 13 ?_); refine goS (some 59) Try.func13 #[.agg #[.slice A3 J.length c3, .slice A4 F.length c4_], .string key, .int .i64 1] ?_; refine (cSet h6.out R3 R4 tL).mono ?_; clear z1 z2 z3 z4; rintro e w12 ⟨A7, c7, A8, c8, rfl, R7, R8, B12⟩; refine ⟨_, rfl, ?_⟩; replace K1 := bW K1 B12; replace K2 := bW K2 B12)
    | ((with_reducible refine gD 12 ?_); refine boxS (N := 12) (cs := #[.slice none 0 0, .slice none 0 0]) (t := 26) ?_; intro g4 hg w13 hk hb; have G4 := aS hg; have K4 := aS hk; have B13 := aS hb; clear hg hk hb; obtain ⟨z1, z2, z3, z4⟩ := c2 K4)
    | ((with_reducible refine gS 26 12 (.tmp 60) ?_); refine storeN (cs' := #[.slice A7 S.length c7, .slice A8 T.length c8]) G4 B13 K4 ?_; clear K4 B13 z1 z2 z3 z4; intro w14 K4 B14; replace K1 := bW K1 B14; replace K2 := bW K2 B14; obtain ⟨z1, z2, z3, z4⟩ := c2 K4)
    | ((with_reducible refine gC 14 ?_); refine goS (some 63) Try.func14 #[.agg #[.slice A7 S.length c7, .slice A8 T.length c8]] ?_; refine (cKeys h7.out R7 R8 tL).mono ?_; clear z1 z2 z3 z4; rintro e w15 ⟨A9, c9, rfl, R9, B15⟩; refine ⟨_, rfl, ?_⟩; replace K1 := bW K1 B15; replace K2 := bW K2 B15; clear K4; obtain ⟨z1, z2, z3, z4⟩ := c2 K2)
    | (go_at_call 15; refine (cOk h8.out R3 R4 tL).mono ?_; clear z1 z2 z3 z4; rintro e w16 ⟨rfl, B16⟩; replace K1 := bW K1 B16; obtain ⟨z1, z2, z3, z4⟩ := c2 K1; obtain ⟨ad, ea, hx⟩ := Rd.last R9.out hk; cases ea; rw [hlast.out] at hx; replace hx := (B16.out.cell (World.block_lt_of_cell? _ _ hx)).trans hx)
    | (go_at_call 14; refine (cKeys h9.out R1 R2 tL).mono ?_; clear z1 z2 z3 z4 hx; rintro e w17 ⟨A10, c10, rfl, R10, B17⟩; have hn := hn.out))
  go_ret
  exact ⟨by simp [hn], tL⟩
end Go.Proofs.Ytihcollncjcpgaa.P
