/- The walk of the law FnExactDictSet: with what its calls come to, it returns true and leaves what was there. Conditions: those that each theorem names (what the functions that it calls come to). -/
import Derived.Test.YtihcollncjcpgaaELk
import Derived.Test.YtihcollncjcpgaaEHandC
import Derived.Test.YtihcollncjcpgaaEx8
import Derived.Test.YtihcollncjcpgaaEx15
namespace Go.Proofs.Ytihcollncjcpgaa.E
open Go.RowKit Go.Proofs.YtihcollncjcpgaaW.PrintWords Go.Proofs.YtihcollncjcpgaaW.PrintLast Go.Proofs.YtihcollncjcpgaaW.PrintMore
set_option linter.unusedVariables false
set_option linter.unusedSimpArgs false

/-- A row of the call's own, between two bounds. -/
def Ow {α : Type} (d : Kd α) (e : Nat) (w : World) (b n : Nat) (v : Value) (l : List α) : Prop := Kd.R d e w b (fun k => b ≤ k ∧ k < n) v l
theorem Ow.of {α : Type} {d : Kd α} {e b : Nat} {w : World} {v : Value} {l : List α} (h : Kd.R d e w b (fun _ => True) v l) : Ow d e w b w.heap.size v l := Kd.R_mono (Kd.R_bound h) (fun _ hk => ⟨hk.2.1, hk.2.2.1⟩)
theorem oW {α : Type} {d : Kd α} {e b n : Nat} {w w1 : World} {v : Value} {l : List α} (h : Aside0 (Ow d e w b n v l)) (hb : Aside0 (Below w.heap.size w w1)) : Aside0 (Ow d e w1 b n v l) := ⟨Kd.R_below h.out hb.out⟩
theorem oK {α : Type} {d : Kd α} {e b n b2 n2 : Nat} {w w1 : World} {v : Value} {l : List α} (h : Aside0 (Ow d e w b n v l)) (hk : Aside0 (Kept w w1 (fun k => b2 ≤ k ∧ k < n2))) (hd : n2 ≤ b) : Aside0 (Ow d e w1 b n v l) := ⟨Kd.R_step h.out (fun k h1 hlt => hk.out.2 k hlt (by omega))⟩
theorem kK {w w1 : World} {g b2 n2 : Nat} {o : Obj} (h : Aside0 (w.heap[g]? = some o)) (hk : Aside0 (Kept w w1 (fun k => b2 ≤ k ∧ k < n2))) (hd : n2 ≤ g) : Aside0 (w1.heap[g]? = some o) := ⟨(hk.out.2 g (blk_lt h.out) (by omega)).trans h.out⟩
theorem Ow.rd {α : Type} {d : Kd α} {e b n : Nat} {w : World} {A : Option Addr} {m c : Nat} {l : List α} (h : Aside0 (Ow d e w b n (.slice A m c) l)) : Aside0 (Rd d w A c l) := by
  have h1 := Kd.R_reads' h.out
  exact ⟨h1.2.2, by have := h1.2.1; have := h1.1; omega⟩
theorem leG {g n : Nat} (h : Aside0 (g = n)) : n ≤ g := Nat.le_of_eq h.out.symm
section
variable {I J : List Int} {E F : List S56} {A A' : Option Addr} {c c' : Nat} {w w1 w2 : World} {key : ByteArray} {v : Int} {b : Bool}
theorem cSetS (h : Ev (fun k => spec_DictSet.f k I E key v) (J, F, b)) (r : Aside0 (Rd (Kd.int .i64) w1 A c I)) (r' : Aside0 (Rd k56 w1 A' c' E)) (hb : Below w1.heap.size w1 w) : Calls Try.prog 17 #[.agg #[.slice A I.length c, .slice A' E.length c'], .string key, .int .i64 v] w fun e w' => ∃ B d B' d', e = .returned (.tuple #[.agg #[.slice B J.length d, .slice B' F.length d'], .bool b]) ∧ Aside0 (Rd (Kd.int .i64) w' B d J) ∧ Aside0 (Rd k56 w' B' d' F) ∧ Aside0 (Below w.heap.size w w') := by
  obtain ⟨k, h⟩ := h
  have r := r.out.below hb; have r' := r'.out.below hb
  refine (spec_DictSet.calls k _ _ I _ _ E key v J F b w r.1 r.2 r'.1 r'.2 (h k (Nat.le_refl _))).mono ?_
  rintro e w' ⟨v0, v1, rfl, h0, h1, hb⟩
  obtain ⟨A, c, rfl, r0⟩ := Rd.of h0
  obtain ⟨A', c', rfl, r1⟩ := Rd.of h1
  exact ⟨A, c, A', c', rfl, ⟨r0⟩, ⟨r1⟩, ⟨hb⟩⟩
theorem cSet (h : Ev (fun k => impl_DictSet.f k I E key v) (J, F, b)) (r : Aside0 (Rd (Kd.int .i64) w1 A c I)) (r' : Aside0 (Rd k56 w1 A' c' E)) (hb : Below w1.heap.size w1 w) : Calls Try.prog 13 #[.agg #[.slice A I.length c, .slice A' E.length c'], .string key, .int .i64 v] w fun e w' => ∃ B d B' d', e = .returned (.tuple #[.agg #[.slice B J.length d, .slice B' F.length d'], .bool b]) ∧ Aside0 (Ow (Kd.int .i64) 3 w' w.heap.size w'.heap.size (.slice B J.length d) J) ∧ Aside0 (Ow k56 56 w' w.heap.size w'.heap.size (.slice B' F.length d') F) ∧ Aside0 (Below w.heap.size w w') := by
  obtain ⟨k, h⟩ := h
  have r := r.out.below hb; have r' := r'.out.below hb
  refine (impl_DictSet.calls k _ _ I _ _ E key v J F b w r.1 r.2 r'.1 r'.2 (h k (Nat.le_refl _))).mono ?_
  rintro e w' ⟨v0, v1, rfl, h0, h1, hb⟩
  obtain ⟨A, c, rfl⟩ := Kd.R_slice h0
  obtain ⟨A', c', rfl⟩ := Kd.R_slice h1
  exact ⟨A, c, A', c', rfl, ⟨Ow.of h0⟩, ⟨Ow.of h1⟩, ⟨hb⟩⟩
theorem cTo {E : List S87} (h : Ev (fun k => laws_toDict.f k I E) (J, F)) (r : Aside0 (Rd (Kd.int .i64) w1 A c I)) (r' : Aside0 (Rd k87 w1 A' c' E)) (hb : Below w1.heap.size w1 w) : Calls Try.prog 21 #[.agg #[.slice A I.length c, .slice A' E.length c']] w fun e w' => ∃ B d B' d', e = .returned (.agg #[.slice B J.length d, .slice B' F.length d']) ∧ Aside0 (Ow (Kd.int .i64) 3 w' w.heap.size w'.heap.size (.slice B J.length d) J) ∧ Aside0 (Ow k56 56 w' w.heap.size w'.heap.size (.slice B' F.length d') F) ∧ Aside0 (Below w.heap.size w w') := by
  obtain ⟨k, h⟩ := h
  have r := r.out.below hb; have r' := r'.out.below hb
  refine (laws_toDict.calls k _ _ I _ _ E J F w r.1 r.2 r'.1 r'.2 (h k (Nat.le_refl _))).mono ?_
  rintro e w' ⟨v0, v1, rfl, h0, h1, hb⟩
  obtain ⟨A, c, rfl⟩ := Kd.R_slice h0
  obtain ⟨A', c', rfl⟩ := Kd.R_slice h1
  exact ⟨A, c, A', c', rfl, ⟨Ow.of h0⟩, ⟨Ow.of h1⟩, ⟨hb⟩⟩
theorem cSz {E : List S87} {a x : Int} (h : Ev (fun k => laws_szDict.f k I E a) x) (r : Aside0 (Rd (Kd.int .i64) w1 A c I)) (r' : Aside0 (Rd k87 w1 A' c' E)) (hb : Below w1.heap.size w1 w) : Calls Try.prog 20 #[.agg #[.slice A I.length c, .slice A' E.length c'], .int .i64 a] w fun e w' => e = .returned (.int .i64 x) ∧ Aside0 (Below w.heap.size w w') := by
  obtain ⟨k, h⟩ := h
  have r := r.out.below hb; have r' := r'.out.below hb
  exact (laws_szDict.calls k _ _ I _ _ E a x w r.1 r.2 r'.1 r'.2 (h k (Nat.le_refl _))).mono fun e w' ⟨h1, h2⟩ => ⟨h1, ⟨h2⟩⟩
theorem cEq {B B' : Option Addr} {d d' : Nat} (h : Ev (fun k => laws_eqDict.f k I E J F) b) (r : Aside0 (Rd (Kd.int .i64) w1 A c I)) (r' : Aside0 (Rd k56 w1 A' c' E)) (hb : Below w1.heap.size w1 w) (q : Aside0 (Rd (Kd.int .i64) w2 B d J)) (q' : Aside0 (Rd k56 w2 B' d' F)) (hb2 : Below w2.heap.size w2 w) :
    Calls Try.prog 22 #[.agg #[.slice A I.length c, .slice A' E.length c'], .agg #[.slice B J.length d, .slice B' F.length d']] w fun e w' => e = .returned (.bool b) ∧ Aside0 (Below w.heap.size w w') := by
  obtain ⟨k, h⟩ := h
  have r := r.out.below hb; have r' := r'.out.below hb
  have q := q.out.below hb2; have q' := q'.out.below hb2
  exact (laws_eqDict.calls k _ _ I _ _ E _ _ J _ _ F b w r.1 r.2 r'.1 r'.2 q.1 q.2 q'.1 q'.2 (h k (Nat.le_refl _))).mono fun e w' ⟨h1, h2⟩ => ⟨h1, ⟨h2⟩⟩
theorem cHeld {a x : Int} {n n' : Nat} (hn : Aside0 (I.length = n)) (hn' : Aside0 (E.length = n')) (h : Ev (fun k => laws_heldDict.f k I E a) x) (r : Aside0 (Rd (Kd.int .i64) w1 A c I)) (r' : Aside0 (Rd k56 w1 A' c' E)) (hb : Below w1.heap.size w1 w) : Calls Try.prog 24 #[.agg #[.slice A n c, .slice A' n' c'], .int .i64 a] w fun e w' => e = .returned (.int .i64 x) ∧ Aside0 (Below w.heap.size w w') := by
  obtain ⟨k, h⟩ := h
  obtain rfl := hn.out
  obtain rfl := hn'.out
  have r := r.out.below hb; have r' := r'.out.below hb
  exact (laws_heldDict.calls k _ _ I _ _ E a x w r.1 r.2 r'.1 r'.2 (h k (Nat.le_refl _))).mono fun e w' ⟨h1, h2⟩ => ⟨h1, ⟨h2⟩⟩
theorem ownNe {w : World} {b b' e e' s s' n n' : Nat} {v v' : Value} {xs xs' : List Value} (h : w.ownsRow b e s v n xs) (h' : w.ownsRow b' e' s' v' n' xs') (hne : e ≠ e') : v.ownBlock = none ∨ v.ownBlock ≠ v'.ownBlock := by
  cases hk : v.ownBlock with
  | none => exact .inl rfl
  | some k =>
    refine .inr fun he => ?_
    obtain ⟨c, hc⟩ := own_typed h k hk
    obtain ⟨c', hc'⟩ := own_typed h' k he.symm
    rw [hc] at hc'
    injection hc' with hc'
    injection hc' with _ ht
    exact hne ht
theorem hX {a b : Option Nat} (h : a = none ∨ a ≠ b) {k : Nat} (h1 : some k = a) (h2 : some k = b) : False := by
  rcases h with h | h
  · rw [h] at h1; cases h1
  · exact h (h1.symm.trans h2)
theorem narrowI {e b : Nat} {ok : Nat → Prop} {w : World} {v : Value} {l : List Int} (h : Kd.R (Kd.int .i64) e w b ok v l) : Kd.R (Kd.int .i64) e w b (fun k => some k = v.ownBlock) v l := ⟨fun k hk => hk.symm, h.2.imp_ (fun _ _ hp => hp)⟩
theorem narrowE {e b : Nat} {ok : Nat → Prop} {w : World} {v : Value} {l : List S56} (h : Kd.R k56 e w b ok v l) : Kd.R k56 e w b (fun k => some k = v.ownBlock) v l := ⟨fun k hk => hk.symm, h.2.imp_ (fun x _ hp => by rw [k56_openM hp]; exact k56_mkM _ _ _ _)⟩
set_option maxHeartbeats 8000000 in
set_option maxRecDepth 100000 in
theorem cMark {a y x : Int} {bs n : Nat} {w0 : World} (h1 : Ev (fun k => laws_markIntS.f k I a) (y, J)) (h2 : Ev (fun k => laws_markEntryS.f k E y) (x, F)) (r : Aside0 (Ow (Kd.int .i64) 3 w bs n (.slice A I.length c) I)) (r' : Aside0 (Ow k56 56 w bs n (.slice A' E.length c') E)) (hb : w0.heap.size ≤ bs) (hB : Below w0.heap.size w0 w) :
    Calls Try.prog 23 #[.agg #[.slice A I.length c, .slice A' E.length c'], .int .i64 a] w fun e w' => e = .returned (.int .i64 x) ∧ Aside0 (Rd (Kd.int .i64) w' A c J) ∧ Aside0 (Rd k56 w' A' c' F) ∧ Aside0 (Below w0.heap.size w0 w') ∧ Aside0 (Kept w w' (fun k => bs ≤ k ∧ k < n)) := by
  obtain ⟨k1, h1⟩ := h1
  obtain ⟨k2, h2⟩ := h2
  have e1 := aS (h1 k1 (Nat.le_refl _))
  have e2 := aS (h2 k2 (Nat.le_refl _))
  clear h1 h2
  have p0 := aS (r.out.1); have p1 := aS (r'.out.1)
  have q0 := aS (Kd.R_lower (narrowI r.out) hb); have q1 := aS (Kd.R_lower (narrowE r'.out) hb)
  have hne : Aside0 ((Value.slice A I.length c).ownBlock = none ∨ (Value.slice A I.length c).ownBlock ≠ (Value.slice A' E.length c').ownBlock) := by
    obtain ⟨i0, o0⟩ := Kd.R_own q0.out
    obtain ⟨i1, o1⟩ := Kd.R_own q1.out
    exact ⟨ownNe o0 o1 (by decide)⟩
  have hlt : Aside0 (∀ k, (Value.slice A I.length c).ownBlock = some k → k < w.heap.size) := ⟨fun k hk => by obtain ⟨i0, o0⟩ := Kd.R_own q0.out; exact own_lt o0 k hk⟩
  have hB := aS hB
  have hu26 := Try.underlying26
  have hu23 := Try.underlying23
  have hu24 := Try.underlying24
  clear hb r r'
  go_enter Try.func23, Try.ntmps23
  go_wp2_with (first
    | ((with_reducible refine gD 2 ?_); refine boxS (N := 2) (cs := #[.slice A I.length c, .slice A' E.length c']) (t := 26) ?_; intro g hg w1 hk hb; have G := aS hg; have K := aS hk; have B := aS hb; clear hg hk hb; replace q0 := aS (Kd.R_below q0.out B.out); replace q1 := aS (Kd.R_below q1.out B.out); obtain ⟨z1, z2, z3, z4⟩ := c2 K)
    | ((with_reducible refine gC 57 ?_); refine goS (some 8) Try.func57 #[.slice A I.length c, .int .i64 a] ?_; refine (laws_markIntS.calls k1 _ _ I a y J w0 _ (below_step hB.out B.out) q0.out e1.out).mono ?_; clear z1 z2 z3 z4; rintro e w2 ⟨rfl, s0, hb2, hk2⟩; refine ⟨_, rfl, ?_⟩; have S0 := aS s0; have B2 := aS hb2; have P2 := aS hk2; clear s0 hb2 hk2; replace K := aS ((P2.out.2 g (blk_lt K.out) (fun hk => by have := hlt.out g hk.symm; have := G.out; omega)).trans K.out); replace q1 := aS (Kd.R_step q1.out (fun k h1 hlt => P2.out.2 k hlt (fun h => hX hne.out h h1))); obtain ⟨z1, z2, z3, z4⟩ := c2 K)
    | ((with_reducible refine gC 58 ?_); refine goS (some 12) Try.func58 #[.slice A' E.length c', .int .i64 y] ?_; refine (laws_markEntryS.calls k2 _ _ E y x F w0 _ B2.out q1.out e2.out).mono ?_; clear z1 z2 z3 z4; rintro e w3 ⟨rfl, s1, hb3, hk3⟩; refine ⟨_, rfl, ?_⟩; have S1 := aS s1; have B3 := aS hb3; have P3 := aS hk3; clear s1 hb3 hk3))
  go_ret
  have t0 := Kd.R_step (Kd.R_bound S0.out) (fun k h1 hlt => P3.out.2 k hlt (fun h => by
    rcases hne.out with hn | hn
    · obtain ⟨i0, o0⟩ := Kd.R_own S0.out
      obtain ⟨i1, o1⟩ := Kd.R_own q1.out
      obtain ⟨_, _, _, q, hq, cells, hc⟩ := h1
      obtain ⟨cells', hc'⟩ := own_typed o1 k h.symm
      rw [hc] at hc'
      have h56 : cells = cells' ∧ q = 56 := by simpa using hc'
      have h3 : q = 3 := by simpa [Kd.int, Kd.scalar] using hq
      have := h56.2
      omega
    · obtain ⟨_, _, _, q, hq, cells, hc⟩ := h1
      obtain ⟨i1, o1⟩ := Kd.R_own q1.out
      obtain ⟨cells', hc'⟩ := own_typed o1 k h.symm
      rw [hc] at hc'
      have h56 : cells = cells' ∧ q = 56 := by simpa using hc'
      have h3 : q = 3 := by simpa [Kd.int, Kd.scalar] using hq
      have := h56.2
      omega))
  have u0 := Kd.R_reads' t0; have u1 := Kd.R_reads' S1.out
  refine ⟨rfl, ⟨u0.2.2, by have := u0.1; have := u0.2.1; omega⟩, ⟨u1.2.2, by have := u1.1; have := u1.2.1; omega⟩, B3, ⟨?_⟩⟩
  refine Kept.then_ (Kept.then_ (Kept.of_below B.out (fun k => bs ≤ k ∧ k < n)) P2.out (fun k hk => .inl (p0.out k hk.symm))) P3.out (fun k hk => .inl (p1.out k hk.symm))
end
def exd_T12 : Bool × List (List Nat × List Nat) := (true, [([], []), ([], []), ([1], [1]), ([0, 2, 2], [0, 2]), ([3], [3])])
def exd_B12 : List Nat := [0, 0, 2, 7, 15]
theorem exd_T12_tab : rtab .any (opsOf Try.f6 12) = exd_T12 := by kernel_rfl
theorem exd_T12_bits : waitsOk exd_T12.2 exd_B12 = true := by kernel_rfl
set_option maxHeartbeats 8000000 in
set_option maxRecDepth 100000 in
theorem exact_ok {I X J X' J' : List Int} {E : List S87} {Y F Y' F' : List S56} {key : ByteArray} {v s k0 m0 k1 m : Int} {b : Bool} {A0 A1 : Option Addr} {c0 c1_ : Nat} {w : World} (r0 : Aside0 (Rd (Kd.int .i64) w A0 c0 I)) (r1 : Aside0 (Rd k87 w A1 c1_ E)) (hkey : key.size ≤ 1048576)
    (h1 : Aside0 (Ev (fun k => laws_szDict.f k I E 1048576) s)) (hs : 0 ≤ s) (h2 : Aside0 (Ev (fun k => laws_toDict.f k I E) (X, Y))) (h3 : Aside0 (Ev (fun k => spec_DictSet.f k X Y key v) (J, F, b))) (h4 : Aside0 (Ev (fun k => impl_DictSet.f k X Y key v) (J, F, b)))
    (h5 : Aside0 (Ev (fun k => laws_eqDict.f k J F J F) true)) (h6 : Aside0 (Ev (fun k => laws_eqDict.f k X Y X Y) true)) (h7 : Aside0 (Ev (fun k => laws_markIntS.f k X 1) (k0, X'))) (h7' : Aside0 (Ev (fun k => laws_markEntryS.f k Y k0) (k1, Y'))) (hk1 : 0 ≤ k1) (h8 : Aside0 (Ev (fun k => laws_markIntS.f k J 1) (m0, J'))) (h8' : Aside0 (Ev (fun k => laws_markEntryS.f k F m0) (m, F'))) (h9 : Aside0 (Ev (fun k => laws_heldDict.f k J' F' 1) m)) (hm : 0 ≤ m)
    (hl : Aside0 (J'.length = J.length)) (hl' : Aside0 (F'.length = F.length)) :
    Calls Try.prog 6 #[.agg #[.slice A0 I.length c0, .slice A1 E.length c1_], .string key, .int .i64 v] w fun e w' => e = .returned (.bool true) ∧ Below w.heap.size w w' := by
  have hu26 := Try.underlying26
  have hu45 := Try.underlying45
  have b0 : decide (1048576 < (key.size : Int)) = false := decide_eq_false (by omega)
  have b1 : decide (1048576 < key.size) = false := decide_eq_false (by omega)
  have b2 : decide (s < 0) = false := decide_eq_false (by omega)
  have b3 : decide (k1 < 0) = false := decide_eq_false (by omega)
  have b4 : decide (m < 0) = false := decide_eq_false (by omega)
  clear hkey hs hk1 hm
  go_enter Try.func6, Try.ntmps6
  go_wp2_with (first
    | ((with_reducible refine gD 3 ?_); refine boxS (N := 3) (cs := #[.slice A0 I.length c0, .slice A1 E.length c1_]) (t := 45) ?_; intro g1 hg w1 hk hb; have G1 := aS hg; have K1 := aS hk; have B1 := aS hb; clear hg hk hb; obtain ⟨z1, z2, z3, z4⟩ := c2 K1)
    | ((with_reducible refine gC 20 ?_); refine goS (some 23) Try.func20 #[.agg #[.slice A0 I.length c0, .slice A1 E.length c1_], .int .i64 1048576] ?_; refine (cSz h1.out r0 r1 tL).mono ?_; clear z1 z2 z3 z4; rintro e w2 ⟨rfl, B2⟩; refine ⟨_, rfl, ?_⟩; replace K1 := bW K1 B2; obtain ⟨z5, z6, z7, z8⟩ := c2 K1)
    | ((with_reducible refine gC 21 ?_); refine goS (some 28) Try.func21 #[.agg #[.slice A0 I.length c0, .slice A1 E.length c1_]] ?_; refine (cTo h2.out r0 r1 tL).mono ?_; clear z5 z6 z7 z8; rintro e w3 ⟨A2, c2_, A3, c3_, rfl, R2, R3, B3⟩; refine ⟨_, rfl, ?_⟩; replace K1 := bW K1 B3)
    | ((with_reducible refine gC 17 ?_); refine goS (some 31) Try.func17 #[.agg #[.slice A2 X.length c2_, .slice A3 Y.length c3_], .string key, .int .i64 v] ?_; refine (cSetS h3.out (Ow.rd R2) (Ow.rd R3) tL).mono ?_; rintro e w4 ⟨A4, c4_, A5, c5_, rfl, R4, R5, B4⟩; refine ⟨_, rfl, ?_⟩; replace K1 := bW K1 B4)
    | ((with_reducible refine gD 8 ?_); refine boxS (N := 8) (cs := #[.slice none 0 0, .slice none 0 0]) (t := 26) ?_; intro g2 hg w5 hk hb; have G2 := aS hg; have K2 := aS hk; have B5 := aS hb; clear hg hk hb; obtain ⟨z9, z10, z11, z12⟩ := c2 K2)
    | ((with_reducible refine gS 26 8 (.tmp 32) ?_); refine storeN (cs' := #[.slice A4 J.length c4_, .slice A5 F.length c5_]) G2 B5 K2 ?_; clear K2 B5; clear z9 z10 z11 z12; intro w6 K2 B6; replace K1 := bW K1 B6; obtain ⟨z13, z14, z15, z16⟩ := c2 K1)
    | ((with_reducible refine gC 21 ?_); refine goS (some 35) Try.func21 #[.agg #[.slice A0 I.length c0, .slice A1 E.length c1_]] ?_; refine (cTo h2.out r0 r1 tL).mono ?_; clear z13 z14 z15 z16; rintro e w7 ⟨A6, c6_, A7, c7_, rfl, R6, R7, B7⟩; refine ⟨_, rfl, ?_⟩; have K1o := K1; have K2o := K2; replace K1 := bW K1 B7; replace K2 := bW K2 B7)
    | ((with_reducible refine gD 10 ?_); refine boxS (N := 10) (cs := #[.slice none 0 0, .slice none 0 0]) (t := 26) ?_; intro g3 hg w8 hk hb; have G3 := aS hg; have K3 := aS hk; have B8 := aS hb; clear hg hk hb; obtain ⟨z17, z18, z19, z20⟩ := c2 K3)
    | ((with_reducible refine gS 26 10 (.tmp 35) ?_); refine storeN (cs' := #[.slice A6 X.length c6_, .slice A7 Y.length c7_]) G3 B8 K3 ?_; clear K3 B8; clear z17 z18 z19 z20; intro w9 K3 B9; replace K1 := bW K1 B9; replace K2 := bW K2 B9; obtain ⟨z21, z22, z23, z24⟩ := c2 K3)
    | ((with_reducible refine gC 13 ?_); refine goS (some 40) Try.func13 #[.agg #[.slice A6 X.length c6_, .slice A7 Y.length c7_], .string key, .int .i64 v] ?_; refine (cSet h4.out (Ow.rd R6) (Ow.rd R7) tL).mono ?_; clear z21 z22 z23 z24; rintro e w10 ⟨A8, c8_, A9, c9_, rfl, R8, R9, B10⟩; refine ⟨_, rfl, ?_⟩; replace K1 := bW K1 B10; replace K2 := bW K2 B10; replace K3 := bW K3 B10)
    | ((with_reducible refine gD 11 ?_); refine boxS (N := 11) (cs := #[.slice none 0 0, .slice none 0 0]) (t := 26) ?_; intro g4 hg w11 hk hb; have G4 := aS hg; have K4 := aS hk; have B11 := aS hb; clear hg hk hb; obtain ⟨z25, z26, z27, z28⟩ := c2 K4)
    | ((with_reducible refine gS 26 11 (.tmp 41) ?_); refine storeN (cs' := #[.slice A8 J.length c8_, .slice A9 F.length c9_]) G4 B11 K4 ?_; clear K4 B11; clear z25 z26 z27 z28; intro w12 K4 B12; replace K1 := bW K1 B12; replace K2 := bW K2 B12; replace K3 := bW K3 B12; obtain ⟨z29, z30, z31, z32⟩ := c2 K4; obtain ⟨z33, z34, z35, z36⟩ := c2 K2)
    | ((with_reducible refine gC 22 ?_); refine goS (some 45) Try.func22 #[.agg #[.slice A8 J.length c8_, .slice A9 F.length c9_], .agg #[.slice A4 J.length c4_, .slice A5 F.length c5_]] ?_; refine (cEq h5.out (Ow.rd R8) (Ow.rd R9) tL R4 R5 tL).mono ?_; clear z29 z30 z31 z32 z33 z34 z35 z36; rintro e w13 ⟨rfl, B13⟩; refine ⟨_, rfl, ?_⟩; replace K1 := bW K1 B13; replace K2 := bW K2 B13; replace K3 := bW K3 B13; replace K4 := bW K4 B13))
  have B14 := bD w13; replace K1 := bW K1 B14; replace K2 := bW K2 B14; replace K3 := bW K3 B14; replace K4 := bW K4 B14; refine start_ (n := 5) (S := fun w' => w'.cell? ⟨g3, 0, none⟩ = some (.slice A6 X.length c6_) ∧ w'.cell? ⟨g3, 1, none⟩ = some (.slice A7 Y.length c7_) ∧ w'.cell? ⟨g1, 0, none⟩ = some (.slice A0 I.length c0) ∧ w'.cell? ⟨g1, 1, none⟩ = some (.slice A1 E.length c1_)) (ds := []) (.replicate 5 false) (by kernel_rfl) rfl rfl ⟨cl K3 0, cl K3 1, cl K1 0, cl K1 1⟩ (fun hHeld => ?_); refine with_tabW exd_T12_tab exd_T12_bits (fun HT_ HW_ => ?_)
  generalize w13.drew = w14 at B14 K1 K2 K3 K4 hHeld ⊢
  refine tN 0 52 ?_; refine tN 1 53 ?_
  refine callN 2 54 Try.func21 #[.agg #[.slice A0 I.length c0, .slice A1 E.length c1_]] ?_; refine (cTo h2.out r0 r1 tL).mono ?_; rintro e w15 ⟨A10, c10_, A11, c11_, rfl, R10, R11, B15⟩
  replace K1 := bW K1 B15; replace K2 := bW K2 B15; replace K3 := bW K3 B15; replace K4 := bW K4 B15; refine ⟨_, rfl, ⟨cl K3 0, cl K3 1, cl K1 0, cl K1 1⟩, ?_⟩; intro a_ ha; clear hHeld; intro hHeld; simp only [Act.put, List.setIfInBounds_toArray, List.set_cons_zero, List.set_cons_succ] at ha; subst ha
  refine callN 3 55 Try.func22 #[.agg #[.slice A6 X.length c6_, .slice A7 Y.length c7_], .agg #[.slice A10 X.length c10_, .slice A11 Y.length c11_]] ?_; refine (cEq h6.out (Ow.rd R6) (Ow.rd R7) tL (Ow.rd R10) (Ow.rd R11) tL).mono ?_; rintro e w16 ⟨rfl, B16⟩
  replace K1 := bW K1 B16; replace K2 := bW K2 B16; replace K3 := bW K3 B16; replace K4 := bW K4 B16; refine ⟨_, rfl, ⟨cl K3 0, cl K3 1, cl K1 0, cl K1 1⟩, ?_⟩; intro a_ ha; clear hHeld; intro hHeld; simp only [Act.put, List.setIfInBounds_toArray, List.set_cons_zero, List.set_cons_succ] at ha; subst ha
  refine pN 4 56 ?_; refine dN ?_
  replace R8 := oW (oW (oW (oW (oW R8 B12) B13) B14) B15) B16; replace R9 := oW (oW (oW (oW (oW R9 B12) B13) B14) B15) B16; replace R6 := oW (oW (oW (oW (oW (oW R6 B9) B10) B12) B13) B14) B15; replace R6 := oW R6 B16;  replace R7 := oW (oW (oW (oW (oW (oW R7 B9) B10) B12) B13) B14) B15; replace R7 := oW R7 B16; obtain ⟨z61, z62, z63, z64⟩ := c2 K3
  go_wp2_with (first
    | ((with_reducible refine gC 23 ?_); refine goS (some 59) Try.func23 #[.agg #[.slice A6 X.length c6_, .slice A7 Y.length c7_], .int .i64 1] ?_; refine (cMark (w0 := w6) h7.out h7'.out R6 R7 (Nat.le_refl _) tL).mono ?_; clear z61 z62 z63 z64; rintro e w17 ⟨rfl, _, _, B17, P17⟩; refine ⟨_, rfl, ?_⟩; have hn1 : w7.heap.size ≤ w9.heap.size := below_size tL; replace R8 := oK R8 P17 hn1; replace R9 := oK R9 P17 hn1; have hn2 : w7.heap.size ≤ w10.heap.size := below_size tL; replace K4 := kK K4 P17 (Nat.le_trans hn2 (leG G4)); replace K1 := bW K1o B17; replace K2 := bW K2o B17; clear hn1 hn2 K3 R6 R7 P17; obtain ⟨z37, z38, z39, z40⟩ := c2 K4; obtain ⟨z41, z42, z43, z44⟩ := c2 K2)
    | (go_at_call 22; refine (cEq h5.out (Ow.rd R8) (Ow.rd R9) tL R4 R5 tL).mono ?_; clear z37 z38 z39 z40 z41 z42 z43 z44; rintro e w18 ⟨rfl, B18⟩; replace K1 := bW K1 B18; replace K2 := bW K2 B18; replace K4 := bW K4 B18; obtain ⟨z45, z46, z47, z48⟩ := c2 K4; replace R8 := oW R8 B18; replace R9 := oW R9 B18)
    | ((with_reducible refine gC 23 ?_); refine goS (some 75) Try.func23 #[.agg #[.slice A8 J.length c8_, .slice A9 F.length c9_], .int .i64 1] ?_; refine (cMark (w0 := w6) h8.out h8'.out R8 R9 (below_size tL) tL).mono ?_; clear z45 z46 z47 z48; rintro e w19 ⟨rfl, R12, R13, B19, P19⟩; refine ⟨_, rfl, ?_⟩; replace K4 := kK K4 P19 (leG G4); replace K1 := bW K1o B19; replace K2 := bW K2o B19; clear K1o K2o R8 R9 P19; obtain ⟨z49, z50, z51, z52⟩ := c2 K4)
    | ((with_reducible refine gC 24 ?_); refine goS (some 78) Try.func24 #[.agg #[.slice A8 J.length c8_, .slice A9 F.length c9_], .int .i64 1] ?_; refine (cHeld hl hl' h9.out R12 R13 tL).mono ?_; clear z49 z50 z51 z52; rintro e w20 ⟨rfl, B20⟩; refine ⟨_, rfl, ?_⟩; replace K1 := bW K1 B20; replace K2 := bW K2 B20; replace K4 := bW K4 B20; obtain ⟨z53, z54, z55, z56⟩ := c2 K1)
    | ((with_reducible refine gC 21 ?_); refine goS (some 86) Try.func21 #[.agg #[.slice A0 I.length c0, .slice A1 E.length c1_]] ?_; refine (cTo h2.out r0 r1 tL).mono ?_; clear z53 z54 z55 z56; rintro e w21 ⟨A14, c14_, A15, c15_, rfl, R14, R15, B21⟩; refine ⟨_, rfl, ?_⟩; replace K1 := bW K1 B21; replace K2 := bW K2 B21; replace K4 := bW K4 B21)
    | ((with_reducible refine gC 13 ?_); refine goS (some 89) Try.func13 #[.agg #[.slice A14 X.length c14_, .slice A15 Y.length c15_], .string key, .int .i64 v] ?_; refine (cSet h4.out (Ow.rd R14) (Ow.rd R15) tL).mono ?_; rintro e w22 ⟨A16, c16_, A17, c17_, rfl, R16, R17, B22⟩; refine ⟨_, rfl, ?_⟩; replace K1 := bW K1 B22; replace K2 := bW K2 B22; replace K4 := bW K4 B22)
    | ((with_reducible refine gD 16 ?_); refine boxS (N := 16) (cs := #[.slice none 0 0, .slice none 0 0]) (t := 26) ?_; intro g5 hg w23 hk hb; have G5 := aS hg; have K5 := aS hk; have B23 := aS hb; clear hg hk hb; obtain ⟨z57, z58, z59, z60⟩ := c2 K5)
    | ((with_reducible refine gS 26 16 (.tmp 90) ?_); refine storeN (cs' := #[.slice A16 J.length c16_, .slice A17 F.length c17_]) G5 B23 K5 ?_; clear K5 B23; clear z57 z58 z59 z60; intro w24 K5 B24; replace K1 := bW K1 B24; replace K2 := bW K2 B24; replace K4 := bW K4 B24; obtain ⟨z61, z62, z63, z64⟩ := c2 K5; obtain ⟨z65, z66, z67, z68⟩ := c2 K2)
    | ((with_reducible refine gC 22 ?_); refine goS (some 94) Try.func22 #[.agg #[.slice A16 J.length c16_, .slice A17 F.length c17_], .agg #[.slice A4 J.length c4_, .slice A5 F.length c5_]] ?_; refine (cEq h5.out (Ow.rd R16) (Ow.rd R17) tL R4 R5 tL).mono ?_; clear z61 z62 z63 z64 z65 z66 z67 z68; rintro e w25 ⟨rfl, B25⟩; refine ⟨_, rfl, ?_⟩; replace K1 := bW K1 B25; replace K2 := bW K2 B25; replace K4 := bW K4 B25; replace K5 := bW K5 B25; obtain ⟨z69, z70, z71, z72⟩ := c2 K4)
    | ((with_reducible refine gC 24 ?_); refine goS (some 103) Try.func24 #[.agg #[.slice A8 J.length c8_, .slice A9 F.length c9_], .int .i64 1] ?_; refine (cHeld hl hl' h9.out R12 R13 tL).mono ?_; clear z69 z70 z71 z72; rintro e w26 ⟨rfl, B26⟩; refine ⟨_, rfl, ?_⟩; replace K1 := bW K1 B26; replace K2 := bW K2 B26; replace K4 := bW K4 B26; replace K5 := bW K5 B26))
  go_ret
  exact ⟨by first | rfl | (simp; done) | (simp [*]; done), tL⟩
end Go.Proofs.Ytihcollncjcpgaa.E
