/- What the helpers of the exact law of dictionaries come to, in plain Lean: sizes, copies, comparisons, marks. No Go and no memory in it; no conditions but those that each law names. -/
import Derived.Test.YtihcollncjcpgaaEDch
import Derived.Test.YtihcollncjcpgaaEx15
namespace Go.Proofs.Ytihcollncjcpgaa.E
open Go.RowKit Go.Proofs.YtihcollncjcpgaaW.PrintWords Go.Proofs.YtihcollncjcpgaaW.PrintLast Go.Proofs.YtihcollncjcpgaaW.PrintMore
set_option linter.unusedVariables false

theorem ent87_at {E : List S87} {i : Nat} (h : i < E.length) : rd_T87 E (i : Int) = E[i] := by
  unfold rd_T87
  rw [Int.toNat_natCast, List.getD_eq_getElem?_getD, List.getElem?_eq_getElem h]
  rfl
/-- The size of a dictionary that came in: negative, or its rows are short. -/
theorem szDict_ok {I : List Int} {E : List S87} (hI : I.length ≤ 9223372036854775807) (hE : E.length ≤ 9223372036854775807) (hk : ∀ e ∈ E, e.f0.size ≤ 9223372036854775807) :
    ∃ r, Ev (fun k => laws_szDict.f k I E 1048576) r ∧ (0 ≤ r → I.length ≤ 1048576 ∧ E.length ≤ 1048576) := by
  have e1 : wrap64 (1048576 - (I.length : Int)) = 1048576 - I.length := w64 (by omega) (by omega)
  by_cases h1 : 1048576 - (I.length : Int) < 0
  · refine ⟨-1, ?_, fun h => absurd h (by decide)⟩
    refine Ev.bindNow (a := (-1 : Int)) ?_ (Ev.pos (by decide) (Ev.now _))
    unfold laws_szIntS.f
    rw [e1, if_pos h1]
  have hS : laws_szIntS.f I 1048576 = some (1048576 - (I.length : Int)) := by
    unfold laws_szIntS.f
    rw [e1, if_neg h1]
  have e2 : wrap64 (1048576 - (I.length : Int) - (E.length : Int)) = 1048576 - (I.length : Int) - E.length := w64 (by omega) (by omega)
  by_cases h2 : 1048576 - (I.length : Int) - (E.length : Int) < 0
  · refine ⟨-1, Ev.bindNow hS (Ev.neg h1 (Ev.bind (a := (-1 : Int)) ?_ (Ev.pos (by decide) (Ev.now _)))), fun h => absurd h (by decide)⟩
    unfold laws_szEntryS.f
    rw [e2]
    exact Ev.pos h2 (Ev.now _)
  have go : ∀ d i : Nat, ∀ x : Int, i + d = E.length → 0 ≤ x → x ≤ 1048576 → ∃ r, Ev (fun k => laws_szEntryS.l0 k E x i) r := by
    intro d
    induction d with
    | zero =>
      intro i x hi hx hx'
      refine ⟨x, Ev.succ ?_⟩
      simp only [laws_szEntryS.l0]
      exact Ev.neg (by omega) (Ev.now _)
    | succ d ih =>
      intro i x hi hx hx'
      have hil : i < E.length := by omega
      have hsz := hk _ (List.getElem_mem hil)
      have e3 : wrap64 (x - (E[i].f0.size : Int)) = x - E[i].f0.size := w64 (by omega) (by omega)
      by_cases h3 : x - (E[i].f0.size : Int) < 0
      · refine ⟨-1, Ev.succ ?_⟩
        simp only [laws_szEntryS.l0]
        rw [ent87_at hil]
        refine Ev.pos (by omega) (Ev.pos (by omega) (Ev.bindNow (a := (-1 : Int)) ?_ (Ev.pos (by decide) (Ev.now _))))
        unfold laws_szEntry.f
        rw [e3, if_pos h3]
      · obtain ⟨r, h⟩ := ih (i + 1) (x - (E[i].f0.size : Int)) (by omega) (by omega) (by omega)
        refine ⟨r, Ev.succ ?_⟩
        simp only [laws_szEntryS.l0]
        rw [ent87_at hil, nat_next (by omega)]
        refine Ev.pos (by omega) (Ev.pos (by omega) (Ev.bindNow (a := x - (E[i].f0.size : Int)) ?_ (Ev.neg h3 h)))
        unfold laws_szEntry.f
        rw [e3, if_neg h3]
  obtain ⟨r, h⟩ := go E.length 0 (1048576 - (I.length : Int) - (E.length : Int)) (by omega) (by omega) (by omega)
  have hE' : Ev (fun k => laws_szEntryS.f k E (1048576 - (I.length : Int))) r := by
    unfold laws_szEntryS.f
    rw [e2]
    exact Ev.neg h2 h
  by_cases hr : r < 0
  · exact ⟨-1, Ev.bindNow hS (Ev.neg h1 (Ev.bind hE' (Ev.pos hr (Ev.now _)))), fun h => absurd h (by decide)⟩
  · exact ⟨r, Ev.bindNow hS (Ev.neg h1 (Ev.bind hE' (Ev.neg hr (Ev.now _)))), fun _ => ⟨by omega, by omega⟩⟩
/-- An entry of the one type as one of the other. -/
def cvE (e : S87) : S56 := ⟨e.f0, e.f1, e.f2, e.f3⟩
theorem set_next {α : Type} {l m : List α} {i : Nat} (hl : l.length = m.length) (hi : i < m.length) (h : l.take i = m.take i) : (l.set i m[i]).take (i + 1) = m.take (i + 1) := by
  have hs : i < (l.set i m[i]).length := by rw [List.length_set]; omega
  rw [take_next hs, take_next hi, List.getElem_set_self, List.take_set_of_le (Nat.le_refl i), h]
theorem toInt_ok {I : List Int} (hI : I.length ≤ 1048576) : Ev (fun k => laws_toIntS.f k I) I := by
  have go : ∀ d i : Nat, ∀ l : List Int, i + d = I.length → l.length = I.length → l.take i = I.take i → Ev (fun k => laws_toIntS.l0 k I l i) I := by
    intro d
    induction d with
    | zero =>
      intro i l hi hl ht
      refine Ev.succ ?_
      simp only [laws_toIntS.l0]
      refine Ev.neg (by omega) (Ev.ret ?_)
      rw [List.take_of_length_le (by omega), List.take_of_length_le (by omega)] at ht
      exact ht
    | succ d ih =>
      intro i l hi hl ht
      have hil : i < I.length := by omega
      refine Ev.succ ?_
      simp only [laws_toIntS.l0]
      rw [nat_next (by omega), Int.toNat_natCast, rd_at hil]
      exact Ev.pos (by omega) (Ev.pos (by omega) (Ev.pos (by omega) (ih (i + 1) _ (by omega) (by rw [List.length_set]; exact hl) (set_next hl hil ht))))
  refine Ev.pos (by omega) (Ev.pos (by omega) ?_)
  rw [Int.toNat_natCast]
  exact go I.length 0 _ (by omega) (by simp) (by simp)
theorem toEnt_ok {E : List S87} (hE : E.length ≤ 1048576) : Ev (fun k => laws_toEntryS.f k E) (E.map cvE) := by
  have hm : (E.map cvE).length = E.length := List.length_map ..
  have go : ∀ d i : Nat, ∀ l : List S56, i + d = E.length → l.length = E.length → l.take i = (E.map cvE).take i → Ev (fun k => laws_toEntryS.l0 k E l i) (E.map cvE) := by
    intro d
    induction d with
    | zero =>
      intro i l hi hl ht
      refine Ev.succ ?_
      simp only [laws_toEntryS.l0]
      refine Ev.neg (by omega) (Ev.ret ?_)
      rw [List.take_of_length_le (by omega), List.take_of_length_le (by omega)] at ht
      exact ht
    | succ d ih =>
      intro i l hi hl ht
      have hil : i < E.length := by omega
      have hil' : i < (E.map cvE).length := by omega
      have e : (E.map cvE)[i] = cvE E[i] := List.getElem_map ..
      have hn := set_next (by omega) hil' ht
      rw [e] at hn
      refine Ev.succ ?_
      simp only [laws_toEntryS.l0]
      rw [nat_next (by omega), Int.toNat_natCast, ent87_at hil]
      exact Ev.pos (by omega) (Ev.pos (by omega) (Ev.bindNow rfl (Ev.pos (by omega) (ih (i + 1) _ (by omega) (by rw [List.length_set]; exact hl) hn))))
  refine Ev.pos (by omega) (Ev.pos (by omega) ?_)
  rw [Int.toNat_natCast]
  exact go E.length 0 _ (by omega) (by simp) (by simp)
theorem toDict_ok {I : List Int} {E : List S87} (hI : I.length ≤ 1048576) (hE : E.length ≤ 1048576) : Ev (fun k => laws_toDict.f k I E) (I, E.map cvE) := Ev.bind (toInt_ok hI) (Ev.bind (toEnt_ok hE) (Ev.now _))
theorem eqDict_ok (I : List Int) (E : List S56) (hI : I.length ≤ 1048576) (hE : E.length ≤ 1048576) : Ev (fun k => laws_eqDict.f k I E I E) true := by
  have go1 : ∀ d i : Nat, i + d = I.length → Ev (fun k => laws_eqIntS.l0 k I I i) true := by
    intro d
    induction d with
    | zero =>
      intro i hi
      refine Ev.succ ?_
      simp only [laws_eqIntS.l0]
      exact Ev.neg (by omega) (Ev.now _)
    | succ d ih =>
      intro i hi
      refine Ev.succ ?_
      simp only [laws_eqIntS.l0]
      rw [nat_next (by omega)]
      exact Ev.pos (by omega) (Ev.pos (by omega) (Ev.pos (by omega) (Ev.pos trivial (ih (i + 1) (by omega)))))
  have go2 : ∀ d i : Nat, i + d = E.length → Ev (fun k => laws_eqEntryS.l0 k E E i) true := by
    intro d
    induction d with
    | zero =>
      intro i hi
      refine Ev.succ ?_
      simp only [laws_eqEntryS.l0]
      exact Ev.neg (by omega) (Ev.now _)
    | succ d ih =>
      intro i hi
      refine Ev.succ ?_
      simp only [laws_eqEntryS.l0]
      rw [nat_next (by omega)]
      refine Ev.pos (by omega) (Ev.pos (by omega) (Ev.pos (by omega) (Ev.bindNow (a := true) ?_ (Ev.pos rfl (ih (i + 1) (by omega))))))
      unfold laws_eqEntry.f
      rw [if_pos rfl, if_pos rfl, if_pos rfl, if_neg (by simp)]
  exact Ev.bind (a := true) (Ev.pos rfl (go1 I.length 0 (by omega))) (Ev.pos rfl (Ev.bind (a := true) (Ev.pos rfl (go2 E.length 0 (by omega))) (Ev.pos rfl (Ev.now _))))
/-- A mark's text. -/
theorem markText_any {n : Int} (h0 : 0 < n) (h1 : n ≤ 1000000000) : ∃ s, Ev (fun k => laws_markText.f k n) s := by
  have go : ∀ d : Nat, ∀ (x : Int) (u : ByteArray), 0 ≤ x → x < 10 ^ d → d ≤ 10 → u.size + d ≤ 20 → ∃ s, Ev (fun k => laws_markText.l0 k x u) s := by
    intro d
    induction d with
    | zero =>
      intro x u hx hx' _ hu
      refine ⟨(⟨#[109]⟩ : ByteArray) ++ u, Ev.succ ?_⟩
      simp only [laws_markText.l0]
      exact Ev.neg (by simp at hx'; omega) (Ev.pos (by omega) (Ev.now _))
    | succ d ih =>
      intro x u hx hx' hd hu
      by_cases hz : x > 0
      · have hdv : Int.tdiv x 10 = x / 10 := Int.tdiv_eq_ediv_of_nonneg hx
        have hxb : x < 10000000000 := Int.lt_of_lt_of_le hx' (by
          have : (10 : Int) ^ (d + 1) ≤ 10 ^ 10 := by exact_mod_cast Nat.pow_le_pow_right (by decide) hd
          simpa using this)
        have ew : wrap64 (Int.tdiv x 10) = x / 10 := by rw [hdv]; exact w64 (by omega) (by omega)
        have hp : (10 : Int) ^ (d + 1) = 10 ^ d * 10 := by rw [Int.pow_succ]
        have hs : ∀ c : Int, (strOfNums [c] ++ u).size = u.size + 1 := by intro c; rw [ByteArray.size_append]; show 1 + u.size = _; omega
        obtain ⟨s, h⟩ := ih (x / 10) (strOfNums [(wrap64 (48 + (Int.tmod x 10))) % 256] ++ u) (by omega) (by omega) (by omega) (by rw [hs]; omega)
        refine ⟨s, Ev.succ ?_⟩
        simp only [laws_markText.l0]
        rw [ew]
        exact Ev.pos hz (Ev.bindNow rfl (Ev.pos (by show 1 + u.size ≤ _; omega) h))
      · refine ⟨(⟨#[109]⟩ : ByteArray) ++ u, Ev.succ ?_⟩
        simp only [laws_markText.l0]
        exact Ev.neg hz (Ev.pos (by omega) (Ev.now _))
  obtain ⟨s, h⟩ := go 10 n ⟨#[]⟩ (by omega) (by omega) (by decide) (by decide)
  exact ⟨s, Ev.neg (by omega) h⟩
open Classical in
noncomputable def mt (n : Int) : ByteArray := if h : ∃ s, Ev (fun k => laws_markText.f k n) s then Classical.choose h else ⟨#[]⟩
theorem mt_ok {n : Int} (h0 : 0 < n) (h1 : n ≤ 1000000000) : Ev (fun k => laws_markText.f k n) (mt n) := by
  unfold mt
  rw [dif_pos (markText_any h0 h1)]
  exact Classical.choose_spec (markText_any h0 h1)
def mI (a : Int) (n : Nat) : List Int := (List.range n).map fun i : Nat => a + i
noncomputable def me (a : Int) (i : Nat) : S56 := ⟨mt (a + 4 * i), a + 4 * i + 1, a + 4 * i + 2, Int.tmod (a + 4 * i + 3) 3 == 0⟩
noncomputable def mE (a : Int) (n : Nat) : List S56 := (List.range n).map (me a)
theorem mI_len (a : Int) (n : Nat) : (mI a n).length = n := by simp [mI]
theorem mE_len (a : Int) (n : Nat) : (mE a n).length = n := by simp [mE]
theorem mI_at (a : Int) {n i : Nat} (h : i < (mI a n).length) : (mI a n)[i] = a + i := by simp [mI]
theorem mE_at (a : Int) {n i : Nat} (h : i < (mE a n).length) : (mE a n)[i] = me a i := by simp [mE]
theorem markInt_ok {I : List Int} {a : Int} (ha : 0 < a) (ha' : a + I.length ≤ 1000000000) : Ev (fun k => laws_markIntS.f k I a) (a + I.length, mI a I.length) := by
  have go : ∀ d i : Nat, ∀ l : List Int, i + d = I.length → l.length = I.length → l.take i = (mI a I.length).take i → Ev (fun k => laws_markIntS.l0 k l (a + i) i) (a + I.length, mI a I.length) := by
    intro d
    induction d with
    | zero =>
      intro i l hi hl ht
      refine Ev.succ ?_
      simp only [laws_markIntS.l0]
      refine Ev.neg (by omega) (Ev.ret ?_)
      rw [List.take_of_length_le (by omega), List.take_of_length_le (by rw [mI_len]; omega)] at ht
      rw [ht, show i = I.length by omega]
    | succ d ih =>
      intro i l hi hl ht
      have hil : i < (mI a I.length).length := by rw [mI_len]; omega
      have hn := set_next (by rw [mI_len]; exact hl) hil ht
      rw [mI_at] at hn
      refine Ev.succ ?_
      simp only [laws_markIntS.l0]
      rw [nat_next (by omega), Int.toNat_natCast, w64 (by omega) (by omega), show a + (i : Int) + 1 = a + ((i + 1 : Nat) : Int) by omega]
      exact Ev.pos (by omega) (Ev.pos (by omega) (ih (i + 1) _ (by omega) (by rw [List.length_set]; exact hl) hn))
  have := go I.length 0 I (by omega) rfl (by simp)
  simpa [laws_markIntS.f] using this
theorem heldInt_ok {n : Nat} {a : Int} (ha : 0 < a) (ha' : a + n ≤ 1000000000) : Ev (fun k => laws_heldIntS.f k (mI a n) a) (a + n) := by
  have go : ∀ d i : Nat, i + d = n → Ev (fun k => laws_heldIntS.l0 k (mI a n) (a + i) i) (a + n) := by
    intro d
    induction d with
    | zero =>
      intro i hi
      refine Ev.succ ?_
      simp only [laws_heldIntS.l0]
      exact Ev.neg (by rw [mI_len]; omega) (Ev.ret (by rw [show i = n by omega]))
    | succ d ih =>
      intro i hi
      have hil : i < (mI a n).length := by rw [mI_len]; omega
      refine Ev.succ ?_
      simp only [laws_heldIntS.l0]
      rw [nat_next (by omega), w64 (by omega) (by omega), show a + (i : Int) + 1 = a + ((i + 1 : Nat) : Int) by omega]
      exact Ev.pos (by omega) (Ev.pos (by omega) (Ev.pos (by rw [rd_at hil, mI_at]) (ih (i + 1) (by omega))))
  have := go n 0 (by omega)
  simpa [laws_heldIntS.f] using this
theorem markEnt_ok {E : List S56} {a : Int} (ha : 0 < a) (ha' : a + 4 * E.length ≤ 1000000000) : Ev (fun k => laws_markEntryS.f k E a) (a + 4 * E.length, mE a E.length) := by
  have go : ∀ d i : Nat, ∀ l : List S56, i + d = E.length → l.length = E.length → l.take i = (mE a E.length).take i → Ev (fun k => laws_markEntryS.l0 k l (a + 4 * i) i) (a + 4 * E.length, mE a E.length) := by
    intro d
    induction d with
    | zero =>
      intro i l hi hl ht
      refine Ev.succ ?_
      simp only [laws_markEntryS.l0]
      refine Ev.neg (by omega) (Ev.ret ?_)
      rw [List.take_of_length_le (by omega), List.take_of_length_le (by rw [mE_len]; omega)] at ht
      rw [ht, show i = E.length by omega]
    | succ d ih =>
      intro i l hi hl ht
      have hil : i < (mE a E.length).length := by rw [mE_len]; omega
      have hll : i < l.length := by omega
      have hn := set_next (by rw [mE_len]; exact hl) hil ht
      rw [mE_at] at hn
      have w1 : wrap64 (a + 4 * (i : Int) + 1) = a + 4 * i + 1 := w64 (by omega) (by omega)
      have w2 : wrap64 (a + 4 * (i : Int) + 1 + 1) = a + 4 * i + 2 := by rw [w64 (by omega) (by omega)]; omega
      have w3 : wrap64 (a + 4 * (i : Int) + 2 + 1) = a + 4 * i + 3 := by rw [w64 (by omega) (by omega)]; omega
      have w4 : wrap64 (a + 4 * (i : Int) + 3 + 1) = a + 4 * ((i + 1 : Nat) : Int) := by rw [w64 (by omega) (by omega)]; omega
      refine Ev.succ ?_
      simp only [laws_markEntryS.l0]
      rw [nat_next (by omega), Int.toNat_natCast, w1, w2, w3, w4]
      refine Ev.pos (by omega) (Ev.bind (mt_ok (by omega) (by omega)) (Ev.pos (by omega) (Ev.bindNow rfl (Ev.bindNow rfl (Ev.bindNow rfl ?_)))))
      have st : ∀ (m : List S56) (e : S56), i < m.length → rd_T56 (m.set i e) (i : Int) = e := by
        intro m e hm
        rw [ent_set hm e _ (by omega), if_pos rfl]
      simp only [st, hll, List.set_set]
      exact ih (i + 1) _ (by omega) (by rw [List.length_set]; exact hl) hn
  have := go E.length 0 E (by omega) rfl (by simp)
  simpa [laws_markEntryS.f] using this
theorem heldEnt_ok {n : Nat} {a : Int} (ha : 0 < a) (ha' : a + 4 * n ≤ 1000000000) : Ev (fun k => laws_heldEntryS.f k (mE a n) a) (a + 4 * n) := by
  have go : ∀ d i : Nat, i + d = n → Ev (fun k => laws_heldEntryS.l0 k (mE a n) (a + 4 * i) i) (a + 4 * n) := by
    intro d
    induction d with
    | zero =>
      intro i hi
      refine Ev.succ ?_
      simp only [laws_heldEntryS.l0]
      exact Ev.neg (by rw [mE_len]; omega) (Ev.ret (by rw [show i = n by omega]))
    | succ d ih =>
      intro i hi
      have hil : i < (mE a n).length := by rw [mE_len]; omega
      have w1 : wrap64 (a + 4 * (i : Int) + 1) = a + 4 * i + 1 := w64 (by omega) (by omega)
      have w2 : wrap64 (a + 4 * (i : Int) + 1 + 1) = a + 4 * i + 2 := by rw [w64 (by omega) (by omega)]; omega
      have w3 : wrap64 (a + 4 * (i : Int) + 2 + 1) = a + 4 * i + 3 := by rw [w64 (by omega) (by omega)]; omega
      have w4 : wrap64 (a + 4 * (i : Int) + 3 + 1) = a + 4 * ((i + 1 : Nat) : Int) := by rw [w64 (by omega) (by omega)]; omega
      refine Ev.succ ?_
      simp only [laws_heldEntryS.l0]
      rw [nat_next (by omega), w1, w2, w3, w4, ent_at hil, mE_at]
      exact Ev.pos (by omega) (Ev.pos (by omega) (Ev.bind (mt_ok (by omega) (by omega)) (Ev.pos rfl (Ev.pos rfl (Ev.pos rfl (Ev.neg (by simp [me]) (ih (i + 1) (by omega))))))))
  have := go n 0 (by omega)
  simpa [laws_heldEntryS.f] using this
theorem heldDict_ok {n m : Nat} (hI : n ≤ 2000000) (hE : m ≤ 2000000) : Ev (fun k => laws_heldDict.f k (mI 1 n) (mE (1 + (n : Int)) m) 1) (1 + (n : Int) + 4 * m) :=
  Ev.bind (heldInt_ok (by decide) (by omega)) (Ev.neg (by omega) (Ev.bind (heldEnt_ok (by omega) (by omega)) (Ev.neg (by omega) (Ev.now _))))
end Go.Proofs.Ytihcollncjcpgaa.E
