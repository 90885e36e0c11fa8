/- Plain laws that the proofs of this seat share: rounds ('Ev'), the numbers that a draw yields, wrap-around that does not happen. No Go and no memory in it; no conditions but those that each law names. -/
import Derived.Test.YtihcollncjcpgaaEvs
import Derived.Test.YtihcollncjcpgaaPx15
namespace Go.Proofs.Ytihcollncjcpgaa.P
open Go.RowKit Go.Proofs.YtihcollncjcpgaaW.PrintWords Go.Proofs.YtihcollncjcpgaaW.PrintLast Go.Proofs.YtihcollncjcpgaaW.PrintMore
set_option linter.unusedVariables false

theorem xor_nonneg {a b : Int} (ha : 0 ≤ a) (ha' : a < 9223372036854775808) (hb : 0 ≤ b) (hb' : b < 9223372036854775808) : 0 ≤ Go.bits .xor .i64 a b := by
  obtain ⟨a, rfl⟩ := Int.eq_ofNat_of_zero_le ha
  obtain ⟨b, rfl⟩ := Int.eq_ofNat_of_zero_le hb
  have h1 : a < 2 ^ 63 := by omega
  have h2 : b < 2 ^ 63 := by omega
  have h3 : (a ^^^ b) < 2 ^ 63 := Nat.xor_lt_two_pow h1 h2
  have e : (BitVec.ofInt 64 (a : Int) ^^^ BitVec.ofInt 64 (b : Int)).toNat = a ^^^ b := by
    rw [BitVec.toNat_xor, BitVec.ofInt_natCast, BitVec.ofInt_natCast, BitVec.toNat_ofNat, BitVec.toNat_ofNat, Nat.mod_eq_of_lt (by omega), Nat.mod_eq_of_lt (by omega)]
  show 0 ≤ IntKind.i64.wrap (((BitVec.ofInt 64 (a : Int) ^^^ BitVec.ofInt 64 (b : Int)).toNat : Nat) : Int)
  rw [e, IntKind.wrap_i64]
  omega
/-- What the drawn code is: bytes, at most 4000 of them. -/
def CodeOk (s : List Int) : Prop := s.length ≤ 4000 ∧ ∀ x ∈ s, 0 ≤ x ∧ x ≤ 255
theorem rd_range {s : List Int} (h : CodeOk s) (i : Int) : 0 ≤ rd s i ∧ rd s i ≤ 255 := by
  unfold rd
  rw [List.getD_eq_getElem?_getD]
  by_cases hi : i.toNat < s.length
  · rw [List.getElem?_eq_getElem hi]
    exact h.2 _ (List.getElem_mem hi)
  · rw [List.getElem?_eq_none (by omega)]
    exact ⟨by decide, by decide⟩
theorem tmod_range {a n : Int} (ha : 0 ≤ a) (hn : 0 < n) : 0 ≤ Int.tmod a n ∧ Int.tmod a n < n := by
  rw [Int.tmod_eq_emod_of_nonneg ha]
  exact ⟨Int.emod_nonneg _ (by omega), Int.emod_lt_of_pos _ hn⟩
theorem tdiv_range {a n : Int} (ha : 0 ≤ a) (hn : 0 < n) : 0 ≤ Int.tdiv a n ∧ Int.tdiv a n ≤ a := by
  rw [Int.tdiv_eq_ediv_of_nonneg ha]
  exact ⟨Int.ediv_nonneg ha (by omega), Int.ediv_le_self _ ha⟩
/-- A draw's mixed number is no negative one. -/
theorem mixed_nonneg {x y t q : Int} (hx : 0 ≤ x ∧ x ≤ 255) (hy : 0 ≤ y ∧ y ≤ 255) (ht : 0 ≤ t ∧ t ≤ 1000000000) (hq : 0 ≤ q ∧ q ≤ t) :
    0 ≤ wrap64 ((wrap64 ((wrap64 ((wrap64 ((wrap64 x) * 131)) + (wrap64 ((wrap64 y) * 1117)))) + (wrap64 (t * 29)))) + (wrap64 ((wrap64 q) * 53))) ∧
      wrap64 ((wrap64 ((wrap64 ((wrap64 ((wrap64 x) * 131)) + (wrap64 ((wrap64 y) * 1117)))) + (wrap64 (t * 29)))) + (wrap64 ((wrap64 q) * 53))) < 9223372036854775808 := by
  have e1 : wrap64 x = x := w64 (by omega) (by omega)
  have e2 : wrap64 y = y := w64 (by omega) (by omega)
  have e3 : wrap64 q = q := w64 (by omega) (by omega)
  rw [e1, e2, e3]
  have e4 : wrap64 (x * 131) = x * 131 := w64 (by omega) (by omega)
  have e5 : wrap64 (y * 1117) = y * 1117 := w64 (by omega) (by omega)
  have e6 : wrap64 (t * 29) = t * 29 := w64 (by omega) (by omega)
  have e7 : wrap64 (q * 53) = q * 53 := w64 (by omega) (by omega)
  rw [e4, e5, e6, e7]
  have e8 : wrap64 (x * 131 + y * 1117) = x * 131 + y * 1117 := w64 (by omega) (by omega)
  rw [e8]
  have e9 : wrap64 (x * 131 + y * 1117 + t * 29) = x * 131 + y * 1117 + t * 29 := w64 (by omega) (by omega)
  rw [e9]
  have e10 : wrap64 (x * 131 + y * 1117 + t * 29 + q * 53) = x * 131 + y * 1117 + t * 29 + q * 53 := w64 (by omega) (by omega)
  rw [e10]
  omega
theorem mixed_tmod {v n : Int} (hv : 0 ≤ v ∧ v < 9223372036854775808) (hn : 2 ≤ n) : 0 ≤ Int.tmod (Go.bits .xor .i64 v (wrap64 (Int.tdiv v 64))) n ∧ Int.tmod (Go.bits .xor .i64 v (wrap64 (Int.tdiv v 64))) n < n := by
  have h := tdiv_range hv.1 (show (0 : Int) < 64 by decide)
  have e : wrap64 (Int.tdiv v 64) = Int.tdiv v 64 := w64 (by omega) (by omega)
  rw [e]
  exact tmod_range (xor_nonneg hv.1 hv.2 h.1 (by omega)) (by omega)
/-- A draw's number: below n, and the place moves on by one at most. -/
theorem pick_ok {s : List Int} (hc : CodeOk s) {t : Int} (n : Int) (ht : 0 ≤ t ∧ t ≤ 1000000000) :
    ∃ v t', spec_rnd_pick.f s t n = some (v, t') ∧ 0 ≤ v ∧ (v < n ∨ n < 2 ∧ v = 0) ∧ t ≤ t' ∧ t' ≤ t + 1 := by
  have hl := hc.1
  unfold spec_rnd_pick.f
  by_cases h1 : n < 2
  · rw [if_pos h1]
    exact ⟨0, t, rfl, by omega, .inr ⟨h1, rfl⟩, by omega, by omega⟩
  rw [if_neg h1]
  have ew : wrap64 (t + 1) = t + 1 := w64 (by omega) (by omega)
  rw [ew]
  by_cases h2 : (s.length : Int) > 0
  · rw [if_pos h2, if_neg (by omega)]
    have m1 := tmod_range ht.1 (show (0 : Int) < s.length by omega)
    have e7 : wrap64 (t * 7) = t * 7 := w64 (by omega) (by omega)
    have e8 : wrap64 (t * 7 + 3) = t * 7 + 3 := w64 (by omega) (by omega)
    rw [if_pos m1.1, if_pos m1.2, e7, e8]
    have m2 := tmod_range (show (0 : Int) ≤ t * 7 + 3 by omega) (show (0 : Int) < s.length by omega)
    have hv := mixed_nonneg (rd_range hc (Int.tmod t s.length)) (rd_range hc (Int.tmod (t * 7 + 3) s.length)) ht (tdiv_range ht.1 (show (0 : Int) < s.length by omega))
    have hm := mixed_tmod hv (show 2 ≤ n by omega)
    rw [if_pos m2.1, if_pos m2.2]
    have h0 : ¬ n = 0 := by omega
    rw [if_neg h0]
    by_cases h3 : n > 256
    · rw [if_pos h3]
      exact ⟨_, _, rfl, hm.1, .inl hm.2, by omega, by omega⟩
    rw [if_neg h3]
    by_cases h4 : t ≥ (s.length : Int)
    · rw [if_pos h4]
      exact ⟨_, _, rfl, hm.1, .inl hm.2, by omega, by omega⟩
    rw [if_neg h4, if_neg h0]
    have r1 := rd_range hc (Int.tmod t s.length)
    have e9 : wrap64 (rd s (Int.tmod t s.length)) = rd s (Int.tmod t s.length) := w64 (by omega) (by omega)
    rw [e9]
    have m3 := tmod_range r1.1 (show 0 < n by omega)
    exact ⟨_, _, rfl, m3.1, .inl m3.2, by omega, by omega⟩
  · rw [if_neg h2, if_neg (by omega)]
    have m3 := Int.emod_nonneg (0 : Int) (show n ≠ 0 by omega)
    have m4 := Int.emod_lt_of_pos (0 : Int) (show 0 < n by omega)
    exact ⟨_, _, rfl, m3, .inl m4, by omega, by omega⟩
theorem one_ok {s : List Int} (hc : CodeOk s) {t : Int} (l : List Int) (hl : 2 ≤ l.length) (ht : 0 ≤ t ∧ t ≤ 1000000000) :
    ∃ v t', spec_rnd_one.f s t l = some (v, t') ∧ v ∈ l ∧ t ≤ t' ∧ t' ≤ t + 1 := by
  obtain ⟨v, t', h, h0, h1, h2, h3⟩ := pick_ok hc (l.length : Int) ht
  unfold spec_rnd_one.f
  rw [h]
  simp only [Option.bind_some]
  have hv : v < l.length := by omega
  rw [if_pos h0, if_pos hv]
  refine ⟨_, _, rfl, ?_, h2, h3⟩
  unfold rd
  rw [List.getD_eq_getElem?_getD, List.getElem?_eq_getElem (by omega)]
  exact List.getElem_mem _
theorem odd_ok {s : List Int} (hc : CodeOk s) {t : Int} (ht : 0 ≤ t ∧ t ≤ 1000000000) :
    ∃ v t', spec_rnd_odd.f s t = some (v, t') ∧ t ≤ t' ∧ t' ≤ t + 1 := by
  unfold spec_rnd_odd.f
  obtain ⟨v, t', h, _, h2, h3⟩ := one_ok hc [(-1), 4611686018427387904, (-4611686018427387904), 1001, 7, 1000001, (-9223372036854775808), 9223372036854775807] (by decide) ht
  rw [h]
  exact ⟨v, t', rfl, h2, h3⟩
theorem often_ok {s : List Int} (hc : CodeOk s) {t : Int} (n : Int) (ht : 0 ≤ t ∧ t ≤ 900000000) :
    ∃ v t', spec_rnd_often.f s t n = some (v, t') ∧ t ≤ t' ∧ t' ≤ t + 2 := by
  unfold spec_rnd_often.f
  obtain ⟨v, t', h, _, _, h2, h3⟩ := pick_ok hc 16 (t := t) (by omega)
  rw [h]
  simp only [Option.bind_some]
  by_cases hv : v = 0
  · rw [if_pos hv]
    obtain ⟨v2, t2, h', h4, h5⟩ := odd_ok hc (t := t') (by omega)
    rw [h']
    exact ⟨_, _, rfl, by simp only; omega, by simp only; omega⟩
  · rw [if_neg hv]
    exact ⟨_, _, rfl, h2, by omega⟩
theorem newRnd_ok {l : List Int} (h : ∀ x ∈ l, (Lit.int .u8 x).wf = true) : ∃ s, spec_newRnd.f l = some (s, 0) ∧ CodeOk s := by
  have h0 : mn (l.length : Int) 4000 = if (4000 : Int) < l.length then 4000 else (l.length : Int) := rfl
  unfold spec_newRnd.f
  have h1 : 0 ≤ mn (l.length : Int) 4000 := by rw [h0]; split <;> omega
  have h2 : mn (l.length : Int) 4000 ≤ l.length := by rw [h0]; split <;> omega
  have h3 : mn (l.length : Int) 4000 ≤ 4000 := by rw [h0]; split <;> omega
  rw [if_pos h1, if_pos h2]
  refine ⟨_, rfl, ?_, ?_⟩
  · rw [List.length_take]; omega
  · intro x hx
    have := h x (List.mem_of_mem_take hx)
    simp [Lit.wf, IntKind.min, IntKind.max, IntKind.signed, IntKind.bits] at this
    omega

end Go.Proofs.Ytihcollncjcpgaa.P
