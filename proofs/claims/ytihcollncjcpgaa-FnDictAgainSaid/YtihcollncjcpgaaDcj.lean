/- What is drawn for the laws of dictionaries, in plain Lean: a dictionary whose rows are short, and a key. No Go and no memory in it; no conditions but those that each law names. -/
import Derived.Test.YtihcollncjcpgaaDci
import Derived.Test.YtihcollncjcpgaaLib
namespace Go.Proofs.Ytihcollncjcpgaa.P
open Go.RowKit Go.Proofs.YtihcollncjcpgaaW.PrintWords Go.Proofs.YtihcollncjcpgaaW.PrintLast Go.Proofs.YtihcollncjcpgaaW.PrintMore
set_option linter.unusedVariables false

theorem SetRes.valid {I : List Int} {E : List S56} {key : ByteArray} {v : Int} {R : List Int × List S56 × Bool} (h : SetRes I E key v R) (hV : Valid I E) (hk : key.size ≤ 20) (hv : -1000000 ≤ v ∧ v ≤ 1000000) : Valid R.1 R.2.1 := by
  rcases h with ⟨hn, _⟩ | ⟨_, _, _, ⟨i, hi, h3, _, rfl⟩ | ⟨_, _, rfl⟩ | ⟨ha, hl, D, hD, _, hab, hf, hlv, rfl⟩⟩
  · exact absurd ⟨hV, hk, hv⟩ hn
  · exact hV.put hi h3 hv
  · exact hV
  · exact hD.add hk hv hab hf (by omega)
theorem DropRes.valid {I : List Int} {E : List S56} {key : ByteArray} {R : List Int × List S56 × Bool} (h : DropRes I E key R) (hV : Valid I E) (hk : key.size ≤ 20) : Valid R.1 R.2.1 := by
  rcases h with ⟨hn, _⟩ | ⟨_, _, ⟨_, rfl⟩ | ⟨i, hi, h3, hke, rfl⟩⟩
  · exact absurd ⟨hV, hk⟩ hn
  · exact hV
  · exact hV.drop hi h3 hke
theorem of_ok {s : List Int} (hc : CodeOk s) {t : Int} (l : List ByteArray) (hl : 2 ≤ l.length) (ht : 0 ≤ t ∧ t ≤ 1000000000) :
    ∃ v t', spec_rnd_of.f s t l = some (v, t') ∧ v ∈ l ∧ t ≤ t' ∧ t' ≤ t + 1 := by
  obtain ⟨v, t', h, h0, h1, h2, h3⟩ := pick_ok hc (l.length : Int) ht
  unfold spec_rnd_of.f
  rw [h]
  simp only [Option.bind_some]
  have hv : v < l.length := by omega
  rw [if_pos h0, if_pos hv]
  refine ⟨_, _, rfl, ?_, h2, h3⟩
  unfold rdOf
  rw [List.getD_eq_getElem?_getD, List.getElem?_eq_getElem (by omega)]
  exact List.getElem_mem _
theorem one_size (v : Int) : (strOfNums [v]).size = 1 := rfl
theorem app_size (a b : ByteArray) : (a ++ b).size = a.size + b.size := ByteArray.size_append
/-- The decimal text of a number below 100. -/
theorem decimal_ok {v : Int} (h0 : 0 ≤ v) (h1 : v < 100) : ∃ s : ByteArray, Ev (fun k => spec_decimal.f k v) s ∧ s.size ≤ 2 := by
  have step : ∀ (x : Int) (u : ByteArray), 0 ≤ x → x < 100 → u.size ≤ 10 → (∀ y : ByteArray, y.size = u.size + 1 → (Int.tdiv x 10 = 0 → ∃ s, Ev (fun _ => some y) s ∧ s.size ≤ 2) ∧ (Int.tdiv x 10 ≠ 0 → ∃ s, Ev (fun k => spec_positive.l0 k (Int.tdiv x 10) y) s ∧ s.size ≤ 2)) → ∃ s, Ev (fun k => spec_positive.l0 k x u) s ∧ s.size ≤ 2 := by
    intro x u hx hx' hu H
    have m := tmod_range hx (show (0 : Int) < 10 by decide)
    have d := tdiv_range hx (show (0 : Int) < 10 by decide)
    have ew : wrap64 (Int.tdiv x 10) = Int.tdiv x 10 := w64 (by omega) (by omega)
    have key : ∀ c : Int, ∃ s, Ev (fun k => if (strOfNums [c]).size + u.size ≤ 9223372036854775807 then (if Int.tdiv x 10 = 0 then (some (strOfNums [c] ++ u)) else (spec_positive.l0 k (Int.tdiv x 10) (strOfNums [c] ++ u))) else none) s ∧ s.size ≤ 2 := by
      intro c
      have hs := one_size c
      have hy := app_size (strOfNums [c]) u
      by_cases hz : Int.tdiv x 10 = 0
      · obtain ⟨s, h, hs'⟩ := (H (strOfNums [c] ++ u) (by omega)).1 hz
        exact ⟨s, Ev.pos (by omega) (Ev.pos hz h), hs'⟩
      · obtain ⟨s, h, hs'⟩ := (H (strOfNums [c] ++ u) (by omega)).2 hz
        exact ⟨s, Ev.pos (by omega) (Ev.neg hz h), hs'⟩
    obtain ⟨s, h, hs⟩ := key ((wrap64 (48 + Int.tmod x 10)) % 256)
    refine ⟨s, Ev.succ ?_, hs⟩
    simp only [spec_positive.l0]
    rw [ew]
    exact Ev.neg (by omega) (Ev.bindNow rfl h)
  have last : ∀ (x : Int) (u : ByteArray), 0 ≤ x → x < 10 → u.size ≤ 1 → ∃ s, Ev (fun k => spec_positive.l0 k x u) s ∧ s.size ≤ 2 := by
    intro x u hx hx' hu
    have e : Int.tdiv x 10 = 0 := by rw [Int.tdiv_eq_ediv_of_nonneg hx]; omega
    exact step x u hx (by omega) (by omega) fun y hy => ⟨fun _ => ⟨y, Ev.now _, by omega⟩, fun h => absurd e h⟩
  obtain ⟨s, h, hs⟩ := step v ⟨#[]⟩ h0 h1 (by decide) fun y hy => ⟨fun _ => ⟨y, Ev.now _, by rw [hy]; decide⟩, fun _ => last _ y (tdiv_range h0 (by decide)).1 (by rw [Int.tdiv_eq_ediv_of_nonneg h0]; omega) (by rw [hy]; decide)⟩
  exact ⟨s, Ev.neg (by omega) (Ev.bind h (Ev.now _)), hs⟩
theorem key_ok {s : List Int} (hc : CodeOk s) {t : Int} (ht : 0 ≤ t ∧ t ≤ 1000000) : ∃ key t', Ev (fun k => spec_rnd_key.f k s t) (key, t') ∧ t ≤ t' ∧ t' ≤ t + 3 := by
  obtain ⟨v1, t1, e1, a1, b1, c1, d1⟩ := pick_ok hc 30 (t := t) (by omega)
  obtain ⟨s1, h1, z1⟩ := decimal_ok (v := v1) a1 (by omega)
  obtain ⟨v2, t2, e2, a2, b2, c2, d2⟩ := pick_ok hc 30 (t := t1) (by omega)
  obtain ⟨s2, h2, z2⟩ := decimal_ok (v := v2) a2 (by omega)
  obtain ⟨v, t3, e3, _, c3, d3⟩ := of_ok hc (t := t2) ([(⟨#[97]⟩ : ByteArray), (⟨#[98]⟩ : ByteArray), (⟨#[99]⟩ : ByteArray), (⟨#[97, 97]⟩ : ByteArray), (⟨#[97, 98]⟩ : ByteArray), (⟨#[107, 101, 121]⟩ : ByteArray), (⟨#[]⟩ : ByteArray), (⟨#[122]⟩ : ByteArray), (⟨#[113, 49]⟩ : ByteArray), (⟨#[113, 50]⟩ : ByteArray) ++ s1, (⟨#[97]⟩ : ByteArray) ++ s2, (⟨#[97, 97, 97, 97, 97, 97, 97, 97, 97, 97, 97, 97, 97, 97, 97, 97, 97, 97, 97, 97, 97]⟩ : ByteArray)] : List ByteArray) (by simp) (by omega)
  exact ⟨v, t3, Ev.bindNow e1 (Ev.bind h1 (Ev.pos (by omega) (Ev.bindNow e2 (Ev.bind h2 (Ev.pos (by omega) (Ev.bindNow e3 (Ev.now _))))))), by omega, by omega⟩
/-- What is drawn: few slots, few entries. -/
def Few (I : List Int) (E : List S56) : Prop := I.length ≤ 128 ∧ E.length ≤ 85
theorem dict_j3 {s : List Int} (hc : CodeOk s) {t : Int} (ht : 0 ≤ t ∧ t ≤ 1000000) {I : List Int} {E : List S56} (hF : Few I E) (hI : 0 < I.length) :
    ∃ J F t', Ev (fun k => spec_rnd_dict.j3 k s t I E) (J, F, t') ∧ Few J F ∧ t ≤ t' ∧ t' ≤ t + 3 := by
  obtain ⟨v1, t1, e1, a1, b1, c1, d1⟩ := pick_ok hc 12 (t := t) (by omega)
  by_cases hv : v1 = 0
  · obtain ⟨v2, t2, e2, a2, b2, c2, d2⟩ := pick_ok hc (I.length : Int) (t := t1) (by omega)
    obtain ⟨v3, t3, e3, _, c3, d3⟩ := one_ok hc [(-1), (-2), 0, 1, 99, (-3)] (by decide) (t := t2) (by omega)
    refine ⟨I.set v2.toNat v3, E, t3, Ev.succ ?_, ⟨by rw [List.length_set]; exact hF.1, hF.2⟩, by omega, by omega⟩
    simp only [spec_rnd_dict.j3]
    exact Ev.bindNow e1 (Ev.pos hv (Ev.bindNow e2 (Ev.bindNow e3 (Ev.pos a2 (Ev.pos (by show v2 < _; omega) (Ev.now _))))))
  · refine ⟨I, E, t1, Ev.succ ?_, hF, by omega, by omega⟩
    simp only [spec_rnd_dict.j3]
    exact Ev.bindNow e1 (Ev.neg hv (Ev.now _))
theorem dict_j2 {s : List Int} (hc : CodeOk s) {t : Int} (ht : 0 ≤ t ∧ t ≤ 900000) {I : List Int} {E : List S56} (hF : Few I E) (hI : 0 < I.length) (b : Bool) (hb : b = true → 0 < E.length) :
    ∃ J F t', Ev (fun k => spec_rnd_dict.j2 k b s t I E) (J, F, t') ∧ Few J F ∧ t ≤ t' ∧ t' ≤ t + 5 := by
  cases b with
  | true =>
    obtain ⟨v1, t1, e1, a1, b1, c1, d1⟩ := pick_ok hc (E.length : Int) (t := t) (by omega)
    obtain ⟨v2, t2, e2, c2, d2⟩ := odd_ok hc (t := t1) (by omega)
    have hl := hb rfl
    obtain ⟨J, F, t3, h, hF', c3, d3⟩ := dict_j3 hc (t := t2) (by omega) (I := I) (E := E.set v1.toNat ⟨(rd_T56 E v1).f0, v2, (rd_T56 E v1).f2, (rd_T56 E v1).f3⟩) ⟨hF.1, by rw [List.length_set]; exact hF.2⟩ hI
    refine ⟨J, F, t3, Ev.succ ?_, hF', by omega, by omega⟩
    simp only [spec_rnd_dict.j2]
    exact Ev.pos trivial (Ev.bindNow e1 (Ev.bindNow e2 (Ev.pos a1 (Ev.pos (by show v1 < _; omega) h))))
  | false =>
    obtain ⟨J, F, t3, h, hF', c3, d3⟩ := dict_j3 hc (t := t) (by omega) hF hI
    refine ⟨J, F, t3, Ev.succ ?_, hF', by omega, by omega⟩
    simp only [spec_rnd_dict.j2]
    exact Ev.neg (by decide) h
theorem dict_l0 {s : List Int} (hc : CodeOk s) (ks : List ByteArray) (hk2 : 2 ≤ ks.length) (hks : ∀ x ∈ ks, x.size ≤ 3) (d : Nat) : ∀ (t : Int) (I : List Int) (E : List S56), 0 ≤ t → t + 10 * d ≤ 800000 → Valid I E →
    ∃ J F t', Ev (fun k => spec_rnd_dict.l0 k ks d s t I E) (J, F, t') ∧ Few J F ∧ t ≤ t' ∧ t' ≤ t + 10 * d + 10 := by
  induction d with
  | zero =>
    intro t I E ht ht' hV
    have hb := hV.bounds
    obtain ⟨v1, t1, e1, a1, b1, c1, d1⟩ := pick_ok hc 12 (t := t) (by omega)
    by_cases hv : v1 = 0
    · obtain ⟨J, F, t3, h, hF', c3, d3⟩ := dict_j2 hc (t := t1) (by omega) (I := I) (E := E) ⟨hb.2.1, hb.2.2⟩ hb.1 (decide ((E.length : Int) > 0)) (fun h => by have := of_decide_eq_true h; omega)
      refine ⟨J, F, t3, Ev.succ ?_, hF', by omega, by omega⟩
      simp only [spec_rnd_dict.l0]
      exact Ev.neg (by omega) (Ev.bindNow e1 (Ev.pos hv h))
    · obtain ⟨J, F, t3, h, hF', c3, d3⟩ := dict_j2 hc (t := t1) (by omega) (I := I) (E := E) ⟨hb.2.1, hb.2.2⟩ hb.1 false (fun h => by cases h)
      refine ⟨J, F, t3, Ev.succ ?_, hF', by omega, by omega⟩
      simp only [spec_rnd_dict.l0]
      exact Ev.neg (by omega) (Ev.bindNow e1 (Ev.neg hv h))
  | succ d ih =>
    intro t I E ht ht' hV
    have hb := hV.bounds
    have ew : wrap64 (((d + 1 : Nat) : Int) - 1) = d := by rw [w64 (by omega) (by omega)]; omega
    have next : ∀ (key : ByteArray) (t1 : Int), key.size ≤ 5 → t ≤ t1 → t1 ≤ t + 4 → ∃ J F t', Ev (fun k => spec_rnd_dict.j1 k ks ((d + 1 : Nat) : Int) key s t1 I E) (J, F, t') ∧ Few J F ∧ t ≤ t' ∧ t' ≤ t + 10 * (d + 1 : Nat) + 10 := by
      intro key t1 hks h1 h2
      obtain ⟨v3, t3, e3, a3, b3, c3, d3⟩ := pick_ok hc 4 (t := t1) (by omega)
      by_cases hv : v3 = 0
      · obtain ⟨R, _, hR, hRes⟩ := drop_ok (I := I) (E := E) (by omega) (by omega) key
        obtain ⟨J, F, t4, h, hF', c4, d4⟩ := ih t3 R.1 R.2.1 (by omega) (by omega) (hRes.valid hV (by omega))
        refine ⟨J, F, t4, Ev.succ ?_, hF', by omega, by omega⟩
        simp only [spec_rnd_dict.j1]
        rw [ew]
        exact Ev.bindNow e3 (Ev.pos hv (Ev.bind hR h))
      · obtain ⟨v4, t4, e4, a4, b4, c4, d4⟩ := pick_ok hc 100 (t := t3) (by omega)
        have e5 : wrap64 (v4 - 50) = v4 - 50 := w64 (by omega) (by omega)
        obtain ⟨R, _, hR, hRes⟩ := set_ok (I := I) (E := E) (by omega) (by omega) key (v4 - 50)
        obtain ⟨J, F, t5, h, hF', c5, d5⟩ := ih t4 R.1 R.2.1 (by omega) (by omega) (hRes.valid hV (by omega) (by omega))
        refine ⟨J, F, t5, Ev.succ ?_, hF', by omega, by omega⟩
        simp only [spec_rnd_dict.j1]
        rw [ew]
        refine Ev.bindNow e3 (Ev.neg hv (Ev.bindNow e4 ?_))
        simp only [e5]
        exact Ev.bind hR h
    obtain ⟨key, t1, e1, m1, c1, d1⟩ := of_ok hc ks hk2 (t := t) (by omega)
    have hz := hks key m1
    obtain ⟨v2, t2, e2, a2, b2, c2, d2⟩ := pick_ok hc 3 (t := t1) (by omega)
    by_cases hv : v2 = 0
    · obtain ⟨v3, t3, e3, a3, b3, c3, d3⟩ := pick_ok hc 30 (t := t2) (by omega)
      obtain ⟨s1, h1, z1⟩ := decimal_ok (v := v3) a3 (by omega)
      have hy := app_size key s1
      obtain ⟨J, F, t4, h, hF', c4, d4⟩ := next (key ++ s1) t3 (by omega) (by omega) (by omega)
      refine ⟨J, F, t4, Ev.succ ?_, hF', c4, d4⟩
      simp only [spec_rnd_dict.l0]
      exact Ev.pos (by omega) (Ev.bindNow e1 (Ev.bindNow e2 (Ev.pos hv (Ev.bindNow e3 (Ev.bind h1 (Ev.pos (by show key.size + s1.size ≤ _; omega) h))))))
    · obtain ⟨J, F, t4, h, hF', c4, d4⟩ := next key t2 (by omega) (by omega) (by omega)
      refine ⟨J, F, t4, Ev.succ ?_, hF', c4, d4⟩
      simp only [spec_rnd_dict.l0]
      exact Ev.pos (by omega) (Ev.bindNow e1 (Ev.bindNow e2 (Ev.neg hv h)))
theorem dict_ok {s : List Int} (hc : CodeOk s) {t : Int} (ht : 0 ≤ t ∧ t ≤ 1000) : ∃ J F t', Ev (fun k => spec_rnd_dict.f k s t) (J, F, t') ∧ Few J F ∧ t ≤ t' ∧ t' ≤ t + 1000 := by
  obtain ⟨v, t1, e1, m1, c1, d1⟩ := one_ok hc [0, 3, 8, 20, 45] (by decide) (t := t) (by omega)
  have hv : ∃ n : Nat, v = n ∧ n ≤ 45 := by
    simp only [List.mem_cons, List.mem_nil_iff, or_false] at m1
    exact ⟨v.toNat, by omega, by omega⟩
  obtain ⟨n, rfl, hn⟩ := hv
  obtain ⟨J, F, t2, h, hF, c2, d2⟩ := dict_l0 hc [(⟨#[97]⟩ : ByteArray), (⟨#[98]⟩ : ByteArray), (⟨#[99]⟩ : ByteArray), (⟨#[97, 97]⟩ : ByteArray), (⟨#[97, 98]⟩ : ByteArray), (⟨#[107, 101, 121]⟩ : ByteArray), (⟨#[]⟩ : ByteArray), (⟨#[122]⟩ : ByteArray), (⟨#[113, 49]⟩ : ByteArray), (⟨#[113, 50]⟩ : ByteArray), (⟨#[113, 51]⟩ : ByteArray), (⟨#[113, 52]⟩ : ByteArray)] (by decide)
    (by intro x hx; simp only [List.mem_cons, List.mem_nil_iff, or_false] at hx; rcases hx with rfl | rfl | rfl | rfl | rfl | rfl | rfl | rfl | rfl | rfl | rfl | rfl <;> decide) n t1 (List.replicate 8 (-1)) [] (by omega) (by omega) (Valid.nil (.inl rfl))
  exact ⟨J, F, t2, Ev.bind (Ev.bind (newIndex_ok 8 (by decide)) (Ev.now _)) (Ev.bindNow e1 h), hF, by omega, by omega⟩
theorem drawDrop_ok {l : List Int} (h : ∀ x ∈ l, (Lit.int .u8 x).wf = true) : ∃ I E key, Ev (fun k => spec_DrawDictDrop.f k l) (I, E, key) ∧ Few I E := by
  obtain ⟨s, e0, hc⟩ := newRnd_ok h
  obtain ⟨I, E, t1, e1, hF, c1, d1⟩ := dict_ok hc (t := 0) (by omega)
  obtain ⟨key, t2, e2, _, _⟩ := key_ok hc (t := t1) (by omega)
  exact ⟨I, E, key, Ev.bindNow e0 (Ev.bind e1 (Ev.bind e2 (Ev.now _))), hF⟩
theorem drawSet_ok {l : List Int} (h : ∀ x ∈ l, (Lit.int .u8 x).wf = true) : ∃ I E key v, Ev (fun k => spec_DrawDictSet.f k l) (I, E, key, v) ∧ Few I E := by
  obtain ⟨s, e0, hc⟩ := newRnd_ok h
  obtain ⟨I, E, t1, e1, hF, c1, d1⟩ := dict_ok hc (t := 0) (by omega)
  obtain ⟨key, t2, e2, c2, d2⟩ := key_ok hc (t := t1) (by omega)
  obtain ⟨v3, t3, e3, _, _, c3, d3⟩ := pick_ok hc 99 (t := t2) (by omega)
  obtain ⟨v4, t4, e4, c4, d4⟩ := often_ok hc v3 (t := t3) (by omega)
  exact ⟨I, E, key, v4, Ev.bindNow e0 (Ev.bind e1 (Ev.bind e2 (Ev.bindNow e3 (Ev.bindNow e4 (Ev.now _))))), hF⟩
end Go.Proofs.Ytihcollncjcpgaa.P
