/- FnScriptsOk's plain statement: for every code the law's plain function answers true: the drawn scripts are short, the program's ScriptsOk and the reference's are one function on them, and a loop of no steps is LoopNew. Condition: the code is a list of bytes (as the row has it). -/
import Derived.Test.YtaaonmlbkljgjaaPx7
import Derived.Test.YtaaonmlbkljgjaaLib
namespace Go.Proofs.Ytaaonmlbkljgjaa.Pure
open Go.RowKit Go.Proofs.Ytaaonmlbkljgjaa.P Go.Proofs.YtaaonmlbkljgjaaW.PrintWords Go.Proofs.YtaaonmlbkljgjaaW.PrintLast

/-- Short scripts. -/
def Short (r : List (List S41)) : Prop := r.length ≤ 100 ∧ ∀ x ∈ r, x.length ≤ 1000

theorem draw_l1 {s : List Int} (hc : CodeOk s) (P : List (List S41) × Int → Prop) (x3 : List (List S41)) (x4 x5 : Int) (h3 : x3.length ≤ 1000) (d : Nat) :
    ∀ (x6 : List S41) (x7 t : Int), x7 = d → x6.length + d ≤ 1000 → 0 ≤ t → t + 10 * d ≤ 100000 →
      (∀ (y : List S41) (t' : Int), y.length ≤ x6.length + d → t ≤ t' → t' ≤ t + 10 * d → ∃ R, Ev (fun k => spec_rnd_scripts.l0 k (x3 ++ [y]) x4 (wrap64 (x5 + 1)) s t') R ∧ P R) →
      ∃ R, Ev (fun k => spec_rnd_scripts.l1 k x3 x4 x5 x6 x7 s t) R ∧ P R := by
  induction d with
  | zero =>
    intro x6 x7 t h7 h6 ht hb H
    obtain ⟨R, hR, hP⟩ := H x6 t (by omega) (by omega) (by omega)
    refine ⟨R, Ev.succ ?_, hP⟩
    simp only [spec_rnd_scripts.l1]
    exact Ev.neg (by omega) (Ev.pos (by omega) hR)
  | succ d ih =>
    intro x6 x7 t h7 h6 ht hb H
    have hw : wrap64 (x7 - 1) = d := by rw [w64 (by omega) (by omega)]; omega
    have next : ∀ (a : S41) (t' : Int), t ≤ t' → t' ≤ t + 10 → ∃ R, Ev (fun k => spec_rnd_scripts.l1 k x3 x4 x5 (x6 ++ [a]) (wrap64 (x7 - 1)) s t') R ∧ P R := by
      intro a t' h1 h2
      refine ih (x6 ++ [a]) _ t' hw (by simp; omega) (by omega) (by omega) ?_
      intro y t2 hy h4 h5
      exact H y t2 (by simp at hy; omega) (by omega) (by omega)
    obtain ⟨v1, t1, e1, _, b1, b1'⟩ := one_ok hc [1, 1, 2, 3, 3, 4, 4, 5, 6, 7] (by decide) (t := t) (by omega)
    obtain ⟨v2, t2, e2, _, _, b2, b2'⟩ := pick_ok hc 9 (t := t1) (by omega)
    have hlen : x6.length < 8796093022208 := by omega
    have j2 : ∀ b : Bool, ∃ R, Ev (fun k => spec_rnd_scripts.j2 k x3 x4 x5 x6 x7 v1 v2 v1 b s t2) R ∧ P R := by
      intro b
      by_cases hb' : b = true
      · obtain ⟨v3, t3, e3, _, _, b3, b3'⟩ := pick_ok hc 2 (t := t2) (by omega)
        obtain ⟨v4, t4, e4, b4, b4'⟩ := often_ok hc v1 (t := t3) (by omega)
        obtain ⟨v5, t5, e5, b5, b5'⟩ := often_ok hc v3 (t := t4) (by omega)
        obtain ⟨R, hR, hP⟩ := next ⟨v4, v5⟩ t5 (by omega) (by omega)
        refine ⟨R, Ev.succ ?_, hP⟩
        simp only [spec_rnd_scripts.j2]
        exact Ev.pos hb' (Ev.bindNow e3 (Ev.bindNow e4 (Ev.bindNow e5 (Ev.pos hlen hR))))
      · by_cases h2 : v1 = 2
        · obtain ⟨v3, t3, e3, _, _, b3, b3'⟩ := pick_ok hc 6 (t := t2) (by omega)
          obtain ⟨v4, t4, e4, b4, b4'⟩ := often_ok hc v1 (t := t3) (by omega)
          obtain ⟨v5, t5, e5, b5, b5'⟩ := often_ok hc v3 (t := t4) (by omega)
          obtain ⟨R, hR, hP⟩ := next ⟨v4, v5⟩ t5 (by omega) (by omega)
          refine ⟨R, Ev.succ ?_, hP⟩
          simp only [spec_rnd_scripts.j2]
          exact Ev.neg hb' (Ev.pos h2 (Ev.bindNow e3 (Ev.bindNow e4 (Ev.bindNow e5 (Ev.pos hlen hR)))))
        · obtain ⟨v4, t4, e4, b4, b4'⟩ := often_ok hc v1 (t := t2) (by omega)
          obtain ⟨v5, t5, e5, b5, b5'⟩ := often_ok hc v2 (t := t4) (by omega)
          obtain ⟨R, hR, hP⟩ := next ⟨v4, v5⟩ t5 (by omega) (by omega)
          refine ⟨R, Ev.succ ?_, hP⟩
          simp only [spec_rnd_scripts.j2]
          exact Ev.neg hb' (Ev.neg h2 (Ev.bindNow e4 (Ev.bindNow e5 (Ev.pos hlen hR))))
    by_cases h3' : v1 = 3
    · obtain ⟨v3, t3, e3, _, _, b3, b3'⟩ := pick_ok hc x4 (t := t2) (by omega)
      obtain ⟨v4, t4, e4, b4, b4'⟩ := often_ok hc v1 (t := t3) (by omega)
      obtain ⟨v5, t5, e5, b5, b5'⟩ := often_ok hc v3 (t := t4) (by omega)
      obtain ⟨R, hR, hP⟩ := next ⟨v4, v5⟩ t5 (by omega) (by omega)
      refine ⟨R, Ev.succ ?_, hP⟩
      simp only [spec_rnd_scripts.l1]
      exact Ev.pos (by omega) (Ev.bindNow e1 (Ev.bindNow e2 (Ev.pos h3' (Ev.bindNow e3 (Ev.bindNow e4 (Ev.bindNow e5 (Ev.pos hlen hR)))))))
    · by_cases h4 : v1 = 4
      · obtain ⟨R, hR, hP⟩ := j2 (v1 == 4)
        refine ⟨R, Ev.succ ?_, hP⟩
        simp only [spec_rnd_scripts.l1]
        exact Ev.pos (by omega) (Ev.bindNow e1 (Ev.bindNow e2 (Ev.neg h3' (Ev.pos h4 hR))))
      · by_cases h5 : v1 = 5
        · obtain ⟨R, hR, hP⟩ := j2 (v1 == 5)
          refine ⟨R, Ev.succ ?_, hP⟩
          simp only [spec_rnd_scripts.l1]
          exact Ev.pos (by omega) (Ev.bindNow e1 (Ev.bindNow e2 (Ev.neg h3' (Ev.neg h4 (Ev.pos h5 hR)))))
        · obtain ⟨R, hR, hP⟩ := j2 (v1 == 6)
          refine ⟨R, Ev.succ ?_, hP⟩
          simp only [spec_rnd_scripts.l1]
          exact Ev.pos (by omega) (Ev.bindNow e1 (Ev.bindNow e2 (Ev.neg h3' (Ev.neg h4 (Ev.neg h5 hR)))))

theorem draw_l0 {s : List Int} (hc : CodeOk s) (x4 : Int) (h4 : x4 ≤ 10) (d : Nat) :
    ∀ (x3 : List (List S41)) (x5 t : Int), 0 ≤ x5 → x5 = x3.length → x4 - x5 ≤ d → d ≤ 10 → 0 ≤ t → t + 100 * d ≤ 100000 → x3.length + d ≤ 100 → (∀ x ∈ x3, x.length ≤ 1000) →
      ∃ R, Ev (fun k => spec_rnd_scripts.l0 k x3 x4 x5 s t) R ∧ Short R.1 := by
  induction d with
  | zero =>
    intro x3 x5 t h5 h5' hd hd' ht hb hl hx
    refine ⟨(x3, t), Ev.succ ?_, show x3.length ≤ 100 by omega, hx⟩
    simp only [spec_rnd_scripts.l0]
    exact Ev.neg (by omega) (Ev.now _)
  | succ d ih =>
    intro x3 x5 t h5 h5' hd hd' ht hb hl hx
    by_cases hlt : x5 < x4
    · obtain ⟨v, t1, e1, hv0, hv, b1, b1'⟩ := pick_ok hc 7 (t := t) (by omega)
      obtain ⟨n, rfl⟩ := Int.eq_ofNat_of_zero_le hv0
      obtain ⟨R, hR, hP⟩ := draw_l1 hc (fun R => Short R.1) x3 x4 x5 (by omega) n [] n t1 rfl (by simp; omega) (by omega) (by omega) (by
        intro y t2 hy g1 g2
        have ew : wrap64 (x5 + 1) = x5 + 1 := w64 (by omega) (by omega)
        rw [ew]
        refine ih (x3 ++ [y]) (x5 + 1) t2 (by omega) (by simp; omega) (by omega) (by omega) (by omega) (by omega) (by simp; omega) ?_
        intro x hx'
        rcases List.mem_append.mp hx' with h | h
        · exact hx x h
        · simp at h; subst h; simp at hy; omega)
      refine ⟨R, Ev.succ ?_, hP⟩
      simp only [spec_rnd_scripts.l0]
      exact Ev.pos hlt (Ev.bindNow e1 hR)
    · refine ⟨(x3, t), Ev.succ ?_, show x3.length ≤ 100 by omega, hx⟩
      simp only [spec_rnd_scripts.l0]
      exact Ev.neg hlt (Ev.now _)

theorem draw_ok {l : List Int} (h : ∀ x ∈ l, (Lit.int .u8 x).wf = true) : ∃ r, Ev (fun k => spec_DrawScriptsOk.f k l) r ∧ Short r := by
  obtain ⟨s, e0, hc⟩ := newRnd_ok h
  obtain ⟨v, t1, e1, h0, hv, b1, b1'⟩ := pick_ok hc 4 (t := 0) (by omega)
  have ew : wrap64 (1 + v) = 1 + v := w64 (by omega) (by omega)
  obtain ⟨R, hR, hP⟩ := draw_l0 hc (1 + v) (by omega) 10 [] 0 t1 (by omega) rfl (by omega) (by omega) (by omega) (by omega) (by simp) (by simp)
  refine ⟨R.1, ?_, hP⟩
  unfold spec_DrawScriptsOk.f
  refine Ev.bindNow e0 (Ev.bind (a := R) ?_ (Ev.now _))
  unfold spec_rnd_scripts.f
  refine Ev.bindNow e1 ?_
  simp only [ew]
  exact hR

/-- Is an act valid, where there are n scripts? -/
def actOk (n : Nat) (a : S41) : Bool :=
  decide (1 ≤ a.f0) && decide (a.f0 ≤ 7) && decide (0 ≤ a.f1) &&
    decide (a.f1 ≤ if a.f0 = 3 then (n : Int) - 1 else if a.f0 = 2 then 20 else if a.f0 = 4 then 7 else if a.f0 = 6 then 7 else if a.f0 = 5 then 7 else 1000000)
def scriptOk (n : Nat) (l : List S41) : Bool := decide (l.length ≤ 8) && l.all (actOk n)
def scriptsOk (r : List (List S41)) : Bool := decide (1 ≤ r.length) && decide (r.length ≤ 4) && r.all (scriptOk r.length)

theorem within_eq (a b c : Int) : impl_within.f a b c = some (decide (b ≤ a) && decide (a ≤ c)) := by
  unfold impl_within.f
  by_cases h : a ≥ b
  · rw [if_pos h]; simp [show b ≤ a from h]
  · rw [if_neg h]; simp [show ¬ b ≤ a from h]
theorem inRange_eq (a b c : Int) : spec_inRange.f a b c = some (decide (b ≤ a) && decide (a ≤ c)) := by
  unfold spec_inRange.f
  by_cases h : a ≥ b
  · rw [if_pos h]; simp [show b ≤ a from h]
  · rw [if_neg h]; simp [show ¬ b ≤ a from h]

theorem drop_cons {α : Type} (l : List α) (i : Nat) (h : i < l.length) : l.drop i = l[i] :: l.drop (i + 1) := (List.getElem_cons_drop h).symm
theorem rd3_at (r : List (List S41)) (i : Nat) (h : i < r.length) : rd_L3 r i = r[i] := by
  unfold rd_L3; rw [List.getD_eq_getElem?_getD, Int.toNat_natCast, List.getElem?_eq_getElem h]; rfl
theorem rd41_at (l : List S41) (i : Nat) (h : i < l.length) : rd_T41 l i = l[i] := by
  unfold rd_T41; rw [List.getD_eq_getElem?_getD, Int.toNat_natCast, List.getElem?_eq_getElem h]; rfl

/-- One more act: what an 'and' of two tests comes to. -/
theorem impl_l1 {r : List (List S41)} (hn : r.length ≤ 100) (i : Nat) (l : List S41) (hl : l.length ≤ 1000) (b : Bool)
    (hnext : Ev (fun k => impl_ScriptsOk.l0 k r r (r.length : Int) (wrap64 ((i : Int) + 1))) b) (d : Nat) :
    ∀ j : Nat, j + d = l.length → Ev (fun k => impl_ScriptsOk.l1 k r r (r.length : Int) i l (l.length : Int) j) ((l.drop j).all (actOk r.length) && b) := by
  induction d with
  | zero =>
    intro j hj
    rw [List.drop_of_length_le (by omega)]
    refine Ev.succ ?_
    simp only [impl_ScriptsOk.l1, List.all_nil, Bool.true_and]
    exact Ev.neg (by omega) hnext
  | succ d ih =>
    intro j hj
    have hlt : j < l.length := by omega
    rw [drop_cons l j hlt, List.all_cons]
    have e := rd41_at l j hlt
    have hw : wrap64 ((j : Int) + 1) = ((j + 1 : Nat) : Int) := by rw [w64 (by omega) (by omega)]; omega
    have hi := ih (j + 1) (by omega)
    refine Ev.succ ?_
    simp only [impl_ScriptsOk.l1]
    refine Ev.pos (by omega) (Ev.pos (by omega) (Ev.pos (by omega) ?_))
    rw [e]
    generalize l[j] = a at *
    -- what a test and the rest come to
    have fin : ∀ (c : Bool), actOk r.length a = c → Ev (fun k => if c = true then impl_ScriptsOk.l1 k r r (r.length : Int) i l (l.length : Int) (wrap64 ((j : Int) + 1)) else some false) (actOk r.length a && (l.drop (j + 1)).all (actOk r.length) && b) := by
      intro c hc
      rw [hc, hw]
      cases c with
      | true => rw [Bool.true_and]; exact Ev.pos rfl hi
      | false => rw [Bool.false_and, Bool.false_and]; exact Ev.neg (by decide) (Ev.now _)
    have hwn : wrap64 ((r.length : Int) - 1) = (r.length : Int) - 1 := w64 (by omega) (by omega)
    have j3 : ∀ x28 : Int, x28 = a.f0 → x28 ≠ 1 → x28 ≠ 7 → x28 ≠ 2 → x28 ≠ 3 → ∀ c : Bool, c = (x28 == 4 || x28 == 5 || x28 == 6) → Ev (fun k => impl_ScriptsOk.j3 k r (-1) r (r.length : Int) i l (l.length : Int) j c a.f0 a.f1) (actOk r.length a && (l.drop (j + 1)).all (actOk r.length) && b) := by
      intro x28 hx h1 h7 h2 h3 c hc
      refine Ev.succ ?_
      simp only [impl_ScriptsOk.j3]
      by_cases hcc : c = true
      · refine Ev.pos hcc (Ev.bindNow (within_eq _ _ _) ?_)
        have hor : x28 = 4 ∨ x28 = 5 ∨ x28 = 6 := by rw [hcc] at hc; simpa [or_assoc] using hc.symm
        refine fin _ ?_
        unfold actOk
        rcases hor with h | h | h <;> (rw [← hx, h]; simp)
      · refine Ev.neg hcc (Ev.bindNow (within_eq _ _ _) ?_)
        have hnor : ¬ (x28 = 4 ∨ x28 = 5 ∨ x28 = 6) := by
          intro h; apply hcc; rw [hc]; simpa [or_assoc] using h
        refine fin _ ?_
        unfold actOk
        rw [← hx]
        have : (decide (0 ≤ a.f1) && decide (a.f1 ≤ -1)) = false := by simp; omega
        rw [this]
        have : (decide (1 ≤ x28) && decide (x28 ≤ 7)) = false := by simp; omega
        rw [this]; rfl
    have j2 : ∀ x28 : Int, x28 = a.f0 → ∀ c : Bool, c = (x28 == 1 || x28 == 7) → Ev (fun k => impl_ScriptsOk.j2 k r (-1) r (r.length : Int) i l (l.length : Int) j x28 c a.f0 a.f1) (actOk r.length a && (l.drop (j + 1)).all (actOk r.length) && b) := by
      intro x28 hx c hc
      refine Ev.succ ?_
      simp only [impl_ScriptsOk.j2]
      by_cases hcc : c = true
      · refine Ev.pos hcc (Ev.bindNow (within_eq _ _ _) (fin _ ?_))
        have hor : x28 = 1 ∨ x28 = 7 := by rw [hcc] at hc; simpa using hc.symm
        unfold actOk
        rcases hor with h | h <;> (rw [← hx, h]; simp)
      · have hnor : ¬ (x28 = 1 ∨ x28 = 7) := by
          intro h; apply hcc; rw [hc]; simpa using h
        refine Ev.neg hcc ?_
        by_cases h2 : x28 = 2
        · refine Ev.pos h2 (Ev.bindNow (within_eq _ _ _) (fin _ ?_))
          unfold actOk; rw [← hx, h2]; simp
        · refine Ev.neg h2 ?_
          by_cases h3 : x28 = 3
          · refine Ev.pos h3 (Ev.bindNow (within_eq _ _ _) (fin _ ?_))
            rw [hwn]; unfold actOk; rw [← hx, h3]; simp
          · refine Ev.neg h3 ?_
            have g := j3 x28 hx (by omega) (by omega) h2 h3
            by_cases h4 : x28 = 4
            · exact Ev.pos h4 (g _ (by rw [h4]; rfl))
            · refine Ev.neg h4 ?_
              by_cases h5 : x28 = 5
              · exact Ev.pos h5 (g _ (by rw [h5]; rfl))
              · refine Ev.neg h5 (g _ ?_)
                have e4 : (x28 == 4) = false := by simpa using h4
                have e5 : (x28 == 5) = false := by simpa using h5
                rw [e4, e5]; rfl
    by_cases h1 : a.f0 = 1
    · exact Ev.pos h1 (j2 _ rfl _ (by rw [h1]; rfl))
    · refine Ev.neg h1 (j2 _ rfl _ ?_)
      have e1 : (a.f0 == 1) = false := by simpa using h1
      rw [e1]; rfl

theorem impl_l0 {r : List (List S41)} (hs : Short r) (d : Nat) :
    ∀ i : Nat, i + d = r.length → Ev (fun k => impl_ScriptsOk.l0 k r r (r.length : Int) i) ((r.drop i).all (scriptOk r.length)) := by
  induction d with
  | zero =>
    intro i hi
    rw [List.drop_of_length_le (by omega)]
    refine Ev.succ ?_
    simp only [impl_ScriptsOk.l0]
    exact Ev.neg (by omega) (Ev.now _)
  | succ d ih =>
    intro i hi
    have hn := hs.1
    have hlt : i < r.length := by omega
    rw [drop_cons r i hlt, List.all_cons]
    have e := rd3_at r i hlt
    have hx := hs.2 r[i] (List.getElem_mem hlt)
    have hw : wrap64 ((i : Int) + 1) = ((i + 1 : Nat) : Int) := by rw [w64 (by omega) (by omega)]; omega
    have hnext := ih (i + 1) (by omega)
    rw [← hw] at hnext
    have h1 := impl_l1 hn i r[i] hx _ hnext r[i].length 0 (by omega)
    refine Ev.succ ?_
    simp only [impl_ScriptsOk.l0]
    refine Ev.pos (by omega) (Ev.pos (by omega) (Ev.pos (by omega) ?_))
    rw [e]
    by_cases h8 : (r[i].length : Int) > 8
    · refine Ev.pos h8 (Ev.ret ?_)
      unfold scriptOk
      have : decide (r[i].length ≤ 8) = false := decide_eq_false (by omega)
      rw [this]; rfl
    · refine Ev.neg h8 ?_
      have h8' : decide (r[i].length ≤ 8) = true := decide_eq_true (by omega)
      have e2 : scriptOk r.length r[i] = r[i].all (actOk r.length) := by unfold scriptOk; rw [h8']; rfl
      rw [e2]
      simpa using h1

theorem impl_ok {r : List (List S41)} (hs : Short r) : Ev (fun k => impl_ScriptsOk.f k r) (scriptsOk r) := by
  unfold impl_ScriptsOk.f
  refine Ev.bindNow (within_eq _ _ _) ?_
  have h := impl_l0 hs r.length 0 (by omega)
  unfold scriptsOk
  by_cases hb : (decide ((1 : Int) ≤ r.length) && decide ((r.length : Int) ≤ 4)) = true
  · refine Ev.pos hb ?_
    have e : (decide (1 ≤ r.length) && decide (r.length ≤ 4)) = true := by
      simp at hb ⊢; omega
    rw [e]
    simpa using h
  · refine Ev.neg hb (Ev.ret ?_)
    have e : (decide (1 ≤ r.length) && decide (r.length ≤ 4)) = false := by
      simp at hb ⊢; omega
    rw [e]; rfl

theorem spec_l1 {r : List (List S41)} (hn : r.length ≤ 100) (i : Nat) (hi : i < r.length) (hl : r[i].length ≤ 1000) (b : Bool)
    (hnext : r[i].length ≤ 8 → Ev (fun k => spec_validScripts.l0 k r (wrap64 ((i : Int) + 1))) b) (d : Nat) :
    ∀ j : Nat, j + d = r[i].length → Ev (fun k => spec_validScripts.l1 k r i j) ((r[i].drop j).all (actOk r.length) && (decide (r[i].length ≤ 8) && b)) := by
  have e3 := rd3_at r i hi
  induction d with
  | zero =>
    intro j hj
    rw [List.drop_of_length_le (by omega)]
    refine Ev.succ ?_
    simp only [spec_validScripts.l1, List.all_nil, Bool.true_and, e3]
    refine Ev.pos (by omega) (Ev.pos (by omega) (Ev.neg (by omega) ?_))
    by_cases h8 : (r[i].length : Int) > 8
    · refine Ev.pos h8 (Ev.ret ?_)
      rw [decide_eq_false (by omega)]; rfl
    · refine Ev.neg h8 ?_
      rw [decide_eq_true (by omega), Bool.true_and]
      exact hnext (by omega)
  | succ d ih =>
    intro j hj
    have hlt : j < r[i].length := by omega
    rw [drop_cons r[i] j hlt, List.all_cons]
    have e := rd41_at r[i] j hlt
    have hw : wrap64 ((j : Int) + 1) = ((j + 1 : Nat) : Int) := by rw [w64 (by omega) (by omega)]; omega
    have hj' := ih (j + 1) (by omega)
    have hwn : wrap64 ((r.length : Int) - 1) = (r.length : Int) - 1 := w64 (by omega) (by omega)
    refine Ev.succ ?_
    simp only [spec_validScripts.l1, e3, e, hwn]
    refine Ev.pos (by omega) (Ev.pos (by omega) (Ev.pos (by omega) (Ev.pos (by omega) ?_)))
    generalize r[i][j] = a at *
    have fin : ∀ m : Int, m = (if a.f0 = 3 then (r.length : Int) - 1 else if a.f0 = 2 then 20 else if a.f0 = 4 then 7 else if a.f0 = 6 then 7 else if a.f0 = 5 then 7 else 1000000) →
        Ev (fun k => spec_validScripts.j2 k r i j m a.f0 a.f1) (actOk r.length a && (r[i].drop (j + 1)).all (actOk r.length) && (decide (r[i].length ≤ 8) && b)) := by
      intro m hm
      refine Ev.succ ?_
      simp only [spec_validScripts.j2]
      refine Ev.bindNow (inRange_eq _ _ _) ?_
      have ea : actOk r.length a = ((decide (1 ≤ a.f0) && decide (a.f0 ≤ 7)) && (decide (0 ≤ a.f1) && decide (a.f1 ≤ m))) := by
        unfold actOk; rw [← hm, Bool.and_assoc (decide (1 ≤ a.f0) && decide (a.f0 ≤ 7))]
      rw [ea]
      by_cases h1 : (decide (1 ≤ a.f0) && decide (a.f0 ≤ 7)) = true
      · refine Ev.pos h1 (Ev.bindNow (inRange_eq _ _ _) ?_)
        by_cases h2 : (decide (0 ≤ a.f1) && decide (a.f1 ≤ m)) = true
        · refine Ev.pos h2 ?_
          rw [h1, h2, hw, Bool.true_and, Bool.true_and]
          exact hj'
        · refine Ev.neg h2 (Ev.ret ?_)
          rw [Bool.eq_false_iff.mpr h2]; simp
      · refine Ev.neg h1 (Ev.ret ?_)
        rw [Bool.eq_false_iff.mpr h1]; simp
    by_cases g3 : a.f0 = 3
    · exact Ev.pos g3 (fin _ (by rw [if_pos g3]))
    refine Ev.neg g3 ?_
    by_cases g2 : a.f0 = 2
    · exact Ev.pos g2 (fin _ (by rw [if_neg g3, if_pos g2]))
    refine Ev.neg g2 ?_
    by_cases g4 : a.f0 = 4
    · exact Ev.pos g4 (fin _ (by rw [if_neg g3, if_neg g2, if_pos g4]))
    refine Ev.neg g4 ?_
    by_cases g6 : a.f0 = 6
    · exact Ev.pos g6 (fin _ (by rw [if_neg g3, if_neg g2, if_neg g4, if_pos g6]))
    refine Ev.neg g6 ?_
    by_cases g5 : a.f0 = 5
    · exact Ev.pos g5 (fin _ (by rw [if_neg g3, if_neg g2, if_neg g4, if_neg g6, if_pos g5]))
    exact Ev.neg g5 (fin _ (by rw [if_neg g3, if_neg g2, if_neg g4, if_neg g6, if_neg g5]))

theorem spec_l0 {r : List (List S41)} (hs : Short r) (d : Nat) :
    ∀ i : Nat, i + d = r.length → Ev (fun k => spec_validScripts.l0 k r i) ((r.drop i).all (scriptOk r.length) && (decide (1 ≤ r.length) && decide (r.length ≤ 4))) := by
  have hn := hs.1
  have er : (decide ((1 : Int) ≤ r.length) && decide ((r.length : Int) ≤ 4)) = (decide (1 ≤ r.length) && decide (r.length ≤ 4)) := by
    have a : decide ((1 : Int) ≤ r.length) = decide (1 ≤ r.length) := decide_eq_decide.mpr (by omega)
    have b : decide ((r.length : Int) ≤ 4) = decide (r.length ≤ 4) := decide_eq_decide.mpr (by omega)
    rw [a, b]
  induction d with
  | zero =>
    intro i hi
    rw [List.drop_of_length_le (by omega)]
    refine Ev.succ ?_
    simp only [spec_validScripts.l0]
    refine Ev.neg (by omega) (Ev.bindNow (inRange_eq _ _ _) (Ev.ret ?_))
    rw [er]; rfl
  | succ d ih =>
    intro i hi
    have hlt : i < r.length := by omega
    rw [drop_cons r i hlt, List.all_cons]
    have hx := hs.2 r[i] (List.getElem_mem hlt)
    have hw : wrap64 ((i : Int) + 1) = ((i + 1 : Nat) : Int) := by rw [w64 (by omega) (by omega)]; omega
    have hnext := ih (i + 1) (by omega)
    rw [← hw] at hnext
    have h1 := spec_l1 hn i hlt hx _ (fun _ => hnext) r[i].length 0 (by omega)
    refine Ev.succ ?_
    simp only [spec_validScripts.l0]
    refine Ev.pos (by omega) ?_
    have e2 : ((scriptOk r.length r[i] && (r.drop (i + 1)).all (scriptOk r.length)) && (decide (1 ≤ r.length) && decide (r.length ≤ 4))) = ((r[i].drop 0).all (actOk r.length) && (decide (r[i].length ≤ 8) && ((r.drop (i + 1)).all (scriptOk r.length) && (decide (1 ≤ r.length) && decide (r.length ≤ 4))))) := by
      unfold scriptOk
      rw [List.drop_zero]
      cases decide (r[i].length ≤ 8) <;> cases r[i].all (actOk r.length) <;> simp
    rw [e2]
    exact h1

theorem spec_ok {r : List (List S41)} (hs : Short r) : Ev (fun k => spec_ScriptsOk.f k r) (scriptsOk r) := by
  unfold spec_ScriptsOk.f
  have h := spec_l0 hs r.length 0 (by omega)
  refine Ev.bind (a := scriptsOk r) ?_ (Ev.now _)
  unfold spec_validScripts.f
  have e : scriptsOk r = ((r.drop 0).all (scriptOk r.length) && (decide (1 ≤ r.length) && decide (r.length ≤ 4))) := by
    unfold scriptsOk
    rw [List.drop_zero, Bool.and_comm]
  rw [e]
  exact h

theorem new_same : spec_SameLoop.f 5 0 [⟨0, 0, -1, 1, 0, -1, 0, false⟩] [0] [] 0 [⟨0, 0, -1, 1, 0, -1, 0, false⟩] [0] [] = some true := by kernel_rfl

/-- For every code the law's plain function answers true. -/
theorem FnScriptsOk : laws_FnScriptsOk.Pure := by
  intro l hl hl2 hw
  have main : Ev (fun k => laws_FnScriptsOk.f k l) true := by
    unfold laws_FnScriptsOk.f
    by_cases h1 : (l.length : Int) > 1048576
    · exact Ev.pos h1 (Ev.now _)
    refine Ev.neg h1 ?_
    obtain ⟨r, hr, hs⟩ := draw_ok hw
    refine Ev.bind hr (Ev.bind (impl_ok hs) (Ev.bind (spec_ok hs) ?_))
    refine Ev.pos (by simp) (Ev.succ ?_)
    simp only [laws_FnScriptsOk.j0]
    cases hb : scriptsOk r with
    | false => exact Ev.pos rfl (Ev.now _)
    | true =>
      refine Ev.neg (by decide) ?_
      have hi := impl_ok hs
      rw [hb] at hi
      have hrun : Ev (fun k => impl_LoopRun.f k r 0) (0, [⟨0, 0, -1, 1, 0, -1, 0, false⟩], [0], []) := by
        unfold impl_LoopRun.f
        exact Ev.pos rfl (Ev.bind hi (Ev.pos rfl (Ev.const rfl)))
      refine Ev.bind hrun (Ev.bindNow (a := (0, [⟨0, 0, -1, 1, 0, -1, 0, false⟩], [0], [])) rfl (Ev.bind (a := true) ?_ (Ev.now _)))
      exact Ev.of (fun k => spec_SameLoop.mono _ _ _ _ _ _ _ _ k) new_same
  exact main.rounds

end Go.Proofs.Ytaaonmlbkljgjaa.Pure
