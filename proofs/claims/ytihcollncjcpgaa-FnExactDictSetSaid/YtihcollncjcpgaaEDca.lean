/- The way of a key through the slots, in plain Lean: its hash, the slots that are looked at, that an empty slot is reached, and that the reference's and the program's functions walk it. No Go and no memory in it; no conditions but those that each law names. -/
import Derived.Test.YtihcollncjcpgaaEEvs
import Derived.Test.YtihcollncjcpgaaEx0
import Derived.Test.YtihcollncjcpgaaEx2
import Derived.Test.YtihcollncjcpgaaEx8
import Derived.Test.YtihcollncjcpgaaEx9
namespace Go.Proofs.Ytihcollncjcpgaa.E
open Go.RowKit Go.Proofs.YtihcollncjcpgaaW.PrintWords Go.Proofs.YtihcollncjcpgaaW.PrintLast Go.Proofs.YtihcollncjcpgaaW.PrintMore
set_option linter.unusedVariables false

/-- The hash of a key's first bytes. -/
def hsAt (key : ByteArray) : Nat → Int
  | 0 => 7
  | n + 1 => (hsAt key n * 31 + bt key n) % 65536
def hs (key : ByteArray) : Int := hsAt key key.size

theorem bt_range (s : ByteArray) (i : Int) : 0 ≤ bt s i ∧ bt s i ≤ 255 := by
  unfold bt
  split
  · rename_i h
    have := (s[i.toNat]'h).toNat_lt
    omega
  · omega
theorem hsAt_range (key : ByteArray) (n : Nat) : 0 ≤ hsAt key n ∧ hsAt key n ≤ 65535 := by
  cases n with
  | zero => simp [hsAt]
  | succ n => simp only [hsAt]; omega
theorem hs_range (key : ByteArray) : 0 ≤ hs key ∧ hs key ≤ 65535 := hsAt_range key _

theorem hash_step (key : ByteArray) (n : Nat) : Int.tmod (wrap64 ((wrap64 (hsAt key n * 31)) + (wrap64 (bt key n)))) 65536 = hsAt key (n + 1) := by
  have h1 := hsAt_range key n
  have h2 := bt_range key n
  have e1 : wrap64 (hsAt key n * 31) = hsAt key n * 31 := w64 (by omega) (by omega)
  have e2 : wrap64 (bt key n) = bt key n := w64 (by omega) (by omega)
  rw [e1, e2]
  have e3 : wrap64 (hsAt key n * 31 + bt key n) = hsAt key n * 31 + bt key n := w64 (by omega) (by omega)
  rw [e3, Int.tmod_eq_emod_of_nonneg (by omega)]
  rfl
theorem hashOf_l0 (key : ByteArray) (hsz : key.size ≤ 1000000) (d : Nat) : ∀ i : Nat, i + d = key.size → Ev (fun k => spec_hashOf.l0 k key (hsAt key i) i) (hs key) := by
  induction d with
  | zero =>
    intro i hi
    refine Ev.succ ?_
    simp only [spec_hashOf.l0]
    refine Ev.neg (by omega) (Ev.ret ?_)
    rw [hs, ← hi, Nat.add_zero]
  | succ d ih =>
    intro i hi
    refine Ev.succ ?_
    simp only [spec_hashOf.l0]
    refine Ev.pos (by omega) (Ev.pos (by omega) ?_)
    rw [hash_step, w64 (by omega) (by omega)]
    exact ih (i + 1) (by omega)
theorem hashOf_ok (key : ByteArray) (hsz : key.size ≤ 1000000) : Ev (fun k => spec_hashOf.f k key) (hs key) := hashOf_l0 key hsz key.size 0 (by omega)
theorem DictHash_l0 (key : ByteArray) (hsz : key.size ≤ 1000000) (d : Nat) : ∀ i : Nat, i + d = key.size → Ev (fun k => impl_DictHash.l0 k key (hsAt key i) key.size i) (hs key) := by
  induction d with
  | zero =>
    intro i hi
    refine Ev.succ ?_
    simp only [impl_DictHash.l0]
    refine Ev.neg (by omega) (Ev.ret ?_)
    rw [hs, ← hi, Nat.add_zero]
  | succ d ih =>
    intro i hi
    refine Ev.succ ?_
    simp only [impl_DictHash.l0]
    refine Ev.pos (by omega) (Ev.pos (by omega) (Ev.pos (by omega) ?_))
    rw [hash_step, w64 (by omega) (by omega)]
    exact ih (i + 1) (by omega)
theorem DictHash_ok (key : ByteArray) (hsz : key.size ≤ 20) : Ev (fun k => impl_DictHash.f k key) (hs key) := by
  refine Ev.neg (by omega) ?_
  exact DictHash_l0 key (by omega) key.size 0 (by omega)

/-- A step of the way: the slot and the rest. -/
def nx (n : Int) (p : Int × Int) : Int × Int := ((5 * p.1 + p.2 / 8 + 1) % n, p.2 / 8)
def pt (n h : Int) : Nat → Int × Int
  | 0 => (h % n, h)
  | j + 1 => nx n (pt n h j)
theorem pt_range {n h : Int} (hn : 0 < n) (hh : 0 ≤ h ∧ h ≤ 65535) (j : Nat) : 0 ≤ (pt n h j).1 ∧ (pt n h j).1 < n ∧ 0 ≤ (pt n h j).2 ∧ (pt n h j).2 ≤ 65535 := by
  induction j with
  | zero => exact ⟨Int.emod_nonneg _ (by omega), Int.emod_lt_of_pos _ hn, hh.1, hh.2⟩
  | succ j ih =>
    refine ⟨Int.emod_nonneg _ (by omega), Int.emod_lt_of_pos _ hn, ?_, ?_⟩
    · simp only [pt, nx]; omega
    · simp only [pt, nx]; omega
theorem pt_next {n h : Int} (hn : 0 < n ∧ n ≤ 1000000) (hh : 0 ≤ h ∧ h ≤ 65535) (j : Nat) :
    wrap64 (Int.tdiv (pt n h j).2 8) = (pt n h (j + 1)).2 ∧ Int.tmod (wrap64 ((wrap64 ((wrap64 (5 * (pt n h j).1)) + (wrap64 (Int.tdiv (pt n h j).2 8)))) + 1)) n = (pt n h (j + 1)).1 := by
  obtain ⟨a, b, c, d⟩ := pt_range hn.1 hh j
  have e1 : Int.tdiv (pt n h j).2 8 = (pt n h j).2 / 8 := Int.tdiv_eq_ediv_of_nonneg c
  have e2 : wrap64 ((pt n h j).2 / 8) = (pt n h j).2 / 8 := w64 (by omega) (by omega)
  have e3 : wrap64 (5 * (pt n h j).1) = 5 * (pt n h j).1 := w64 (by omega) (by omega)
  rw [e1, e2, e3]
  have e4 : wrap64 (5 * (pt n h j).1 + (pt n h j).2 / 8) = 5 * (pt n h j).1 + (pt n h j).2 / 8 := w64 (by omega) (by omega)
  rw [e4]
  have e5 : wrap64 (5 * (pt n h j).1 + (pt n h j).2 / 8 + 1) = 5 * (pt n h j).1 + (pt n h j).2 / 8 + 1 := w64 (by omega) (by omega)
  rw [e5, Int.tmod_eq_emod_of_nonneg (by omega)]
  exact ⟨rfl, rfl⟩

/-! The way reaches every slot. -/
def stepN (n a : Nat) : Nat := (5 * a + 1) % n
def orb (n : Nat) : Nat → Nat → List Nat
  | 0, _ => []
  | k + 1, a => a :: orb n k (stepN n a)
def itN (n : Nat) : Nat → Nat → Nat
  | 0, a => a
  | k + 1, a => itN n k (stepN n a)
theorem mem_orb {n t : Nat} (k : Nat) : ∀ a, t ∈ orb n k a → ∃ i, i < k ∧ itN n i a = t := by
  induction k with
  | zero => intro a h; simp [orb] at h
  | succ k ih =>
    intro a h
    simp only [orb, List.mem_cons] at h
    rcases h with rfl | h
    · exact ⟨0, by omega, rfl⟩
    · obtain ⟨i, hi, e⟩ := ih _ h
      exact ⟨i + 1, by omega, e⟩
theorem itN_add (n i j a : Nat) : itN n (i + j) a = itN n j (itN n i a) := by
  induction i generalizing a with
  | zero => simp [itN]
  | succ i ih => rw [Nat.add_right_comm]; exact ih _
def Size (n : Nat) : Prop := n = 8 ∨ n = 16 ∨ n = 32 ∨ n = 64 ∨ n = 128
theorem orb_all {n : Nat} (hn : Size n) : ∀ t, t < n → t ∈ orb n n 0 := by
  rcases hn with rfl | rfl | rfl | rfl | rfl <;> decide +kernel
theorem orb_round {n : Nat} (hn : Size n) : itN n n 0 = 0 := by
  rcases hn with rfl | rfl | rfl | rfl | rfl <;> decide +kernel
theorem reachN {n : Nat} (hn : Size n) (a t : Nat) (ha : a < n) (ht : t < n) : ∃ i, i < 2 * n ∧ itN n i a = t := by
  obtain ⟨i, hi, ei⟩ := mem_orb n 0 (orb_all hn a ha)
  obtain ⟨j, hj, ej⟩ := mem_orb n 0 (orb_all hn t ht)
  refine ⟨n + j - i, by omega, ?_⟩
  rw [← ei, ← itN_add, show i + (n + j - i) = n + j by omega, itN_add, orb_round hn, ej]
theorem pt_six {n h : Int} (hh : 0 ≤ h ∧ h ≤ 65535) : (pt n h 6).2 = 0 := by
  simp only [pt, nx]
  omega
theorem pt_it {n : Nat} {h : Int} (hn : 0 < n) (hh : 0 ≤ h ∧ h ≤ 65535) (i : Nat) : ∀ j, (pt n h j).2 = 0 → (pt n h (j + i)).1 = itN n i (pt n h j).1.toNat := by
  induction i with
  | zero =>
    intro j hj
    have := pt_range (n := n) (by omega) hh j
    simp only [itN, Nat.add_zero]
    omega
  | succ i ih =>
    intro j hj
    have hr := pt_range (n := n) (by omega) hh j
    have h2 : (pt n h (j + 1)).2 = 0 := by simp only [pt, nx, hj]; rfl
    have h1 : (pt n h (j + 1)).1.toNat = stepN n (pt n h j).1.toNat := by
      have e : (pt n h (j + 1)).1 = ((stepN n (pt n h j).1.toNat : Nat) : Int) := by
        simp only [pt, nx, hj, stepN]
        have e2 : (((pt n h j).1.toNat : Nat) : Int) = (pt n h j).1 := by omega
        rw [Int.natCast_emod, Int.natCast_add, Int.natCast_mul, e2]
        congr 1
        omega
      rw [e]
      rfl
    have := ih (j + 1) h2
    rw [show j + (i + 1) = j + 1 + i by omega, this, h1]
    rfl
theorem reach {n : Nat} (hn : Size n) {h : Int} (hh : 0 ≤ h ∧ h ≤ 65535) (t : Nat) (ht : t < n) : ∃ m, m < 6 + 2 * n ∧ (pt n h m).1 = t := by
  have hp : 0 < n := by omega
  have hr := pt_range (n := n) (by omega) hh 6
  obtain ⟨i, hi, ei⟩ := reachN hn (pt n h 6).1.toNat t (by omega) ht
  exact ⟨6 + i, by omega, by rw [pt_it hp hh i 6 (pt_six hh), ei]⟩

/-! Where the way ends. -/
def stp (I : List Int) (E : List S56) (key : ByteArray) (i : Int) : Prop := rd I i = -1 ∨ (0 ≤ rd I i ∧ ((rd_T56 E (rd I i)).f0).toList = key.toList)
instance (I : List Int) (E : List S56) (key : ByteArray) (i : Int) : Decidable (stp I E key i) := by unfold stp; infer_instance
/-- The slot at the way's place m. -/
def wy (I : List Int) (key : ByteArray) (m : Nat) : Int := (pt I.length (hs key) m).1
def Ends (I : List Int) (E : List S56) (key : ByteArray) (m : Nat) : Prop := stp I E key (wy I key m) ∧ (∀ i, i < m → ¬ stp I E key (wy I key i)) ∧ m < 6 + 2 * I.length
theorem Ends.uniq {I : List Int} {E : List S56} {key : ByteArray} {m m' : Nat} (h : Ends I E key m) (h' : Ends I E key m') : m = m' := by
  rcases Nat.lt_trichotomy m m' with hl | hl | hl
  · exact absurd h.1 (h'.2.1 m hl)
  · exact hl
  · exact absurd h'.1 (h.2.1 m' hl)
theorem Ends.of_stop {I : List Int} {E : List S56} {key : ByteArray} (m : Nat) : stp I E key (wy I key m) → m < 6 + 2 * I.length → ∃ m', m' ≤ m ∧ Ends I E key m' := by
  induction m using Nat.strongRecOn with
  | ind m ih =>
    intro h hm
    by_cases hx : ∀ i, i < m → ¬ stp I E key (wy I key i)
    · exact ⟨m, Nat.le_refl _, h, hx, hm⟩
    · simp only [Classical.not_forall, Classical.not_not] at hx
      obtain ⟨i, hi, hs⟩ := hx
      obtain ⟨m', h1, h2⟩ := ih i hi hs (by omega)
      exact ⟨m', by omega, h2⟩
theorem Ends.of_empty {I : List Int} {E : List S56} {key : ByteArray} (hn : Size I.length) (t : Nat) (ht : t < I.length) (he : rd I t = -1) : ∃ m, Ends I E key m := by
  obtain ⟨m, hm, e⟩ := reach hn (hs_range key) t ht
  obtain ⟨m', _, h⟩ := Ends.of_stop (I := I) (E := E) (key := key) m (.inl (by rw [wy, e]; exact he)) hm
  exact ⟨m', h⟩
theorem wy_range {I : List Int} (hn : 0 < I.length) (key : ByteArray) (m : Nat) : 0 ≤ wy I key m ∧ wy I key m < I.length := by
  have := pt_range (n := I.length) (by omega) (hs_range key) m
  exact ⟨this.1, this.2.1⟩

/-- Slots that point into the entries. -/
def Good (I : List Int) (E : List S56) : Prop := ∀ x ∈ I, x < E.length
theorem rd_mem {I : List Int} {i : Int} (h0 : 0 ≤ i) (h1 : i < I.length) : rd I i ∈ I := by
  unfold rd
  rw [List.getD_eq_getElem?_getD, List.getElem?_eq_getElem (show i.toNat < I.length by omega)]
  exact List.getElem_mem _
theorem Good.at {I : List Int} {E : List S56} (h : Good I E) {i : Int} (h0 : 0 ≤ i) (h1 : i < I.length) : rd I i < E.length := h _ (rd_mem h0 h1)
/-- The list of the slots that are looked at, the first j ones. -/
def wys (I : List Int) (key : ByteArray) (j : Nat) : List Int := (List.range j).map (wy I key)
theorem wys_succ (I : List Int) (key : ByteArray) (j : Nat) : wys I key j ++ [wy I key j] = wys I key (j + 1) := by
  simp [wys, List.range_succ]
theorem wys_len (I : List Int) (key : ByteArray) (j : Nat) : (wys I key j).length = j := by simp [wys]
theorem wys_last (I : List Int) (key : ByteArray) (m : Nat) (hm : m < 1000000) : 0 ≤ wrap64 (((wys I key (m + 1)).length : Int) - 1) ∧ wrap64 (((wys I key (m + 1)).length : Int) - 1) < ((wys I key (m + 1)).length : Int) ∧ rd (wys I key (m + 1)) (wrap64 (((wys I key (m + 1)).length : Int) - 1)) = wy I key m := by
  rw [wys_len, w64 (by omega) (by omega)]
  refine ⟨by omega, by omega, ?_⟩
  unfold rd
  rw [List.getD_eq_getElem?_getD, show ((((m + 1 : Nat) : Int) - 1)).toNat = m by omega]
  simp [wys]
theorem probesOf_l0 {I : List Int} {E : List S56} {key : ByteArray} {m : Nat} (hI : 0 < I.length ∧ I.length ≤ 100000) (hG : Good I E) (hE : Ends I E key m) (d : Nat) :
    ∀ j : Nat, j + d = m → Ev (fun k => spec_probesOf.l0 k key I.length (pt I.length (hs key) j).2 (wy I key j) (wys I key j) I E) (wys I key (m + 1)) := by
  have hm := hE.2.2
  induction d with
  | zero =>
    intro j hj
    obtain rfl : j = m := by omega
    have hw := wy_range hI.1 key j
    refine Ev.succ ?_
    simp only [spec_probesOf.l0]
    refine Ev.pos (by rw [wys_len]; omega) (Ev.bindNow rfl ?_)
    rw [wys_succ]
    refine Ev.pos hw.1 (Ev.pos hw.2 ?_)
    by_cases h1 : rd I (wy I key j) = -1
    · exact Ev.pos h1 (Ev.now _)
    · have h2 := hE.1.resolve_left h1
      exact Ev.neg h1 (Ev.pos h2.1 (Ev.pos h2.1 (Ev.pos (hG.at hw.1 hw.2) (Ev.pos h2.2 (Ev.now _)))))
  | succ d ih =>
    intro j hj
    have hw := wy_range hI.1 key j
    have hn := hE.2.1 j (by omega)
    have hp := pt_next (n := I.length) (by omega) (hs_range key) j
    have next : Ev (fun k => if (I.length : Int) = 0 then none else spec_probesOf.l0 k key I.length (wrap64 (Int.tdiv (pt I.length (hs key) j).2 8)) (Int.tmod (wrap64 ((wrap64 ((wrap64 (5 * wy I key j)) + (wrap64 (Int.tdiv (pt I.length (hs key) j).2 8)))) + 1)) I.length) (wys I key (j + 1)) I E) (wys I key (m + 1)) := by
      refine Ev.neg (by omega) ?_
      have := ih (j + 1) (by omega)
      rw [hp.1]
      unfold wy at hp ⊢
      rw [← hp.1, hp.2, hp.1]
      exact this
    refine Ev.succ ?_
    simp only [spec_probesOf.l0]
    refine Ev.pos (by rw [wys_len]; omega) (Ev.bindNow rfl ?_)
    rw [wys_succ]
    refine Ev.pos hw.1 (Ev.pos hw.2 ?_)
    refine Ev.neg (fun h => hn (.inl h)) ?_
    by_cases h0 : rd I (wy I key j) ≥ 0
    · refine Ev.pos h0 (Ev.pos h0 (Ev.pos (hG.at hw.1 hw.2) (Ev.neg (fun h => hn (.inr ⟨h0, h⟩)) next)))
    · exact Ev.neg h0 next
theorem probesOf_ok {I : List Int} {E : List S56} {key : ByteArray} {m : Nat} (hI : 0 < I.length ∧ I.length ≤ 100000) (hk : key.size ≤ 1000000) (hG : Good I E) (hE : Ends I E key m) :
    Ev (fun k => spec_probesOf.f k I E key) (wys I key (m + 1)) := by
  refine Ev.bind (hashOf_ok key hk) (Ev.neg (by omega) ?_)
  have := probesOf_l0 hI hG hE m 0 (by omega)
  rw [Int.tmod_eq_emod_of_nonneg (hs_range key).1]
  exact this
theorem slotOf_ok {I : List Int} {E : List S56} {key : ByteArray} {m : Nat} (hI : 0 < I.length ∧ I.length ≤ 100000) (hk : key.size ≤ 1000000) (hG : Good I E) (hE : Ends I E key m) :
    Ev (fun k => spec_slotOf.f k I E key) (wy I key m) := by
  have hm := hE.2.2
  have hl := wys_last I key m (by omega)
  refine Ev.bind (probesOf_ok hI hk hG hE) (Ev.pos hl.1 (Ev.pos hl.2.1 (Ev.ret hl.2.2)))
theorem probe_l0 {I : List Int} {E : List S56} {key : ByteArray} {m : Nat} (hI : 0 < I.length ∧ I.length ≤ 100000) (hG : Good I E) (hE : Ends I E key m) (d : Nat) :
    ∀ j : Nat, j + d = m → Ev (fun k => impl_Dict_probe.l0 k key I.length (wy I key j) (pt I.length (hs key) j).2 (wys I key j) (65536 + 2 * I.length) j I E) (wys I key (m + 1)) := by
  have hm := hE.2.2
  induction d with
  | zero =>
    intro j hj
    obtain rfl : j = m := by omega
    have hw := wy_range hI.1 key j
    refine Ev.succ ?_
    simp only [impl_Dict_probe.l0]
    refine Ev.pos (by omega) (Ev.pos (by rw [wys_len]; omega) (Ev.bindNow rfl ?_))
    rw [wys_succ]
    refine Ev.pos hw.1 (Ev.pos hw.2 ?_)
    by_cases h1 : rd I (wy I key j) = -1
    · exact Ev.pos h1 (Ev.now _)
    · have h2 := hE.1.resolve_left h1
      exact Ev.neg h1 (Ev.pos h2.1 (Ev.pos h2.1 (Ev.pos (hG.at hw.1 hw.2) (Ev.pos h2.2 (Ev.now _)))))
  | succ d ih =>
    intro j hj
    have hw := wy_range hI.1 key j
    have hn := hE.2.1 j (by omega)
    have hp := pt_next (n := I.length) (by omega) (hs_range key) j
    have next : Ev (fun k => if (I.length : Int) = 0 then none else impl_Dict_probe.l0 k key I.length (Int.tmod (wrap64 ((wrap64 ((wrap64 (5 * wy I key j)) + (wrap64 (Int.tdiv (pt I.length (hs key) j).2 8)))) + 1)) I.length) (wrap64 (Int.tdiv (pt I.length (hs key) j).2 8)) (wys I key (j + 1)) (65536 + 2 * I.length) (wrap64 ((j : Int) + 1)) I E) (wys I key (m + 1)) := by
      refine Ev.neg (by omega) ?_
      have := ih (j + 1) (by omega)
      have ew : wrap64 ((j : Int) + 1) = ((j + 1 : Nat) : Int) := by rw [w64 (by omega) (by omega)]; omega
      rw [ew]
      unfold wy at hp ⊢
      rw [hp.2, hp.1]
      exact this
    refine Ev.succ ?_
    simp only [impl_Dict_probe.l0]
    refine Ev.pos (by omega) (Ev.pos (by rw [wys_len]; omega) (Ev.bindNow rfl ?_))
    rw [wys_succ]
    refine Ev.pos hw.1 (Ev.pos hw.2 ?_)
    refine Ev.neg (fun h => hn (.inl h)) ?_
    by_cases h0 : rd I (wy I key j) ≥ 0
    · refine Ev.pos h0 (Ev.pos h0 (Ev.pos (hG.at hw.1 hw.2) (Ev.neg (fun h => hn (.inr ⟨h0, h⟩)) next)))
    · exact Ev.neg h0 next
theorem probe_ok {I : List Int} {E : List S56} {key : ByteArray} {m : Nat} (hI : 0 < I.length ∧ I.length ≤ 100000) (hk : key.size ≤ 20) (hG : Good I E) (hE : Ends I E key m) :
    Ev (fun k => impl_Dict_probe.f k I E key) (wys I key (m + 1)) := by
  refine Ev.bind (DictHash_ok key hk) (Ev.neg (by omega) ?_)
  have := probe_l0 hI hG hE m 0 (by omega)
  have e1 : wrap64 (2 * (I.length : Int)) = 2 * I.length := w64 (by omega) (by omega)
  rw [e1, w64 (by omega) (by omega), Int.tmod_eq_emod_of_nonneg (hs_range key).1]
  exact this
end Go.Proofs.Ytihcollncjcpgaa.E
