/- Words for the laws' own walks: each call's row of what it makes is only read from then on, so one chain of 'what was there stays' carries all facts. No conditions but those that each law names. -/
import Derived.Test.YtihcollncjcpgaaEx0
namespace Go.Proofs.Ytihcollncjcpgaa.E
open Go.RowKit Go.Proofs.YtihcollncjcpgaaW.PrintWords Go.Proofs.YtihcollncjcpgaaW.PrintLast Go.Proofs.YtihcollncjcpgaaW.PrintMore
set_option linter.unusedVariables false
set_option linter.unusedSimpArgs false

/-- A row that reads as a list, and its capacity. -/
def Rd {α : Type} (d : Kd α) (w : World) (A : Option Addr) (c : Nat) (l : List α) : Prop := Kd.C d w A l.length l ∧ l.length ≤ c
theorem Rd.below {α : Type} {d : Kd α} {w w1 : World} {A : Option Addr} {c : Nat} {l : List α} (h : Rd d w A c l) (hb : Below w.heap.size w w1) : Rd d w1 A c l := ⟨Kd.C_below h.1 hb, h.2⟩
theorem Rd.of {α : Type} {d : Kd α} {e base : Nat} {ok : Nat → Prop} {w : World} {v : Value} {l : List α} (h : Kd.R d e w base ok v l) : ∃ A c, v = .slice A l.length c ∧ Rd d w A c l := by
  obtain ⟨A, c, rfl⟩ := Kd.R_slice h
  exact ⟨A, c, rfl, (Kd.R_reads' h).2.2, (Kd.R_reads' h).2.1⟩
theorem tL {p : Prop} (h : p := by repeat (first | exact Below.refl _ _ | (with_reducible exact Aside0.out (by assumption)) | refine below_step ?_ (Aside0.out (by assumption)))) : p := h
theorem bW {w w1 : World} {g : Nat} {o : Obj} (h : Aside0 (w.heap[g]? = some o)) (hb : Aside0 (Below w.heap.size w w1)) : Aside0 (w1.heap[g]? = some o) := ⟨blk_below h.out hb.out⟩
theorem leS {g n : Nat} (h : Aside0 (g = n)) : n ≤ g := Nat.le_of_eq h.out.symm
section
variable {P : Program} {ops : Array Oper} {rest : List Oper} {o : Oper} {a : Act} {Q : Exit → Act → World → Prop}
/-- A store into a block that was just made. -/
theorem storeN {w W w1 : World} {g t : Nat} {cs cs' : Array Value} (hg : Aside0 (g = w.heap.size)) (hb : Aside0 (Below w.heap.size w W)) (hk : Aside0 (W.heap[g]? = some (.cells cs t (0, 0))))
    (h : ∀ w', Aside0 (w'.heap[g]? = some (.cells cs' t (0, 0))) → Aside0 (Below w.heap.size w w') → wpList P ops Q rest a w')
    (hrun : (execOp a.eval o).run P W = .ok .skip w1 := by first | (go_simp; done) | (go_simp; rfl))
    (hb' : Below w.heap.size w w1 := by (repeat refine below_set ?_ (leS (by assumption))); exact Aside0.out (by assumption))
    (hk' : w1.heap[g]? = some (.cells cs' t (0, 0)) := by repeat' (first | (with_reducible exact Aside0.out (by assumption)) | apply blk_put | rfl))
    (hgd : o.guard = none := by rfl) (hN : o.dst = none := by rfl) : wpList P ops Q (o :: rest) a W := by
  refine wpList_plain hgd fun K hK => ?_
  unfold Oper.wp
  rw [hrun]
  show K (a.put o.dst undef) w1
  rw [hN]
  exact hK _ _ (h _ ⟨hk'⟩ ⟨hb'⟩)
theorem gS {w : World} (t p : Nat) (v : Operand) (h : wpList P ops Q (o :: rest) a w) (_ho : o.op = .store t (.tmp p) v := by rfl) : wpList P ops Q (o :: rest) a w := h
end
section
variable {P : Program} {ops : Array Oper} {Q : Exit → Act → World → Prop} {md : Region.Mode} {S : World → Prop} {ds : List Nat}
/-- A call inside a region that draws its order. -/
theorem callN (i t : Nat) {f : FuncId} {fn : Func} {oi : Oper} {as_ : Array Operand} {ts : Array TypeId} {fuel : Nat} {l : Array Bool} {a : Act} {w : World} (hf : P.funcs[f]? = some fn) (args : Array Value)
    (h : Calls P f args w fun e w' => ∃ v, e = .returned v ∧ S w' ∧ ∀ a', a.put (some t) v = a' → S w' → wpAnyLast P md ops Q S ds fuel (l.setIfInBounds i true) a' w')
    (hi : ops[i]? = some oi := by rfl) (hN : oi.dst = some t := by rfl) (hc : readyB md ops l (l.setIfInBounds i true) i = true := by exact one_of HT_.out (by kernel_rfl)) (hd : i ∉ ds := by decide)
    (hname : (fn.name == "runtime.NumGoroutine") = false := by kernel_rfl) (hb : fn.body.isSome = true := by rfl) (hw : Region.wanted oi (yielded ops a.tmps) = true := by rfl)
    (hop : oi.op = .call { callee := .value (.func f), args := as_, argTypes := ts } := by rfl) (hargs : as_.map a.eval = args := by (try simp only [List.map_toArray, List.map_cons, List.map_nil]); first | done | rfl | (simp only [List.length_drop, List.length_take]; rfl)) :
    wpAnyLast P md ops Q S ds (fuel + 1) l a w :=
  oN i t (fun K hK => goes_ hf hname hb args hw hN hop hargs (h.mono fun e w' ⟨v, he, hS, k⟩ => ⟨v, he, hK.out _ _ hS (fun s => k _ rfl s)⟩)) hi hN hc hd
end
theorem bD (w : World) : Aside0 (Below w.heap.size w w.drew) := ⟨below_drew1 (Below.refl _ _)⟩
theorem cl {w : World} {g : Nat} {t : TypeId} {cs : Array Value} {u : Value} (h : Aside0 (w.heap[g]? = some (.cells cs t (0, 0)))) (i : Nat) (e : cs[i]? = some u := by rfl) : w.cell? ⟨g, i, none⟩ = some u := cA h i e
end Go.Proofs.Ytihcollncjcpgaa.E
