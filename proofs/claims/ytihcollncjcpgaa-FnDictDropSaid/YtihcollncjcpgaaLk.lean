/- Words for the laws' own walks: each call's row of what it makes is only read from then on, so one chain of 'what was there stays' carries all facts. No conditions but those that each law names. -/
import Derived.Test.YtihcollncjcpgaaPx0
namespace Go.Proofs.Ytihcollncjcpgaa.P
open Go.RowKit Go.Proofs.YtihcollncjcpgaaW.PrintWords Go.Proofs.YtihcollncjcpgaaW.PrintLast Go.Proofs.YtihcollncjcpgaaW.PrintMore
set_option linter.unusedVariables false
set_option linter.unusedSimpArgs false

/-- A row that reads as a list, and its capacity. -/
def Rd {α : Type} (d : Kd α) (w : World) (A : Option Addr) (c : Nat) (l : List α) : Prop := Kd.C d w A l.length l ∧ l.length ≤ c
theorem Rd.below {α : Type} {d : Kd α} {w w1 : World} {A : Option Addr} {c : Nat} {l : List α} (h : Rd d w A c l) (hb : Below w.heap.size w w1) : Rd d w1 A c l := ⟨Kd.C_below h.1 hb, h.2⟩
theorem Rd.of {α : Type} {d : Kd α} {e base : Nat} {ok : Nat → Prop} {w : World} {v : Value} {l : List α} (h : Kd.R d e w base ok v l) : ∃ A c, v = .slice A l.length c ∧ Rd d w A c l := by
  obtain ⟨A, c, rfl⟩ := Kd.R_slice h
  exact ⟨A, c, rfl, (Kd.R_reads' h).2.2, (Kd.R_reads' h).2.1⟩
theorem tL {p : Prop} (h : p := by repeat (first | exact Below.refl _ _ | (with_reducible exact Aside0.out (by assumption)) | refine below_step ?_ (Aside0.out (by assumption)))) : p := h
theorem bW {w w1 : World} {g : Nat} {o : Obj} (h : Aside0 (w.heap[g]? = some o)) (hb : Aside0 (Below w.heap.size w w1)) : Aside0 (w1.heap[g]? = some o) := ⟨blk_below h.out hb.out⟩
theorem leS {g n : Nat} (h : Aside0 (g = n)) : n ≤ g := Nat.le_of_eq h.out.symm
section
variable {P : Program} {ops : Array Oper} {rest : List Oper} {o : Oper} {a : Act} {Q : Exit → Act → World → Prop}
/-- A store into a block that was just made. -/
theorem storeN {w W w1 : World} {g t : Nat} {cs cs' : Array Value} (hg : Aside0 (g = w.heap.size)) (hb : Aside0 (Below w.heap.size w W)) (hk : Aside0 (W.heap[g]? = some (.cells cs t (0, 0))))
    (h : ∀ w', Aside0 (w'.heap[g]? = some (.cells cs' t (0, 0))) → Aside0 (Below w.heap.size w w') → wpList P ops Q rest a w')
    (hrun : (execOp a.eval o).run P W = .ok .skip w1 := by first | (go_simp; done) | (go_simp; rfl))
    (hb' : Below w.heap.size w w1 := by (repeat refine below_set ?_ (leS (by assumption))); exact Aside0.out (by assumption))
    (hk' : w1.heap[g]? = some (.cells cs' t (0, 0)) := by repeat' (first | (with_reducible exact Aside0.out (by assumption)) | apply blk_put | rfl))
    (hgd : o.guard = none := by rfl) (hN : o.dst = none := by rfl) : wpList P ops Q (o :: rest) a W := by
  refine wpList_plain hgd fun K hK => ?_
  unfold Oper.wp
  rw [hrun]
  show K (a.put o.dst undef) w1
  rw [hN]
  exact hK _ _ (h _ ⟨hk'⟩ ⟨hb'⟩)
theorem gS {w : World} (t p : Nat) (v : Operand) (h : wpList P ops Q (o :: rest) a w) (_ho : o.op = .store t (.tmp p) v := by rfl) : wpList P ops Q (o :: rest) a w := h
end
end Go.Proofs.Ytihcollncjcpgaa.P
