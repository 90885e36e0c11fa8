/-
  No cell of these rows narrows 'for every input' (looked for: loops, veiled, ifaces, maps, wideKeys, modest, calm, conditions, laid).
  DERIVED. THE GIVEN ROWS OF THIS SEAT. 5 by the template 'for every input the law returns true; each argument reads behind the call as it read before'; 0 by the template 'total and deterministic' (their statements: YtihcollncjcpgaaTotals.lean).
  GIVEN WITH THE SEED: the statements are not yours to turn. If you find one false, say at which input.
  Laid BY PROGRAM, IN A SANDBOX (cutbox-rows.mjs): the forced cells as the released guide's own fill.sh prints them over the translation cab0fe82bca2756d… (all of the seat's roots in one cut). By AI agents, Wed Nov 11 2026. No macro, syntax, notation, axiom, sorry.
-/
import Derived.Test.YtihcollncjcpgaaChecked
import GoSem.Claim
import GoSem.ClaimJoined
import GoSem.ClaimMapViews
import Derived.JoinedTies
import Derived.KernelRfl
namespace Go.Proofs.Ytihcollncjcpgaa
/- THE CELL 'sum', in the pinned program and in every row, IS THE sha256 OF THE DUMP (.gsa) THAT YtihcollncjcpgaaProg.lean LOADS. Nothing in Lean hashes anything: it is a label: what it is worth is what the hold of that sum in a sandbox is worth. -/
noncomputable def Try.pinned : Pinned := { name := "ytihcollncjcpgaa", sum := "cab0fe82bca2756d855e6a875197fb828e74e80f2705e3379b63a06cae863489", checked := Try.checked }
namespace Rows
def none {H : Type} : Left H := { results := [], args := [] }

/-- 'laws.FnDictDrop': WHATEVER THE INPUT: true; the input reads as it did. -/
def fnDictDropSpec : ChangeSpec := { name := "fnDictDrop", fn := fun _ => fun
  | [d] => { results := [.lit (.bool true)], args := [d] }
  | _ => none }
def fnDictDropRow : OpenClaim := { program := "ytihcollncjcpgaa", sum := "cab0fe82bca2756d855e6a875197fb828e74e80f2705e3379b63a06cae863489", func := "loop.example/slowworm/laws.FnDictDrop", spec := "fnDictDrop", apart := false }
def FnDictDropSaid : Prop := fnDictDropRow.holds Try.pinned (OpenSpec.ofChange fnDictDropSpec)

/-- ITS FALSE NEIGHBOUR: 'it returns false'. Refute it at one input. -/
def fnDictDropWrong : ChangeSpec := { name := "fnDictDrop", fn := fun _ => fun
  | [d] => { results := [.lit (.bool false)], args := [d] }
  | _ => none }
def FnDictDropWrongFalsely : Prop := fnDictDropRow.holds Try.pinned (OpenSpec.ofChange fnDictDropWrong)

/-- 'laws.FnDictAgain': WHATEVER THE INPUT: true; the input reads as it did. -/
def fnDictAgainSpec : ChangeSpec := { name := "fnDictAgain", fn := fun _ => fun
  | [d] => { results := [.lit (.bool true)], args := [d] }
  | _ => none }
def fnDictAgainRow : OpenClaim := { program := "ytihcollncjcpgaa", sum := "cab0fe82bca2756d855e6a875197fb828e74e80f2705e3379b63a06cae863489", func := "loop.example/slowworm/laws.FnDictAgain", spec := "fnDictAgain", apart := false }
def FnDictAgainSaid : Prop := fnDictAgainRow.holds Try.pinned (OpenSpec.ofChange fnDictAgainSpec)

/-- ITS FALSE NEIGHBOUR: 'it returns false'. Refute it at one input. -/
def fnDictAgainWrong : ChangeSpec := { name := "fnDictAgain", fn := fun _ => fun
  | [d] => { results := [.lit (.bool false)], args := [d] }
  | _ => none }
def FnDictAgainWrongFalsely : Prop := fnDictAgainRow.holds Try.pinned (OpenSpec.ofChange fnDictAgainWrong)

/-- 'laws.FnDictSet': WHATEVER THE INPUT: true; the input reads as it did. -/
def fnDictSetSpec : ChangeSpec := { name := "fnDictSet", fn := fun _ => fun
  | [d] => { results := [.lit (.bool true)], args := [d] }
  | _ => none }
def fnDictSetRow : OpenClaim := { program := "ytihcollncjcpgaa", sum := "cab0fe82bca2756d855e6a875197fb828e74e80f2705e3379b63a06cae863489", func := "loop.example/slowworm/laws.FnDictSet", spec := "fnDictSet", apart := false }
def FnDictSetSaid : Prop := fnDictSetRow.holds Try.pinned (OpenSpec.ofChange fnDictSetSpec)

/-- ITS FALSE NEIGHBOUR: 'it returns false'. Refute it at one input. -/
def fnDictSetWrong : ChangeSpec := { name := "fnDictSet", fn := fun _ => fun
  | [d] => { results := [.lit (.bool false)], args := [d] }
  | _ => none }
def FnDictSetWrongFalsely : Prop := fnDictSetRow.holds Try.pinned (OpenSpec.ofChange fnDictSetWrong)

/-- 'laws.FnExactDictSet': WHATEVER THE INPUT: true; the input reads as it did. -/
def fnExactDictSetSpec : ChangeSpec := { name := "fnExactDictSet", fn := fun _ => fun
  | [d1, d2, d3] => { results := [.lit (.bool true)], args := [d1, d2, d3] }
  | _ => none }
def fnExactDictSetRow : OpenClaim := { program := "ytihcollncjcpgaa", sum := "cab0fe82bca2756d855e6a875197fb828e74e80f2705e3379b63a06cae863489", func := "loop.example/slowworm/laws.FnExactDictSet", spec := "fnExactDictSet", apart := false }
def FnExactDictSetSaid : Prop := fnExactDictSetRow.holds Try.pinned (OpenSpec.ofChange fnExactDictSetSpec)

/-- ITS FALSE NEIGHBOUR: 'it returns false'. Refute it at one input. -/
def fnExactDictSetWrong : ChangeSpec := { name := "fnExactDictSet", fn := fun _ => fun
  | [d1, d2, d3] => { results := [.lit (.bool false)], args := [d1, d2, d3] }
  | _ => none }
def FnExactDictSetWrongFalsely : Prop := fnExactDictSetRow.holds Try.pinned (OpenSpec.ofChange fnExactDictSetWrong)

/-- 'laws.FnDictUndone': WHATEVER THE INPUT: true; the input reads as it did. -/
def fnDictUndoneSpec : ChangeSpec := { name := "fnDictUndone", fn := fun _ => fun
  | [d] => { results := [.lit (.bool true)], args := [d] }
  | _ => none }
def fnDictUndoneRow : OpenClaim := { program := "ytihcollncjcpgaa", sum := "cab0fe82bca2756d855e6a875197fb828e74e80f2705e3379b63a06cae863489", func := "loop.example/slowworm/laws.FnDictUndone", spec := "fnDictUndone", apart := false }
def FnDictUndoneSaid : Prop := fnDictUndoneRow.holds Try.pinned (OpenSpec.ofChange fnDictUndoneSpec)

/-- ITS FALSE NEIGHBOUR: 'it returns false'. Refute it at one input. -/
def fnDictUndoneWrong : ChangeSpec := { name := "fnDictUndone", fn := fun _ => fun
  | [d] => { results := [.lit (.bool false)], args := [d] }
  | _ => none }
def FnDictUndoneWrongFalsely : Prop := fnDictUndoneRow.holds Try.pinned (OpenSpec.ofChange fnDictUndoneWrong)

/- THE SECOND FORM. 'bulk': how many values and letters a reading holds, each counted each time it is reached (what is shared counts as often as it is met; a slice's spare places count too). A statement '..UptoSaid' is the law's where the arguments, and the package variables that the reading takes, are together of bulk at most 1048576: NARROWER than '..Said'. Prove '..Said' where nothing that the law and all that it calls make is longer than what came in: it says more and counts as full. Else prove '..UptoSaid'. A law counts once. -/
mutual
def uptoBulk {H : Type} : DataW H → Nat
  | .lit (.string bytes) => bytes.length + 1
  | .lit _ => 1
  | .nil => 1
  | .ptr d => uptoBulk d + 1
  | .slice elems spare => uptoBulkAll elems + uptoBulkAll spare + 1
  | .agg parts => uptoBulkAll parts + 1
  | .iface _ d => uptoBulk d + 1
  | .map entries => uptoBulkEntries entries + 1
  | .held _ => 1
def uptoBulkAll {H : Type} : List (DataW H) → Nat
  | [] => 0
  | d :: r => uptoBulk d + uptoBulkAll r
def uptoBulkEntries {H : Type} : List (Lit × DataW H) → Nat
  | [] => 0
  | x :: r => uptoBulkEntry x + uptoBulkEntries r
def uptoBulkEntry {H : Type} : Lit × DataW H → Nat
  | (.string bytes, d) => bytes.length + uptoBulk d + 1
  | (_, d) => uptoBulk d + 1
 end
def uptoSmall : (H : Type) → List (DataW H) → Bool := fun _ ds => decide (uptoBulkAll ds ≤ 1048576)
def OpenSpec.upto (s : _root_.Go.ChangeSpec) : _root_.Go.OpenSpec := { _root_.Go.OpenSpec.ofChange s with cond := some uptoSmall }

/-- 'laws.FnDictDrop', WHERE WHAT IT READS IS OF BULK AT MOST 1048576: true; the input reads as it did. -/
def fnDictDropUptoRow : OpenClaim := { program := "ytihcollncjcpgaa", sum := "cab0fe82bca2756d855e6a875197fb828e74e80f2705e3379b63a06cae863489", func := "loop.example/slowworm/laws.FnDictDrop", spec := "fnDictDrop", apart := false, narrowed := true }
def FnDictDropUptoSaid : Prop := fnDictDropUptoRow.holds Try.pinned (OpenSpec.upto fnDictDropSpec)

/-- 'laws.FnDictAgain', WHERE WHAT IT READS IS OF BULK AT MOST 1048576: true; the input reads as it did. -/
def fnDictAgainUptoRow : OpenClaim := { program := "ytihcollncjcpgaa", sum := "cab0fe82bca2756d855e6a875197fb828e74e80f2705e3379b63a06cae863489", func := "loop.example/slowworm/laws.FnDictAgain", spec := "fnDictAgain", apart := false, narrowed := true }
def FnDictAgainUptoSaid : Prop := fnDictAgainUptoRow.holds Try.pinned (OpenSpec.upto fnDictAgainSpec)

/-- 'laws.FnDictSet', WHERE WHAT IT READS IS OF BULK AT MOST 1048576: true; the input reads as it did. -/
def fnDictSetUptoRow : OpenClaim := { program := "ytihcollncjcpgaa", sum := "cab0fe82bca2756d855e6a875197fb828e74e80f2705e3379b63a06cae863489", func := "loop.example/slowworm/laws.FnDictSet", spec := "fnDictSet", apart := false, narrowed := true }
def FnDictSetUptoSaid : Prop := fnDictSetUptoRow.holds Try.pinned (OpenSpec.upto fnDictSetSpec)

/-- 'laws.FnExactDictSet', WHERE WHAT IT READS IS OF BULK AT MOST 1048576: true; the input reads as it did. -/
def fnExactDictSetUptoRow : OpenClaim := { program := "ytihcollncjcpgaa", sum := "cab0fe82bca2756d855e6a875197fb828e74e80f2705e3379b63a06cae863489", func := "loop.example/slowworm/laws.FnExactDictSet", spec := "fnExactDictSet", apart := false, narrowed := true }
def FnExactDictSetUptoSaid : Prop := fnExactDictSetUptoRow.holds Try.pinned (OpenSpec.upto fnExactDictSetSpec)

/-- 'laws.FnDictUndone', WHERE WHAT IT READS IS OF BULK AT MOST 1048576: true; the input reads as it did. -/
def fnDictUndoneUptoRow : OpenClaim := { program := "ytihcollncjcpgaa", sum := "cab0fe82bca2756d855e6a875197fb828e74e80f2705e3379b63a06cae863489", func := "loop.example/slowworm/laws.FnDictUndone", spec := "fnDictUndone", apart := false, narrowed := true }
def FnDictUndoneUptoSaid : Prop := fnDictUndoneUptoRow.holds Try.pinned (OpenSpec.upto fnDictUndoneSpec)

end Rows
end Go.Proofs.Ytihcollncjcpgaa
