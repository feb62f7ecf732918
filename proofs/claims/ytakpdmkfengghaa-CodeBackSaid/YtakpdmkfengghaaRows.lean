/-
  No cell of these rows narrows 'for every input' (looked for: loops, veiled, ifaces, maps, wideKeys, modest, calm, conditions, laid).
  DERIVED. THE GIVEN ROWS OF THIS SEAT. 5 by the template 'for every input the law returns true; each argument reads behind the call as it read before'; 0 by the template 'total and deterministic' (their statements: YtakpdmkfengghaaTotals.lean).
  GIVEN WITH THE SEED: the statements are not yours to turn. If you find one false, say at which input.
  Laid BY PROGRAM, IN A SANDBOX (cutbox-rows.mjs): the forced cells as the released guide's own fill.sh prints them over the translation d0dd6b9762f0d90a… (all of the seat's roots in one cut). By AI agents, Wed Nov 11 2026. No macro, syntax, notation, axiom, sorry.
-/
import Derived.Test.YtakpdmkfengghaaChecked
import GoSem.Claim
import GoSem.ClaimJoined
import GoSem.ClaimMapViews
import Derived.JoinedTies
import Derived.KernelRfl
namespace Go.Proofs.Ytakpdmkfengghaa
/- THE CELL 'sum', in the pinned program and in every row, IS THE sha256 OF THE DUMP (.gsa) THAT YtakpdmkfengghaaProg.lean LOADS. Nothing in Lean hashes anything: it is a label: what it is worth is what the hold of that sum in a sandbox is worth. -/
noncomputable def Try.pinned : Pinned := { name := "ytakpdmkfengghaa", sum := "d0dd6b9762f0d90aeb2488dd61a99eaf0ee382ffe2049760b84cbd5829dcb890", checked := Try.checked }
namespace Rows
def none {H : Type} : Left H := { results := [], args := [] }

/-- 'windrowlaw13.CodeRight': WHATEVER THE INPUT: true; the input reads as it did. -/
def codeRightSpec : ChangeSpec := { name := "codeRight", fn := fun _ => fun
  | [d] => { results := [.lit (.bool true)], args := [d] }
  | _ => none }
def codeRightRow : OpenClaim := { program := "ytakpdmkfengghaa", sum := "d0dd6b9762f0d90aeb2488dd61a99eaf0ee382ffe2049760b84cbd5829dcb890", func := "windrow/windrowlaw13.CodeRight", spec := "codeRight", apart := false }
def CodeRightSaid : Prop := codeRightRow.holds Try.pinned (OpenSpec.ofChange codeRightSpec)

/-- ITS FALSE NEIGHBOUR: 'it returns false'. Refute it at one input. -/
def codeRightWrong : ChangeSpec := { name := "codeRight", fn := fun _ => fun
  | [d] => { results := [.lit (.bool false)], args := [d] }
  | _ => none }
def CodeRightWrongFalsely : Prop := codeRightRow.holds Try.pinned (OpenSpec.ofChange codeRightWrong)

/-- 'windrowlaw13.CodeWrites': WHATEVER THE INPUT: true; the input reads as it did. -/
def codeWritesSpec : ChangeSpec := { name := "codeWrites", fn := fun _ => fun
  | [d] => { results := [.lit (.bool true)], args := [d] }
  | _ => none }
def codeWritesRow : OpenClaim := { program := "ytakpdmkfengghaa", sum := "d0dd6b9762f0d90aeb2488dd61a99eaf0ee382ffe2049760b84cbd5829dcb890", func := "windrow/windrowlaw13.CodeWrites", spec := "codeWrites", apart := false }
def CodeWritesSaid : Prop := codeWritesRow.holds Try.pinned (OpenSpec.ofChange codeWritesSpec)

/-- ITS FALSE NEIGHBOUR: 'it returns false'. Refute it at one input. -/
def codeWritesWrong : ChangeSpec := { name := "codeWrites", fn := fun _ => fun
  | [d] => { results := [.lit (.bool false)], args := [d] }
  | _ => none }
def CodeWritesWrongFalsely : Prop := codeWritesRow.holds Try.pinned (OpenSpec.ofChange codeWritesWrong)

/-- 'windrowlaw13.CodeCopies': WHATEVER THE INPUT: true; the input reads as it did. -/
def codeCopiesSpec : ChangeSpec := { name := "codeCopies", fn := fun _ => fun
  | [d] => { results := [.lit (.bool true)], args := [d] }
  | _ => none }
def codeCopiesRow : OpenClaim := { program := "ytakpdmkfengghaa", sum := "d0dd6b9762f0d90aeb2488dd61a99eaf0ee382ffe2049760b84cbd5829dcb890", func := "windrow/windrowlaw13.CodeCopies", spec := "codeCopies", apart := false }
def CodeCopiesSaid : Prop := codeCopiesRow.holds Try.pinned (OpenSpec.ofChange codeCopiesSpec)

/-- ITS FALSE NEIGHBOUR: 'it returns false'. Refute it at one input. -/
def codeCopiesWrong : ChangeSpec := { name := "codeCopies", fn := fun _ => fun
  | [d] => { results := [.lit (.bool false)], args := [d] }
  | _ => none }
def CodeCopiesWrongFalsely : Prop := codeCopiesRow.holds Try.pinned (OpenSpec.ofChange codeCopiesWrong)

/-- 'windrowlaw13.CodeEqual': WHATEVER THE INPUT: true; the input reads as it did. -/
def codeEqualSpec : ChangeSpec := { name := "codeEqual", fn := fun _ => fun
  | [d1, d2] => { results := [.lit (.bool true)], args := [d1, d2] }
  | _ => none }
def codeEqualRow : OpenClaim := { program := "ytakpdmkfengghaa", sum := "d0dd6b9762f0d90aeb2488dd61a99eaf0ee382ffe2049760b84cbd5829dcb890", func := "windrow/windrowlaw13.CodeEqual", spec := "codeEqual", apart := false }
def CodeEqualSaid : Prop := codeEqualRow.holds Try.pinned (OpenSpec.ofChange codeEqualSpec)

/-- ITS FALSE NEIGHBOUR: 'it returns false'. Refute it at one input. -/
def codeEqualWrong : ChangeSpec := { name := "codeEqual", fn := fun _ => fun
  | [d1, d2] => { results := [.lit (.bool false)], args := [d1, d2] }
  | _ => none }
def CodeEqualWrongFalsely : Prop := codeEqualRow.holds Try.pinned (OpenSpec.ofChange codeEqualWrong)

/-- 'windrowlaw13.CodeBack': WHATEVER THE INPUT: true; the input reads as it did. -/
def codeBackSpec : ChangeSpec := { name := "codeBack", fn := fun _ => fun
  | [d1, d2, d3] => { results := [.lit (.bool true)], args := [d1, d2, d3] }
  | _ => none }
def codeBackRow : OpenClaim := { program := "ytakpdmkfengghaa", sum := "d0dd6b9762f0d90aeb2488dd61a99eaf0ee382ffe2049760b84cbd5829dcb890", func := "windrow/windrowlaw13.CodeBack", spec := "codeBack", apart := false }
def CodeBackSaid : Prop := codeBackRow.holds Try.pinned (OpenSpec.ofChange codeBackSpec)

/-- ITS FALSE NEIGHBOUR: 'it returns false'. Refute it at one input. -/
def codeBackWrong : ChangeSpec := { name := "codeBack", fn := fun _ => fun
  | [d1, d2, d3] => { results := [.lit (.bool false)], args := [d1, d2, d3] }
  | _ => none }
def CodeBackWrongFalsely : Prop := codeBackRow.holds Try.pinned (OpenSpec.ofChange codeBackWrong)

/- THE SECOND FORM. 'bulk': how many values and letters a reading holds, each counted each time it is reached (what is shared counts as often as it is met; a slice's spare places count too). A statement '..UptoSaid' is the law's where the arguments, and the package variables that the reading takes, are together of bulk at most 1048576: NARROWER than '..Said'. Prove '..Said' where nothing that the law and all that it calls make is longer than what came in: it says more and counts as full. Else prove '..UptoSaid'. A law counts once. -/
mutual
def uptoBulk {H : Type} : DataW H → Nat
  | .lit (.string bytes) => bytes.length + 1
  | .lit _ => 1
  | .nil => 1
  | .ptr d => uptoBulk d + 1
  | .slice elems spare => uptoBulkAll elems + uptoBulkAll spare + 1
  | .agg parts => uptoBulkAll parts + 1
  | .iface _ d => uptoBulk d + 1
  | .map entries => uptoBulkEntries entries + 1
  | .held _ => 1
def uptoBulkAll {H : Type} : List (DataW H) → Nat
  | [] => 0
  | d :: r => uptoBulk d + uptoBulkAll r
def uptoBulkEntries {H : Type} : List (Lit × DataW H) → Nat
  | [] => 0
  | x :: r => uptoBulkEntry x + uptoBulkEntries r
def uptoBulkEntry {H : Type} : Lit × DataW H → Nat
  | (.string bytes, d) => bytes.length + uptoBulk d + 1
  | (_, d) => uptoBulk d + 1
 end
def uptoSmall : (H : Type) → List (DataW H) → Bool := fun _ ds => decide (uptoBulkAll ds ≤ 1048576)
def OpenSpec.upto (s : _root_.Go.ChangeSpec) : _root_.Go.OpenSpec := { _root_.Go.OpenSpec.ofChange s with cond := some uptoSmall }

/-- 'windrowlaw13.CodeRight', WHERE WHAT IT READS IS OF BULK AT MOST 1048576: true; the input reads as it did. -/
def codeRightUptoRow : OpenClaim := { program := "ytakpdmkfengghaa", sum := "d0dd6b9762f0d90aeb2488dd61a99eaf0ee382ffe2049760b84cbd5829dcb890", func := "windrow/windrowlaw13.CodeRight", spec := "codeRight", apart := false, narrowed := true }
def CodeRightUptoSaid : Prop := codeRightUptoRow.holds Try.pinned (OpenSpec.upto codeRightSpec)

/-- 'windrowlaw13.CodeWrites', WHERE WHAT IT READS IS OF BULK AT MOST 1048576: true; the input reads as it did. -/
def codeWritesUptoRow : OpenClaim := { program := "ytakpdmkfengghaa", sum := "d0dd6b9762f0d90aeb2488dd61a99eaf0ee382ffe2049760b84cbd5829dcb890", func := "windrow/windrowlaw13.CodeWrites", spec := "codeWrites", apart := false, narrowed := true }
def CodeWritesUptoSaid : Prop := codeWritesUptoRow.holds Try.pinned (OpenSpec.upto codeWritesSpec)

/-- 'windrowlaw13.CodeCopies', WHERE WHAT IT READS IS OF BULK AT MOST 1048576: true; the input reads as it did. -/
def codeCopiesUptoRow : OpenClaim := { program := "ytakpdmkfengghaa", sum := "d0dd6b9762f0d90aeb2488dd61a99eaf0ee382ffe2049760b84cbd5829dcb890", func := "windrow/windrowlaw13.CodeCopies", spec := "codeCopies", apart := false, narrowed := true }
def CodeCopiesUptoSaid : Prop := codeCopiesUptoRow.holds Try.pinned (OpenSpec.upto codeCopiesSpec)

/-- 'windrowlaw13.CodeEqual', WHERE WHAT IT READS IS OF BULK AT MOST 1048576: true; the input reads as it did. -/
def codeEqualUptoRow : OpenClaim := { program := "ytakpdmkfengghaa", sum := "d0dd6b9762f0d90aeb2488dd61a99eaf0ee382ffe2049760b84cbd5829dcb890", func := "windrow/windrowlaw13.CodeEqual", spec := "codeEqual", apart := false, narrowed := true }
def CodeEqualUptoSaid : Prop := codeEqualUptoRow.holds Try.pinned (OpenSpec.upto codeEqualSpec)

/-- 'windrowlaw13.CodeBack', WHERE WHAT IT READS IS OF BULK AT MOST 1048576: true; the input reads as it did. -/
def codeBackUptoRow : OpenClaim := { program := "ytakpdmkfengghaa", sum := "d0dd6b9762f0d90aeb2488dd61a99eaf0ee382ffe2049760b84cbd5829dcb890", func := "windrow/windrowlaw13.CodeBack", spec := "codeBack", apart := false, narrowed := true }
def CodeBackUptoSaid : Prop := codeBackUptoRow.holds Try.pinned (OpenSpec.upto codeBackSpec)

end Rows
end Go.Proofs.Ytakpdmkfengghaa
