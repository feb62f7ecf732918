/-
  No cell of these rows narrows 'for every input' (looked for: loops, veiled, ifaces, maps, wideKeys, modest, calm, conditions, laid).
  DERIVED. THE GIVEN ROWS OF THIS SEAT. 3 by the template 'for every input the law returns true; each argument reads behind the call as it read before'; 0 by the template 'total and deterministic' (their statements: YtelfiegocdjnoaaTotals.lean).
  GIVEN WITH THE SEED: the statements are not yours to turn. If you find one false, say at which input.
  Laid BY PROGRAM, IN A SANDBOX (cutbox-rows.mjs): the forced cells as the released guide's own fill.sh prints them over the translation c3b38fda3db0864c… (all of the seat's roots in one cut). By AI agents, Wed Nov 11 2026. No macro, syntax, notation, axiom, sorry.
-/
import Derived.Test.YtelfiegocdjnoaaChecked
import GoSem.Claim
import GoSem.ClaimJoined
import GoSem.ClaimMapViews
import Derived.JoinedTies
import Derived.KernelRfl
namespace Go.Proofs.Ytelfiegocdjnoaa
/- THE CELL 'sum', in the pinned program and in every row, IS THE sha256 OF THE DUMP (.gsa) THAT YtelfiegocdjnoaaProg.lean LOADS. Nothing in Lean hashes anything: it is a label: what it is worth is what the hold of that sum in a sandbox is worth. -/
noncomputable def Try.pinned : Pinned := { name := "ytelfiegocdjnoaa", sum := "c3b38fda3db0864c9dce67217746a182fe321781408453895e4c3cf6918e93dc", checked := Try.checked }
namespace Rows
def none {H : Type} : Left H := { results := [], args := [] }

/-- 'windrowlaw09.PagesSpares': WHATEVER THE INPUT: true; the input reads as it did. -/
def pagesSparesSpec : ChangeSpec := { name := "pagesSpares", fn := fun _ => fun
  | [d] => { results := [.lit (.bool true)], args := [d] }
  | _ => none }
def pagesSparesRow : OpenClaim := { program := "ytelfiegocdjnoaa", sum := "c3b38fda3db0864c9dce67217746a182fe321781408453895e4c3cf6918e93dc", func := "windrow/windrowlaw09.PagesSpares", spec := "pagesSpares", unfollowed := true, recurses := true, apart := false }
def PagesSparesSaid : Prop := pagesSparesRow.holds Try.pinned (OpenSpec.ofChange pagesSparesSpec)

/-- ITS FALSE NEIGHBOUR: 'it returns false'. Refute it at one input. -/
def pagesSparesWrong : ChangeSpec := { name := "pagesSpares", fn := fun _ => fun
  | [d] => { results := [.lit (.bool false)], args := [d] }
  | _ => none }
def PagesSparesWrongFalsely : Prop := pagesSparesRow.holds Try.pinned (OpenSpec.ofChange pagesSparesWrong)

/-- 'windrowlaw09.PagesSweeps': WHATEVER THE INPUT: true; the input reads as it did. -/
def pagesSweepsSpec : ChangeSpec := { name := "pagesSweeps", fn := fun _ => fun
  | [d] => { results := [.lit (.bool true)], args := [d] }
  | _ => none }
def pagesSweepsRow : OpenClaim := { program := "ytelfiegocdjnoaa", sum := "c3b38fda3db0864c9dce67217746a182fe321781408453895e4c3cf6918e93dc", func := "windrow/windrowlaw09.PagesSweeps", spec := "pagesSweeps", unfollowed := true, recurses := true, apart := false }
def PagesSweepsSaid : Prop := pagesSweepsRow.holds Try.pinned (OpenSpec.ofChange pagesSweepsSpec)

/-- ITS FALSE NEIGHBOUR: 'it returns false'. Refute it at one input. -/
def pagesSweepsWrong : ChangeSpec := { name := "pagesSweeps", fn := fun _ => fun
  | [d] => { results := [.lit (.bool false)], args := [d] }
  | _ => none }
def PagesSweepsWrongFalsely : Prop := pagesSweepsRow.holds Try.pinned (OpenSpec.ofChange pagesSweepsWrong)

/-- 'windrowlaw09.PagesGives': WHATEVER THE INPUT: true; the input reads as it did. -/
def pagesGivesSpec : ChangeSpec := { name := "pagesGives", fn := fun _ => fun
  | [d] => { results := [.lit (.bool true)], args := [d] }
  | _ => none }
def pagesGivesRow : OpenClaim := { program := "ytelfiegocdjnoaa", sum := "c3b38fda3db0864c9dce67217746a182fe321781408453895e4c3cf6918e93dc", func := "windrow/windrowlaw09.PagesGives", spec := "pagesGives", unfollowed := true, recurses := true, apart := false }
def PagesGivesSaid : Prop := pagesGivesRow.holds Try.pinned (OpenSpec.ofChange pagesGivesSpec)

/-- ITS FALSE NEIGHBOUR: 'it returns false'. Refute it at one input. -/
def pagesGivesWrong : ChangeSpec := { name := "pagesGives", fn := fun _ => fun
  | [d] => { results := [.lit (.bool false)], args := [d] }
  | _ => none }
def PagesGivesWrongFalsely : Prop := pagesGivesRow.holds Try.pinned (OpenSpec.ofChange pagesGivesWrong)

/- THE SECOND FORM. 'bulk': how many values and letters a reading holds, each counted each time it is reached (what is shared counts as often as it is met; a slice's spare places count too). A statement '..UptoSaid' is the law's where the arguments, and the package variables that the reading takes, are together of bulk at most 1048576: NARROWER than '..Said'. Prove '..Said' where nothing that the law and all that it calls make is longer than what came in: it says more and counts as full. Else prove '..UptoSaid'. A law counts once. -/
mutual
def uptoBulk {H : Type} : DataW H → Nat
  | .lit (.string bytes) => bytes.length + 1
  | .lit _ => 1
  | .nil => 1
  | .ptr d => uptoBulk d + 1
  | .slice elems spare => uptoBulkAll elems + uptoBulkAll spare + 1
  | .agg parts => uptoBulkAll parts + 1
  | .iface _ d => uptoBulk d + 1
  | .map entries => uptoBulkEntries entries + 1
  | .held _ => 1
def uptoBulkAll {H : Type} : List (DataW H) → Nat
  | [] => 0
  | d :: r => uptoBulk d + uptoBulkAll r
def uptoBulkEntries {H : Type} : List (Lit × DataW H) → Nat
  | [] => 0
  | x :: r => uptoBulkEntry x + uptoBulkEntries r
def uptoBulkEntry {H : Type} : Lit × DataW H → Nat
  | (.string bytes, d) => bytes.length + uptoBulk d + 1
  | (_, d) => uptoBulk d + 1
 end
def uptoSmall : (H : Type) → List (DataW H) → Bool := fun _ ds => decide (uptoBulkAll ds ≤ 1048576)
def OpenSpec.upto (s : _root_.Go.ChangeSpec) : _root_.Go.OpenSpec := { _root_.Go.OpenSpec.ofChange s with cond := some uptoSmall }

/-- 'windrowlaw09.PagesSpares', WHERE WHAT IT READS IS OF BULK AT MOST 1048576: true; the input reads as it did. -/
def pagesSparesUptoRow : OpenClaim := { program := "ytelfiegocdjnoaa", sum := "c3b38fda3db0864c9dce67217746a182fe321781408453895e4c3cf6918e93dc", func := "windrow/windrowlaw09.PagesSpares", spec := "pagesSpares", unfollowed := true, recurses := true, apart := false, narrowed := true }
def PagesSparesUptoSaid : Prop := pagesSparesUptoRow.holds Try.pinned (OpenSpec.upto pagesSparesSpec)

/-- 'windrowlaw09.PagesSweeps', WHERE WHAT IT READS IS OF BULK AT MOST 1048576: true; the input reads as it did. -/
def pagesSweepsUptoRow : OpenClaim := { program := "ytelfiegocdjnoaa", sum := "c3b38fda3db0864c9dce67217746a182fe321781408453895e4c3cf6918e93dc", func := "windrow/windrowlaw09.PagesSweeps", spec := "pagesSweeps", unfollowed := true, recurses := true, apart := false, narrowed := true }
def PagesSweepsUptoSaid : Prop := pagesSweepsUptoRow.holds Try.pinned (OpenSpec.upto pagesSweepsSpec)

/-- 'windrowlaw09.PagesGives', WHERE WHAT IT READS IS OF BULK AT MOST 1048576: true; the input reads as it did. -/
def pagesGivesUptoRow : OpenClaim := { program := "ytelfiegocdjnoaa", sum := "c3b38fda3db0864c9dce67217746a182fe321781408453895e4c3cf6918e93dc", func := "windrow/windrowlaw09.PagesGives", spec := "pagesGives", unfollowed := true, recurses := true, apart := false, narrowed := true }
def PagesGivesUptoSaid : Prop := pagesGivesUptoRow.holds Try.pinned (OpenSpec.upto pagesGivesSpec)

end Rows
end Go.Proofs.Ytelfiegocdjnoaa
