/-
  NARROWER THAN 'FOR EVERY INPUT', by the rows' own cells (each row's printed sentence says how): ObjectsLast: laid · ObjectsLooks: laid · ObjectsField: laid · ObjectsBack: laid · ObjectsBuilds: laid · ObjectsAll: laid · PagesNone: laid · ObjectsRefs: laid.
  DERIVED. THE GIVEN ROWS OF THIS SEAT. 8 by the template 'for every input the law returns true; each argument reads behind the call as it read before'; 0 by the template 'total and deterministic' (their statements: YtelfiegocdjnoaaDoorTotals.lean).
  GIVEN WITH THE SEED: the statements are not yours to turn. If you find one false, say at which input.
  Laid BY PROGRAM, IN A SANDBOX (cutbox-rows.mjs): the forced cells as the released guide's own fill.sh prints them over the translation 5bef017705091547… (all of the seat's roots in one cut). By AI agents, Wed Nov 11 2026. No macro, syntax, notation, axiom, sorry.
-/
import Derived.Test.YtelfiegocdjnoaaDoorChecked
import GoSem.Claim
import GoSem.ClaimJoined
import GoSem.ClaimMapViews
import Derived.JoinedTies
import Derived.KernelRfl
namespace Go.Proofs.YtelfiegocdjnoaaDoor
/- THE CELL 'sum', in the pinned program and in every row, IS THE sha256 OF THE DUMP (.gsa) THAT YtelfiegocdjnoaaDoorProg.lean LOADS. Nothing in Lean hashes anything: it is a label: what it is worth is what the hold of that sum in a sandbox is worth. -/
noncomputable def Tryd.pinned : Pinned := { name := "ytelfiegocdjnoaadoor", sum := "5bef0177050915470885ce5d2370eb1cef82b9b4c9d05f23587f0bac78183c8e", checked := Tryd.checked }
namespace Rows
def none {H : Type} : Left H := { results := [], args := [] }

/- WHAT THE LISTED PACKAGE-LEVEL VARIABLES READ AS WHEN THE CALL BEGINS. Each datum BY PROGRAM (the guide's laid-datum.mjs) off the statement by which the dump's own 'gosem.cut.vars' lays the variable. In a bare row this is a premise. The card (YtelfiegocdjnoaaDoorCards.lean) ties it to the program's text. -/
def laid_windrow_sizes_sizeOf {H : Type} : DataW H := .agg [.lit (.int .i64 2), .lit (.int .i64 3), .lit (.int .i64 4), .lit (.int .i64 6), .lit (.int .i64 8), .lit (.int .i64 12), .lit (.int .i64 16), .lit (.int .i64 32)]
def laid_math_bits_deBruijn64tab {H : Type} : DataW H := .agg [.lit (.int .u8 0), .lit (.int .u8 1), .lit (.int .u8 56), .lit (.int .u8 2), .lit (.int .u8 57), .lit (.int .u8 49), .lit (.int .u8 28), .lit (.int .u8 3), .lit (.int .u8 61), .lit (.int .u8 58), .lit (.int .u8 42), .lit (.int .u8 50), .lit (.int .u8 38), .lit (.int .u8 29), .lit (.int .u8 17), .lit (.int .u8 4), .lit (.int .u8 62), .lit (.int .u8 47), .lit (.int .u8 59), .lit (.int .u8 36), .lit (.int .u8 45), .lit (.int .u8 43), .lit (.int .u8 51), .lit (.int .u8 22), .lit (.int .u8 53), .lit (.int .u8 39), .lit (.int .u8 33), .lit (.int .u8 30), .lit (.int .u8 24), .lit (.int .u8 18), .lit (.int .u8 12), .lit (.int .u8 5), .lit (.int .u8 63), .lit (.int .u8 55), .lit (.int .u8 48), .lit (.int .u8 27), .lit (.int .u8 60), .lit (.int .u8 41), .lit (.int .u8 37), .lit (.int .u8 16), .lit (.int .u8 46), .lit (.int .u8 35), .lit (.int .u8 44), .lit (.int .u8 21), .lit (.int .u8 52), .lit (.int .u8 32), .lit (.int .u8 23), .lit (.int .u8 11), .lit (.int .u8 54), .lit (.int .u8 26), .lit (.int .u8 40), .lit (.int .u8 15), .lit (.int .u8 34), .lit (.int .u8 20), .lit (.int .u8 31), .lit (.int .u8 10), .lit (.int .u8 25), .lit (.int .u8 14), .lit (.int .u8 19), .lit (.int .u8 9), .lit (.int .u8 13), .lit (.int .u8 8), .lit (.int .u8 7), .lit (.int .u8 6)]

/-- 'windrowlaw11.ObjectsLast': WHATEVER THE INPUT: true; the input reads as it did. -/
def objectsLastSpec : ChangeSpec := { name := "objectsLast", fn := fun _ => fun
  | [d1, d2, d3] => { results := [.lit (.bool true)], args := [d1, d2, d3] }
  | _ => none }
def objectsLastRow : OpenClaim := { program := "ytelfiegocdjnoaadoor", sum := "5bef0177050915470885ce5d2370eb1cef82b9b4c9d05f23587f0bac78183c8e", func := "windrow/windrowlaw11.ObjectsLast", spec := "objectsLast", unfollowed := true, recurses := true, named := ["windrow/sizes.sizeOf"], apart := false, laid := [("windrow/sizes.sizeOf", laid_windrow_sizes_sizeOf)] }
def ObjectsLastSaid : Prop := objectsLastRow.holds Tryd.pinned (OpenSpec.ofChange objectsLastSpec)

/-- ITS FALSE NEIGHBOUR: 'it returns false'. Refute it at one input. -/
def objectsLastWrong : ChangeSpec := { name := "objectsLast", fn := fun _ => fun
  | [d1, d2, d3] => { results := [.lit (.bool false)], args := [d1, d2, d3] }
  | _ => none }
def ObjectsLastWrongFalsely : Prop := objectsLastRow.holds Tryd.pinned (OpenSpec.ofChange objectsLastWrong)

/-- 'windrowlaw11.ObjectsLooks': WHATEVER THE INPUT: true; the input reads as it did. -/
def objectsLooksSpec : ChangeSpec := { name := "objectsLooks", fn := fun _ => fun
  | [d] => { results := [.lit (.bool true)], args := [d] }
  | _ => none }
def objectsLooksRow : OpenClaim := { program := "ytelfiegocdjnoaadoor", sum := "5bef0177050915470885ce5d2370eb1cef82b9b4c9d05f23587f0bac78183c8e", func := "windrow/windrowlaw11.ObjectsLooks", spec := "objectsLooks", unfollowed := true, recurses := true, named := ["windrow/sizes.sizeOf"], apart := false, laid := [("windrow/sizes.sizeOf", laid_windrow_sizes_sizeOf)] }
def ObjectsLooksSaid : Prop := objectsLooksRow.holds Tryd.pinned (OpenSpec.ofChange objectsLooksSpec)

/-- ITS FALSE NEIGHBOUR: 'it returns false'. Refute it at one input. -/
def objectsLooksWrong : ChangeSpec := { name := "objectsLooks", fn := fun _ => fun
  | [d] => { results := [.lit (.bool false)], args := [d] }
  | _ => none }
def ObjectsLooksWrongFalsely : Prop := objectsLooksRow.holds Tryd.pinned (OpenSpec.ofChange objectsLooksWrong)

/-- 'windrowlaw11.ObjectsField': WHATEVER THE INPUT: true; the input reads as it did. -/
def objectsFieldSpec : ChangeSpec := { name := "objectsField", fn := fun _ => fun
  | [d1, d2] => { results := [.lit (.bool true)], args := [d1, d2] }
  | _ => none }
def objectsFieldRow : OpenClaim := { program := "ytelfiegocdjnoaadoor", sum := "5bef0177050915470885ce5d2370eb1cef82b9b4c9d05f23587f0bac78183c8e", func := "windrow/windrowlaw11.ObjectsField", spec := "objectsField", unfollowed := true, recurses := true, named := ["windrow/sizes.sizeOf"], apart := false, laid := [("windrow/sizes.sizeOf", laid_windrow_sizes_sizeOf)] }
def ObjectsFieldSaid : Prop := objectsFieldRow.holds Tryd.pinned (OpenSpec.ofChange objectsFieldSpec)

/-- ITS FALSE NEIGHBOUR: 'it returns false'. Refute it at one input. -/
def objectsFieldWrong : ChangeSpec := { name := "objectsField", fn := fun _ => fun
  | [d1, d2] => { results := [.lit (.bool false)], args := [d1, d2] }
  | _ => none }
def ObjectsFieldWrongFalsely : Prop := objectsFieldRow.holds Tryd.pinned (OpenSpec.ofChange objectsFieldWrong)

/-- 'windrowlaw11.ObjectsBack': WHATEVER THE INPUT: true; the input reads as it did. -/
def objectsBackSpec : ChangeSpec := { name := "objectsBack", fn := fun _ => fun
  | [d] => { results := [.lit (.bool true)], args := [d] }
  | _ => none }
def objectsBackRow : OpenClaim := { program := "ytelfiegocdjnoaadoor", sum := "5bef0177050915470885ce5d2370eb1cef82b9b4c9d05f23587f0bac78183c8e", func := "windrow/windrowlaw11.ObjectsBack", spec := "objectsBack", unfollowed := true, recurses := true, named := ["windrow/sizes.sizeOf"], apart := false, laid := [("windrow/sizes.sizeOf", laid_windrow_sizes_sizeOf)] }
def ObjectsBackSaid : Prop := objectsBackRow.holds Tryd.pinned (OpenSpec.ofChange objectsBackSpec)

/-- ITS FALSE NEIGHBOUR: 'it returns false'. Refute it at one input. -/
def objectsBackWrong : ChangeSpec := { name := "objectsBack", fn := fun _ => fun
  | [d] => { results := [.lit (.bool false)], args := [d] }
  | _ => none }
def ObjectsBackWrongFalsely : Prop := objectsBackRow.holds Tryd.pinned (OpenSpec.ofChange objectsBackWrong)

/-- 'windrowlaw11.ObjectsBuilds': WHATEVER THE INPUT: true; the input reads as it did. -/
def objectsBuildsSpec : ChangeSpec := { name := "objectsBuilds", fn := fun _ => fun
  | [d] => { results := [.lit (.bool true)], args := [d] }
  | _ => none }
def objectsBuildsRow : OpenClaim := { program := "ytelfiegocdjnoaadoor", sum := "5bef0177050915470885ce5d2370eb1cef82b9b4c9d05f23587f0bac78183c8e", func := "windrow/windrowlaw11.ObjectsBuilds", spec := "objectsBuilds", unfollowed := true, recurses := true, named := ["windrow/sizes.sizeOf"], apart := false, laid := [("windrow/sizes.sizeOf", laid_windrow_sizes_sizeOf)] }
def ObjectsBuildsSaid : Prop := objectsBuildsRow.holds Tryd.pinned (OpenSpec.ofChange objectsBuildsSpec)

/-- ITS FALSE NEIGHBOUR: 'it returns false'. Refute it at one input. -/
def objectsBuildsWrong : ChangeSpec := { name := "objectsBuilds", fn := fun _ => fun
  | [d] => { results := [.lit (.bool false)], args := [d] }
  | _ => none }
def ObjectsBuildsWrongFalsely : Prop := objectsBuildsRow.holds Tryd.pinned (OpenSpec.ofChange objectsBuildsWrong)

/-- 'windrowlaw11.ObjectsAll': WHATEVER THE INPUT: true; the input reads as it did. -/
def objectsAllSpec : ChangeSpec := { name := "objectsAll", fn := fun _ => fun
  | [d1, d2, d3] => { results := [.lit (.bool true)], args := [d1, d2, d3] }
  | _ => none }
def objectsAllRow : OpenClaim := { program := "ytelfiegocdjnoaadoor", sum := "5bef0177050915470885ce5d2370eb1cef82b9b4c9d05f23587f0bac78183c8e", func := "windrow/windrowlaw11.ObjectsAll", spec := "objectsAll", unfollowed := true, recurses := true, named := ["windrow/sizes.sizeOf", "math/bits.deBruijn64tab"], apart := false, laid := [("math/bits.deBruijn64tab", laid_math_bits_deBruijn64tab), ("windrow/sizes.sizeOf", laid_windrow_sizes_sizeOf)] }
def ObjectsAllSaid : Prop := objectsAllRow.holds Tryd.pinned (OpenSpec.ofChange objectsAllSpec)

/-- ITS FALSE NEIGHBOUR: 'it returns false'. Refute it at one input. -/
def objectsAllWrong : ChangeSpec := { name := "objectsAll", fn := fun _ => fun
  | [d1, d2, d3] => { results := [.lit (.bool false)], args := [d1, d2, d3] }
  | _ => none }
def ObjectsAllWrongFalsely : Prop := objectsAllRow.holds Tryd.pinned (OpenSpec.ofChange objectsAllWrong)

/-- 'windrowlaw09.PagesNone': WHATEVER THE INPUT: true; the input reads as it did. -/
def pagesNoneSpec : ChangeSpec := { name := "pagesNone", fn := fun _ => fun
  | [d] => { results := [.lit (.bool true)], args := [d] }
  | _ => none }
def pagesNoneRow : OpenClaim := { program := "ytelfiegocdjnoaadoor", sum := "5bef0177050915470885ce5d2370eb1cef82b9b4c9d05f23587f0bac78183c8e", func := "windrow/windrowlaw09.PagesNone", spec := "pagesNone", unfollowed := true, recurses := true, named := ["windrow/sizes.sizeOf"], apart := false, laid := [("windrow/sizes.sizeOf", laid_windrow_sizes_sizeOf)] }
def PagesNoneSaid : Prop := pagesNoneRow.holds Tryd.pinned (OpenSpec.ofChange pagesNoneSpec)

/-- ITS FALSE NEIGHBOUR: 'it returns false'. Refute it at one input. -/
def pagesNoneWrong : ChangeSpec := { name := "pagesNone", fn := fun _ => fun
  | [d] => { results := [.lit (.bool false)], args := [d] }
  | _ => none }
def PagesNoneWrongFalsely : Prop := pagesNoneRow.holds Tryd.pinned (OpenSpec.ofChange pagesNoneWrong)

/-- 'windrowlaw11.ObjectsRefs': WHATEVER THE INPUT: true; the input reads as it did. -/
def objectsRefsSpec : ChangeSpec := { name := "objectsRefs", fn := fun _ => fun
  | [d1, d2] => { results := [.lit (.bool true)], args := [d1, d2] }
  | _ => none }
def objectsRefsRow : OpenClaim := { program := "ytelfiegocdjnoaadoor", sum := "5bef0177050915470885ce5d2370eb1cef82b9b4c9d05f23587f0bac78183c8e", func := "windrow/windrowlaw11.ObjectsRefs", spec := "objectsRefs", unfollowed := true, recurses := true, named := ["windrow/sizes.sizeOf"], apart := false, laid := [("windrow/sizes.sizeOf", laid_windrow_sizes_sizeOf)] }
def ObjectsRefsSaid : Prop := objectsRefsRow.holds Tryd.pinned (OpenSpec.ofChange objectsRefsSpec)

/-- ITS FALSE NEIGHBOUR: 'it returns false'. Refute it at one input. -/
def objectsRefsWrong : ChangeSpec := { name := "objectsRefs", fn := fun _ => fun
  | [d1, d2] => { results := [.lit (.bool false)], args := [d1, d2] }
  | _ => none }
def ObjectsRefsWrongFalsely : Prop := objectsRefsRow.holds Tryd.pinned (OpenSpec.ofChange objectsRefsWrong)

/- THE SECOND FORM. 'bulk': how many values and letters a reading holds, each counted each time it is reached (what is shared counts as often as it is met; a slice's spare places count too). A statement '..UptoSaid' is the law's where the arguments, and the package variables that the reading takes, are together of bulk at most 1048576: NARROWER than '..Said'. Prove '..Said' where nothing that the law and all that it calls make is longer than what came in: it says more and counts as full. Else prove '..UptoSaid'. A law counts once. -/
mutual
def uptoBulk {H : Type} : DataW H → Nat
  | .lit (.string bytes) => bytes.length + 1
  | .lit _ => 1
  | .nil => 1
  | .ptr d => uptoBulk d + 1
  | .slice elems spare => uptoBulkAll elems + uptoBulkAll spare + 1
  | .agg parts => uptoBulkAll parts + 1
  | .iface _ d => uptoBulk d + 1
  | .map entries => uptoBulkEntries entries + 1
  | .held _ => 1
def uptoBulkAll {H : Type} : List (DataW H) → Nat
  | [] => 0
  | d :: r => uptoBulk d + uptoBulkAll r
def uptoBulkEntries {H : Type} : List (Lit × DataW H) → Nat
  | [] => 0
  | x :: r => uptoBulkEntry x + uptoBulkEntries r
def uptoBulkEntry {H : Type} : Lit × DataW H → Nat
  | (.string bytes, d) => bytes.length + uptoBulk d + 1
  | (_, d) => uptoBulk d + 1
 end
def uptoSmall : (H : Type) → List (DataW H) → Bool := fun _ ds => decide (uptoBulkAll ds ≤ 1048576)
def OpenSpec.upto (s : _root_.Go.ChangeSpec) : _root_.Go.OpenSpec := { _root_.Go.OpenSpec.ofChange s with cond := some uptoSmall }

/-- 'windrowlaw11.ObjectsLast', WHERE WHAT IT READS IS OF BULK AT MOST 1048576: true; the input reads as it did. -/
def objectsLastUptoRow : OpenClaim := { program := "ytelfiegocdjnoaadoor", sum := "5bef0177050915470885ce5d2370eb1cef82b9b4c9d05f23587f0bac78183c8e", func := "windrow/windrowlaw11.ObjectsLast", spec := "objectsLast", unfollowed := true, recurses := true, named := ["windrow/sizes.sizeOf"], apart := false, laid := [("windrow/sizes.sizeOf", laid_windrow_sizes_sizeOf)], narrowed := true }
def ObjectsLastUptoSaid : Prop := objectsLastUptoRow.holds Tryd.pinned (OpenSpec.upto objectsLastSpec)

/-- 'windrowlaw11.ObjectsLooks', WHERE WHAT IT READS IS OF BULK AT MOST 1048576: true; the input reads as it did. -/
def objectsLooksUptoRow : OpenClaim := { program := "ytelfiegocdjnoaadoor", sum := "5bef0177050915470885ce5d2370eb1cef82b9b4c9d05f23587f0bac78183c8e", func := "windrow/windrowlaw11.ObjectsLooks", spec := "objectsLooks", unfollowed := true, recurses := true, named := ["windrow/sizes.sizeOf"], apart := false, laid := [("windrow/sizes.sizeOf", laid_windrow_sizes_sizeOf)], narrowed := true }
def ObjectsLooksUptoSaid : Prop := objectsLooksUptoRow.holds Tryd.pinned (OpenSpec.upto objectsLooksSpec)

/-- 'windrowlaw11.ObjectsField', WHERE WHAT IT READS IS OF BULK AT MOST 1048576: true; the input reads as it did. -/
def objectsFieldUptoRow : OpenClaim := { program := "ytelfiegocdjnoaadoor", sum := "5bef0177050915470885ce5d2370eb1cef82b9b4c9d05f23587f0bac78183c8e", func := "windrow/windrowlaw11.ObjectsField", spec := "objectsField", unfollowed := true, recurses := true, named := ["windrow/sizes.sizeOf"], apart := false, laid := [("windrow/sizes.sizeOf", laid_windrow_sizes_sizeOf)], narrowed := true }
def ObjectsFieldUptoSaid : Prop := objectsFieldUptoRow.holds Tryd.pinned (OpenSpec.upto objectsFieldSpec)

/-- 'windrowlaw11.ObjectsBack', WHERE WHAT IT READS IS OF BULK AT MOST 1048576: true; the input reads as it did. -/
def objectsBackUptoRow : OpenClaim := { program := "ytelfiegocdjnoaadoor", sum := "5bef0177050915470885ce5d2370eb1cef82b9b4c9d05f23587f0bac78183c8e", func := "windrow/windrowlaw11.ObjectsBack", spec := "objectsBack", unfollowed := true, recurses := true, named := ["windrow/sizes.sizeOf"], apart := false, laid := [("windrow/sizes.sizeOf", laid_windrow_sizes_sizeOf)], narrowed := true }
def ObjectsBackUptoSaid : Prop := objectsBackUptoRow.holds Tryd.pinned (OpenSpec.upto objectsBackSpec)

/-- 'windrowlaw11.ObjectsBuilds', WHERE WHAT IT READS IS OF BULK AT MOST 1048576: true; the input reads as it did. -/
def objectsBuildsUptoRow : OpenClaim := { program := "ytelfiegocdjnoaadoor", sum := "5bef0177050915470885ce5d2370eb1cef82b9b4c9d05f23587f0bac78183c8e", func := "windrow/windrowlaw11.ObjectsBuilds", spec := "objectsBuilds", unfollowed := true, recurses := true, named := ["windrow/sizes.sizeOf"], apart := false, laid := [("windrow/sizes.sizeOf", laid_windrow_sizes_sizeOf)], narrowed := true }
def ObjectsBuildsUptoSaid : Prop := objectsBuildsUptoRow.holds Tryd.pinned (OpenSpec.upto objectsBuildsSpec)

/-- 'windrowlaw11.ObjectsAll', WHERE WHAT IT READS IS OF BULK AT MOST 1048576: true; the input reads as it did. -/
def objectsAllUptoRow : OpenClaim := { program := "ytelfiegocdjnoaadoor", sum := "5bef0177050915470885ce5d2370eb1cef82b9b4c9d05f23587f0bac78183c8e", func := "windrow/windrowlaw11.ObjectsAll", spec := "objectsAll", unfollowed := true, recurses := true, named := ["windrow/sizes.sizeOf", "math/bits.deBruijn64tab"], apart := false, laid := [("math/bits.deBruijn64tab", laid_math_bits_deBruijn64tab), ("windrow/sizes.sizeOf", laid_windrow_sizes_sizeOf)], narrowed := true }
def ObjectsAllUptoSaid : Prop := objectsAllUptoRow.holds Tryd.pinned (OpenSpec.upto objectsAllSpec)

/-- 'windrowlaw09.PagesNone', WHERE WHAT IT READS IS OF BULK AT MOST 1048576: true; the input reads as it did. -/
def pagesNoneUptoRow : OpenClaim := { program := "ytelfiegocdjnoaadoor", sum := "5bef0177050915470885ce5d2370eb1cef82b9b4c9d05f23587f0bac78183c8e", func := "windrow/windrowlaw09.PagesNone", spec := "pagesNone", unfollowed := true, recurses := true, named := ["windrow/sizes.sizeOf"], apart := false, laid := [("windrow/sizes.sizeOf", laid_windrow_sizes_sizeOf)], narrowed := true }
def PagesNoneUptoSaid : Prop := pagesNoneUptoRow.holds Tryd.pinned (OpenSpec.upto pagesNoneSpec)

/-- 'windrowlaw11.ObjectsRefs', WHERE WHAT IT READS IS OF BULK AT MOST 1048576: true; the input reads as it did. -/
def objectsRefsUptoRow : OpenClaim := { program := "ytelfiegocdjnoaadoor", sum := "5bef0177050915470885ce5d2370eb1cef82b9b4c9d05f23587f0bac78183c8e", func := "windrow/windrowlaw11.ObjectsRefs", spec := "objectsRefs", unfollowed := true, recurses := true, named := ["windrow/sizes.sizeOf"], apart := false, laid := [("windrow/sizes.sizeOf", laid_windrow_sizes_sizeOf)], narrowed := true }
def ObjectsRefsUptoSaid : Prop := objectsRefsUptoRow.holds Tryd.pinned (OpenSpec.upto objectsRefsSpec)

end Rows
end Go.Proofs.YtelfiegocdjnoaaDoor
