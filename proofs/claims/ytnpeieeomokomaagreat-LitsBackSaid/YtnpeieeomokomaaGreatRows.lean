/-
  No cell of these rows narrows 'for every input' (looked for: loops, veiled, ifaces, maps, wideKeys, modest, calm, conditions, laid).
  DERIVED. THE GIVEN ROWS OF THIS SEAT. 6 by the template 'for every input the law returns true; each argument reads behind the call as it read before'; 0 by the template 'total and deterministic' (their statements: YtnpeieeomokomaaGreatTotals.lean).
  GIVEN WITH THE SEED: the statements are not yours to turn. If you find one false, say at which input.
  Laid BY PROGRAM, IN A SANDBOX (cutbox-rows.mjs): the forced cells as the released guide's own fill.sh prints them over the translation 4cd1354e7a0f9291… (all of the seat's roots in one cut). By AI agents, Wed Nov 11 2026. No macro, syntax, notation, axiom, sorry.
-/
import Derived.Test.YtnpeieeomokomaaGreatChecked
import GoSem.Claim
import GoSem.ClaimJoined
import GoSem.ClaimMapViews
import Derived.JoinedTies
import Derived.KernelRfl
namespace Go.Proofs.YtnpeieeomokomaaGreat
/- THE CELL 'sum', in the pinned program and in every row, IS THE sha256 OF THE DUMP (.gsa) THAT YtnpeieeomokomaaGreatProg.lean LOADS. Nothing in Lean hashes anything: it is a label: what it is worth is what the hold of that sum in a sandbox is worth. -/
noncomputable def Tryz.pinned : Pinned := { name := "ytnpeieeomokomaagreat", sum := "4cd1354e7a0f92915bfcc416a648519104aa1b022d740ee570d1f1578cc77986", checked := Tryz.checked }
namespace Rows
def none {H : Type} : Left H := { results := [], args := [] }

/-- 'cheesepresslaw15.TreeReads': WHATEVER THE INPUT: true; the input reads as it did. -/
def treeReadsSpec : ChangeSpec := { name := "treeReads", fn := fun _ => fun
  | [d1, d2] => { results := [.lit (.bool true)], args := [d1, d2] }
  | _ => none }
def treeReadsRow : OpenClaim := { program := "ytnpeieeomokomaagreat", sum := "4cd1354e7a0f92915bfcc416a648519104aa1b022d740ee570d1f1578cc77986", func := "cheesepress/cheesepresslaw15.TreeReads", spec := "treeReads", inPlace := ["internal/reflectlite.TypeOf"], unfollowed := true, recurses := true, plainKeys := false, apart := false }
def TreeReadsSaid : Prop := treeReadsRow.holds Tryz.pinned (OpenSpec.ofChange treeReadsSpec)

/-- ITS FALSE NEIGHBOUR: 'it returns false'. Refute it at one input. -/
def treeReadsWrong : ChangeSpec := { name := "treeReads", fn := fun _ => fun
  | [d1, d2] => { results := [.lit (.bool false)], args := [d1, d2] }
  | _ => none }
def TreeReadsWrongFalsely : Prop := treeReadsRow.holds Tryz.pinned (OpenSpec.ofChange treeReadsWrong)

/-- 'cheesepresslaw15.TreeWrites': WHATEVER THE INPUT: true; the input reads as it did. -/
def treeWritesSpec : ChangeSpec := { name := "treeWrites", fn := fun _ => fun
  | [d1, d2] => { results := [.lit (.bool true)], args := [d1, d2] }
  | _ => none }
def treeWritesRow : OpenClaim := { program := "ytnpeieeomokomaagreat", sum := "4cd1354e7a0f92915bfcc416a648519104aa1b022d740ee570d1f1578cc77986", func := "cheesepress/cheesepresslaw15.TreeWrites", spec := "treeWrites", inPlace := ["internal/reflectlite.TypeOf"], unfollowed := true, recurses := true, plainKeys := false, apart := false }
def TreeWritesSaid : Prop := treeWritesRow.holds Tryz.pinned (OpenSpec.ofChange treeWritesSpec)

/-- ITS FALSE NEIGHBOUR: 'it returns false'. Refute it at one input. -/
def treeWritesWrong : ChangeSpec := { name := "treeWrites", fn := fun _ => fun
  | [d1, d2] => { results := [.lit (.bool false)], args := [d1, d2] }
  | _ => none }
def TreeWritesWrongFalsely : Prop := treeWritesRow.holds Tryz.pinned (OpenSpec.ofChange treeWritesWrong)

/-- 'cheesepresslaw15.TreeBack': WHATEVER THE INPUT: true; the input reads as it did. -/
def treeBackSpec : ChangeSpec := { name := "treeBack", fn := fun _ => fun
  | [d1, d2, d3, d4] => { results := [.lit (.bool true)], args := [d1, d2, d3, d4] }
  | _ => none }
def treeBackRow : OpenClaim := { program := "ytnpeieeomokomaagreat", sum := "4cd1354e7a0f92915bfcc416a648519104aa1b022d740ee570d1f1578cc77986", func := "cheesepress/cheesepresslaw15.TreeBack", spec := "treeBack", inPlace := ["internal/reflectlite.TypeOf"], unfollowed := true, recurses := true, plainKeys := false, apart := false }
def TreeBackSaid : Prop := treeBackRow.holds Tryz.pinned (OpenSpec.ofChange treeBackSpec)

/-- ITS FALSE NEIGHBOUR: 'it returns false'. Refute it at one input. -/
def treeBackWrong : ChangeSpec := { name := "treeBack", fn := fun _ => fun
  | [d1, d2, d3, d4] => { results := [.lit (.bool false)], args := [d1, d2, d3, d4] }
  | _ => none }
def TreeBackWrongFalsely : Prop := treeBackRow.holds Tryz.pinned (OpenSpec.ofChange treeBackWrong)

/-- 'cheesepresslaw15.TreeLeast': WHATEVER THE INPUT: true; the input reads as it did. -/
def treeLeastSpec : ChangeSpec := { name := "treeLeast", fn := fun _ => fun
  | [d1, d2, d3] => { results := [.lit (.bool true)], args := [d1, d2, d3] }
  | _ => none }
def treeLeastRow : OpenClaim := { program := "ytnpeieeomokomaagreat", sum := "4cd1354e7a0f92915bfcc416a648519104aa1b022d740ee570d1f1578cc77986", func := "cheesepress/cheesepresslaw15.TreeLeast", spec := "treeLeast", inPlace := ["internal/reflectlite.TypeOf"], unfollowed := true, recurses := true, plainKeys := false, apart := false }
def TreeLeastSaid : Prop := treeLeastRow.holds Tryz.pinned (OpenSpec.ofChange treeLeastSpec)

/-- ITS FALSE NEIGHBOUR: 'it returns false'. Refute it at one input. -/
def treeLeastWrong : ChangeSpec := { name := "treeLeast", fn := fun _ => fun
  | [d1, d2, d3] => { results := [.lit (.bool false)], args := [d1, d2, d3] }
  | _ => none }
def TreeLeastWrongFalsely : Prop := treeLeastRow.holds Tryz.pinned (OpenSpec.ofChange treeLeastWrong)

/-- 'cheesepresslaw25.LitsReads': WHATEVER THE INPUT: true; the input reads as it did. -/
def litsReadsSpec : ChangeSpec := { name := "litsReads", fn := fun _ => fun
  | [d1, d2, d3, d4] => { results := [.lit (.bool true)], args := [d1, d2, d3, d4] }
  | _ => none }
def litsReadsRow : OpenClaim := { program := "ytnpeieeomokomaagreat", sum := "4cd1354e7a0f92915bfcc416a648519104aa1b022d740ee570d1f1578cc77986", func := "cheesepress/cheesepresslaw25.LitsReads", spec := "litsReads", inPlace := ["internal/abi.NoEscape", "internal/bytealg.MakeNoZero", "internal/reflectlite.TypeOf"], unfollowed := true, recurses := true, plainKeys := false, apart := false }
def LitsReadsSaid : Prop := litsReadsRow.holds Tryz.pinned (OpenSpec.ofChange litsReadsSpec)

/-- ITS FALSE NEIGHBOUR: 'it returns false'. Refute it at one input. -/
def litsReadsWrong : ChangeSpec := { name := "litsReads", fn := fun _ => fun
  | [d1, d2, d3, d4] => { results := [.lit (.bool false)], args := [d1, d2, d3, d4] }
  | _ => none }
def LitsReadsWrongFalsely : Prop := litsReadsRow.holds Tryz.pinned (OpenSpec.ofChange litsReadsWrong)

/-- 'cheesepresslaw25.LitsBack': WHATEVER THE INPUT: true; the input reads as it did. -/
def litsBackSpec : ChangeSpec := { name := "litsBack", fn := fun _ => fun
  | [d1, d2, d3, d4] => { results := [.lit (.bool true)], args := [d1, d2, d3, d4] }
  | _ => none }
def litsBackRow : OpenClaim := { program := "ytnpeieeomokomaagreat", sum := "4cd1354e7a0f92915bfcc416a648519104aa1b022d740ee570d1f1578cc77986", func := "cheesepress/cheesepresslaw25.LitsBack", spec := "litsBack", inPlace := ["internal/abi.NoEscape", "internal/bytealg.MakeNoZero", "internal/reflectlite.TypeOf"], unfollowed := true, recurses := true, plainKeys := false, apart := false }
def LitsBackSaid : Prop := litsBackRow.holds Tryz.pinned (OpenSpec.ofChange litsBackSpec)

/-- ITS FALSE NEIGHBOUR: 'it returns false'. Refute it at one input. -/
def litsBackWrong : ChangeSpec := { name := "litsBack", fn := fun _ => fun
  | [d1, d2, d3, d4] => { results := [.lit (.bool false)], args := [d1, d2, d3, d4] }
  | _ => none }
def LitsBackWrongFalsely : Prop := litsBackRow.holds Tryz.pinned (OpenSpec.ofChange litsBackWrong)

/- THE SECOND FORM. 'bulk': how many values and letters a reading holds, each counted each time it is reached (what is shared counts as often as it is met; a slice's spare places count too). A statement '..UptoSaid' is the law's where the arguments, and the package variables that the reading takes, are together of bulk at most 1048576: NARROWER than '..Said'. Prove '..Said' where nothing that the law and all that it calls make is longer than what came in: it says more and counts as full. Else prove '..UptoSaid'. A law counts once. -/
mutual
def uptoBulk {H : Type} : DataW H → Nat
  | .lit (.string bytes) => bytes.length + 1
  | .lit _ => 1
  | .nil => 1
  | .ptr d => uptoBulk d + 1
  | .slice elems spare => uptoBulkAll elems + uptoBulkAll spare + 1
  | .agg parts => uptoBulkAll parts + 1
  | .iface _ d => uptoBulk d + 1
  | .map entries => uptoBulkEntries entries + 1
  | .held _ => 1
def uptoBulkAll {H : Type} : List (DataW H) → Nat
  | [] => 0
  | d :: r => uptoBulk d + uptoBulkAll r
def uptoBulkEntries {H : Type} : List (Lit × DataW H) → Nat
  | [] => 0
  | x :: r => uptoBulkEntry x + uptoBulkEntries r
def uptoBulkEntry {H : Type} : Lit × DataW H → Nat
  | (.string bytes, d) => bytes.length + uptoBulk d + 1
  | (_, d) => uptoBulk d + 1
 end
def uptoSmall : (H : Type) → List (DataW H) → Bool := fun _ ds => decide (uptoBulkAll ds ≤ 1048576)
def OpenSpec.upto (s : _root_.Go.ChangeSpec) : _root_.Go.OpenSpec := { _root_.Go.OpenSpec.ofChange s with cond := some uptoSmall }

/-- 'cheesepresslaw15.TreeReads', WHERE WHAT IT READS IS OF BULK AT MOST 1048576: true; the input reads as it did. -/
def treeReadsUptoRow : OpenClaim := { program := "ytnpeieeomokomaagreat", sum := "4cd1354e7a0f92915bfcc416a648519104aa1b022d740ee570d1f1578cc77986", func := "cheesepress/cheesepresslaw15.TreeReads", spec := "treeReads", inPlace := ["internal/reflectlite.TypeOf"], unfollowed := true, recurses := true, plainKeys := false, apart := false, narrowed := true }
def TreeReadsUptoSaid : Prop := treeReadsUptoRow.holds Tryz.pinned (OpenSpec.upto treeReadsSpec)

/-- 'cheesepresslaw15.TreeWrites', WHERE WHAT IT READS IS OF BULK AT MOST 1048576: true; the input reads as it did. -/
def treeWritesUptoRow : OpenClaim := { program := "ytnpeieeomokomaagreat", sum := "4cd1354e7a0f92915bfcc416a648519104aa1b022d740ee570d1f1578cc77986", func := "cheesepress/cheesepresslaw15.TreeWrites", spec := "treeWrites", inPlace := ["internal/reflectlite.TypeOf"], unfollowed := true, recurses := true, plainKeys := false, apart := false, narrowed := true }
def TreeWritesUptoSaid : Prop := treeWritesUptoRow.holds Tryz.pinned (OpenSpec.upto treeWritesSpec)

/-- 'cheesepresslaw15.TreeBack', WHERE WHAT IT READS IS OF BULK AT MOST 1048576: true; the input reads as it did. -/
def treeBackUptoRow : OpenClaim := { program := "ytnpeieeomokomaagreat", sum := "4cd1354e7a0f92915bfcc416a648519104aa1b022d740ee570d1f1578cc77986", func := "cheesepress/cheesepresslaw15.TreeBack", spec := "treeBack", inPlace := ["internal/reflectlite.TypeOf"], unfollowed := true, recurses := true, plainKeys := false, apart := false, narrowed := true }
def TreeBackUptoSaid : Prop := treeBackUptoRow.holds Tryz.pinned (OpenSpec.upto treeBackSpec)

/-- 'cheesepresslaw15.TreeLeast', WHERE WHAT IT READS IS OF BULK AT MOST 1048576: true; the input reads as it did. -/
def treeLeastUptoRow : OpenClaim := { program := "ytnpeieeomokomaagreat", sum := "4cd1354e7a0f92915bfcc416a648519104aa1b022d740ee570d1f1578cc77986", func := "cheesepress/cheesepresslaw15.TreeLeast", spec := "treeLeast", inPlace := ["internal/reflectlite.TypeOf"], unfollowed := true, recurses := true, plainKeys := false, apart := false, narrowed := true }
def TreeLeastUptoSaid : Prop := treeLeastUptoRow.holds Tryz.pinned (OpenSpec.upto treeLeastSpec)

/-- 'cheesepresslaw25.LitsReads', WHERE WHAT IT READS IS OF BULK AT MOST 1048576: true; the input reads as it did. -/
def litsReadsUptoRow : OpenClaim := { program := "ytnpeieeomokomaagreat", sum := "4cd1354e7a0f92915bfcc416a648519104aa1b022d740ee570d1f1578cc77986", func := "cheesepress/cheesepresslaw25.LitsReads", spec := "litsReads", inPlace := ["internal/abi.NoEscape", "internal/bytealg.MakeNoZero", "internal/reflectlite.TypeOf"], unfollowed := true, recurses := true, plainKeys := false, apart := false, narrowed := true }
def LitsReadsUptoSaid : Prop := litsReadsUptoRow.holds Tryz.pinned (OpenSpec.upto litsReadsSpec)

/-- 'cheesepresslaw25.LitsBack', WHERE WHAT IT READS IS OF BULK AT MOST 1048576: true; the input reads as it did. -/
def litsBackUptoRow : OpenClaim := { program := "ytnpeieeomokomaagreat", sum := "4cd1354e7a0f92915bfcc416a648519104aa1b022d740ee570d1f1578cc77986", func := "cheesepress/cheesepresslaw25.LitsBack", spec := "litsBack", inPlace := ["internal/abi.NoEscape", "internal/bytealg.MakeNoZero", "internal/reflectlite.TypeOf"], unfollowed := true, recurses := true, plainKeys := false, apart := false, narrowed := true }
def LitsBackUptoSaid : Prop := litsBackUptoRow.holds Tryz.pinned (OpenSpec.upto litsBackSpec)

end Rows
end Go.Proofs.YtnpeieeomokomaaGreat
