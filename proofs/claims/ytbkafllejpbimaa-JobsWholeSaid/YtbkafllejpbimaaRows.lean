/-
  No cell of these rows narrows 'for every input' (looked for: loops, veiled, ifaces, maps, wideKeys, modest, calm, conditions, laid).
  DERIVED. THE GIVEN ROWS OF THIS SEAT. 3 by the template 'for every input the law returns true; each argument reads behind the call as it read before'; 0 by the template 'total and deterministic' (their statements: YtbkafllejpbimaaTotals.lean).
  GIVEN WITH THE SEED: the statements are not yours to turn. If you find one false, say at which input.
  Laid BY PROGRAM, IN A SANDBOX (cutbox-rows.mjs): the forced cells as the released guide's own fill.sh prints them over the translation 707a0b9727b042c1… (all of the seat's roots in one cut). By AI agents, Wed Nov 11 2026. No macro, syntax, notation, axiom, sorry.
-/
import Derived.Test.YtbkafllejpbimaaChecked
import GoSem.Claim
import GoSem.ClaimJoined
import GoSem.ClaimMapViews
import Derived.JoinedTies
import Derived.KernelRfl
namespace Go.Proofs.Ytbkafllejpbimaa
/- THE CELL 'sum', in the pinned program and in every row, IS THE sha256 OF THE DUMP (.gsa) THAT YtbkafllejpbimaaProg.lean LOADS. Nothing in Lean hashes anything: it is a label: what it is worth is what the hold of that sum in a sandbox is worth. -/
noncomputable def Try.pinned : Pinned := { name := "ytbkafllejpbimaa", sum := "707a0b9727b042c19ed6ba9f22529606f57292818e02116338f316b669ab5441", checked := Try.checked }
namespace Rows
def none {H : Type} : Left H := { results := [], args := [] }

/-- 'cheesepresslaw36.JobsAgain': WHATEVER THE INPUT: true; the input reads as it did. -/
def jobsAgainSpec : ChangeSpec := { name := "jobsAgain", fn := fun _ => fun
  | [d1, d2] => { results := [.lit (.bool true)], args := [d1, d2] }
  | _ => none }
def jobsAgainRow : OpenClaim := { program := "ytbkafllejpbimaa", sum := "707a0b9727b042c19ed6ba9f22529606f57292818e02116338f316b669ab5441", func := "cheesepress/cheesepresslaw36.JobsAgain", spec := "jobsAgain", unfollowed := true, recurses := true, apart := false }
def JobsAgainSaid : Prop := jobsAgainRow.holds Try.pinned (OpenSpec.ofChange jobsAgainSpec)

/-- ITS FALSE NEIGHBOUR: 'it returns false'. Refute it at one input. -/
def jobsAgainWrong : ChangeSpec := { name := "jobsAgain", fn := fun _ => fun
  | [d1, d2] => { results := [.lit (.bool false)], args := [d1, d2] }
  | _ => none }
def JobsAgainWrongFalsely : Prop := jobsAgainRow.holds Try.pinned (OpenSpec.ofChange jobsAgainWrong)

/-- 'cheesepresslaw36.JobsEnds': WHATEVER THE INPUT: true; the input reads as it did. -/
def jobsEndsSpec : ChangeSpec := { name := "jobsEnds", fn := fun _ => fun
  | [d1, d2, d3, d4, d5] => { results := [.lit (.bool true)], args := [d1, d2, d3, d4, d5] }
  | _ => none }
def jobsEndsRow : OpenClaim := { program := "ytbkafllejpbimaa", sum := "707a0b9727b042c19ed6ba9f22529606f57292818e02116338f316b669ab5441", func := "cheesepress/cheesepresslaw36.JobsEnds", spec := "jobsEnds", unfollowed := true, recurses := true, apart := false }
def JobsEndsSaid : Prop := jobsEndsRow.holds Try.pinned (OpenSpec.ofChange jobsEndsSpec)

/-- ITS FALSE NEIGHBOUR: 'it returns false'. Refute it at one input. -/
def jobsEndsWrong : ChangeSpec := { name := "jobsEnds", fn := fun _ => fun
  | [d1, d2, d3, d4, d5] => { results := [.lit (.bool false)], args := [d1, d2, d3, d4, d5] }
  | _ => none }
def JobsEndsWrongFalsely : Prop := jobsEndsRow.holds Try.pinned (OpenSpec.ofChange jobsEndsWrong)

/-- 'cheesepresslaw36.JobsWhole': WHATEVER THE INPUT: true; the input reads as it did. -/
def jobsWholeSpec : ChangeSpec := { name := "jobsWhole", fn := fun _ => fun
  | [d1, d2] => { results := [.lit (.bool true)], args := [d1, d2] }
  | _ => none }
def jobsWholeRow : OpenClaim := { program := "ytbkafllejpbimaa", sum := "707a0b9727b042c19ed6ba9f22529606f57292818e02116338f316b669ab5441", func := "cheesepress/cheesepresslaw36.JobsWhole", spec := "jobsWhole", unfollowed := true, recurses := true, apart := false }
def JobsWholeSaid : Prop := jobsWholeRow.holds Try.pinned (OpenSpec.ofChange jobsWholeSpec)

/-- ITS FALSE NEIGHBOUR: 'it returns false'. Refute it at one input. -/
def jobsWholeWrong : ChangeSpec := { name := "jobsWhole", fn := fun _ => fun
  | [d1, d2] => { results := [.lit (.bool false)], args := [d1, d2] }
  | _ => none }
def JobsWholeWrongFalsely : Prop := jobsWholeRow.holds Try.pinned (OpenSpec.ofChange jobsWholeWrong)

/- THE SECOND FORM. 'bulk': how many values and letters a reading holds, each counted each time it is reached (what is shared counts as often as it is met; a slice's spare places count too). A statement '..UptoSaid' is the law's where the arguments, and the package variables that the reading takes, are together of bulk at most 1048576: NARROWER than '..Said'. Prove '..Said' where nothing that the law and all that it calls make is longer than what came in: it says more and counts as full. Else prove '..UptoSaid'. A law counts once. -/
mutual
def uptoBulk {H : Type} : DataW H → Nat
  | .lit (.string bytes) => bytes.length + 1
  | .lit _ => 1
  | .nil => 1
  | .ptr d => uptoBulk d + 1
  | .slice elems spare => uptoBulkAll elems + uptoBulkAll spare + 1
  | .agg parts => uptoBulkAll parts + 1
  | .iface _ d => uptoBulk d + 1
  | .map entries => uptoBulkEntries entries + 1
  | .held _ => 1
def uptoBulkAll {H : Type} : List (DataW H) → Nat
  | [] => 0
  | d :: r => uptoBulk d + uptoBulkAll r
def uptoBulkEntries {H : Type} : List (Lit × DataW H) → Nat
  | [] => 0
  | x :: r => uptoBulkEntry x + uptoBulkEntries r
def uptoBulkEntry {H : Type} : Lit × DataW H → Nat
  | (.string bytes, d) => bytes.length + uptoBulk d + 1
  | (_, d) => uptoBulk d + 1
 end
def uptoSmall : (H : Type) → List (DataW H) → Bool := fun _ ds => decide (uptoBulkAll ds ≤ 1048576)
def OpenSpec.upto (s : _root_.Go.ChangeSpec) : _root_.Go.OpenSpec := { _root_.Go.OpenSpec.ofChange s with cond := some uptoSmall }

/-- 'cheesepresslaw36.JobsAgain', WHERE WHAT IT READS IS OF BULK AT MOST 1048576: true; the input reads as it did. -/
def jobsAgainUptoRow : OpenClaim := { program := "ytbkafllejpbimaa", sum := "707a0b9727b042c19ed6ba9f22529606f57292818e02116338f316b669ab5441", func := "cheesepress/cheesepresslaw36.JobsAgain", spec := "jobsAgain", unfollowed := true, recurses := true, apart := false, narrowed := true }
def JobsAgainUptoSaid : Prop := jobsAgainUptoRow.holds Try.pinned (OpenSpec.upto jobsAgainSpec)

/-- 'cheesepresslaw36.JobsEnds', WHERE WHAT IT READS IS OF BULK AT MOST 1048576: true; the input reads as it did. -/
def jobsEndsUptoRow : OpenClaim := { program := "ytbkafllejpbimaa", sum := "707a0b9727b042c19ed6ba9f22529606f57292818e02116338f316b669ab5441", func := "cheesepress/cheesepresslaw36.JobsEnds", spec := "jobsEnds", unfollowed := true, recurses := true, apart := false, narrowed := true }
def JobsEndsUptoSaid : Prop := jobsEndsUptoRow.holds Try.pinned (OpenSpec.upto jobsEndsSpec)

/-- 'cheesepresslaw36.JobsWhole', WHERE WHAT IT READS IS OF BULK AT MOST 1048576: true; the input reads as it did. -/
def jobsWholeUptoRow : OpenClaim := { program := "ytbkafllejpbimaa", sum := "707a0b9727b042c19ed6ba9f22529606f57292818e02116338f316b669ab5441", func := "cheesepress/cheesepresslaw36.JobsWhole", spec := "jobsWhole", unfollowed := true, recurses := true, apart := false, narrowed := true }
def JobsWholeUptoSaid : Prop := jobsWholeUptoRow.holds Try.pinned (OpenSpec.upto jobsWholeSpec)

end Rows
end Go.Proofs.Ytbkafllejpbimaa
