/-
  No cell of these rows narrows 'for every input' (looked for: loops, veiled, ifaces, maps, wideKeys, modest, calm, conditions, laid).
  DERIVED. THE GIVEN ROWS OF THIS SEAT. 3 by the template 'for every input the law returns true; each argument reads behind the call as it read before'; 0 by the template 'total and deterministic' (their statements: YtoeompemgpaccaaTotals.lean).
  GIVEN WITH THE SEED: the statements are not yours to turn. If you find one false, say at which input.
  Laid BY PROGRAM, IN A SANDBOX (cutbox-rows.mjs): the forced cells as the released guide's own fill.sh prints them over the translation 934f0d4d9d3f939d… (all of the seat's roots in one cut). By AI agents, Wed Nov 11 2026. No macro, syntax, notation, axiom, sorry.
-/
import Derived.Test.YtoeompemgpaccaaChecked
import GoSem.Claim
import GoSem.ClaimJoined
import GoSem.ClaimMapViews
import Derived.JoinedTies
import Derived.KernelRfl
namespace Go.Proofs.Ytoeompemgpaccaa
/- THE CELL 'sum', in the pinned program and in every row, IS THE sha256 OF THE DUMP (.gsa) THAT YtoeompemgpaccaaProg.lean LOADS. Nothing in Lean hashes anything: it is a label: what it is worth is what the hold of that sum in a sandbox is worth. -/
noncomputable def Try.pinned : Pinned := { name := "ytoeompemgpaccaa", sum := "934f0d4d9d3f939d6a50526444dbbcea11ff026e7062ffff4272cf82ac7c2f13", checked := Try.checked }
namespace Rows
def none {H : Type} : Left H := { results := [], args := [] }

/-- 'remontoirelaw13.SirfReads': WHATEVER THE INPUT: true; the input reads as it did. -/
def sirfReadsSpec : ChangeSpec := { name := "sirfReads", fn := fun _ => fun
  | [d] => { results := [.lit (.bool true)], args := [d] }
  | _ => none }
def sirfReadsRow : OpenClaim := { program := "ytoeompemgpaccaa", sum := "934f0d4d9d3f939d6a50526444dbbcea11ff026e7062ffff4272cf82ac7c2f13", func := "remontoire/remontoirelaw13.SirfReads", spec := "sirfReads", unfollowed := true, recurses := true, apart := false }
def SirfReadsSaid : Prop := sirfReadsRow.holds Try.pinned (OpenSpec.ofChange sirfReadsSpec)

/-- ITS FALSE NEIGHBOUR: 'it returns false'. Refute it at one input. -/
def sirfReadsWrong : ChangeSpec := { name := "sirfReads", fn := fun _ => fun
  | [d] => { results := [.lit (.bool false)], args := [d] }
  | _ => none }
def SirfReadsWrongFalsely : Prop := sirfReadsRow.holds Try.pinned (OpenSpec.ofChange sirfReadsWrong)

/-- 'remontoirelaw13.SirfWrites': WHATEVER THE INPUT: true; the input reads as it did. -/
def sirfWritesSpec : ChangeSpec := { name := "sirfWrites", fn := fun _ => fun
  | [d] => { results := [.lit (.bool true)], args := [d] }
  | _ => none }
def sirfWritesRow : OpenClaim := { program := "ytoeompemgpaccaa", sum := "934f0d4d9d3f939d6a50526444dbbcea11ff026e7062ffff4272cf82ac7c2f13", func := "remontoire/remontoirelaw13.SirfWrites", spec := "sirfWrites", unfollowed := true, recurses := true, apart := false }
def SirfWritesSaid : Prop := sirfWritesRow.holds Try.pinned (OpenSpec.ofChange sirfWritesSpec)

/-- ITS FALSE NEIGHBOUR: 'it returns false'. Refute it at one input. -/
def sirfWritesWrong : ChangeSpec := { name := "sirfWrites", fn := fun _ => fun
  | [d] => { results := [.lit (.bool false)], args := [d] }
  | _ => none }
def SirfWritesWrongFalsely : Prop := sirfWritesRow.holds Try.pinned (OpenSpec.ofChange sirfWritesWrong)

/-- 'remontoirelaw13.SirfBack': WHATEVER THE INPUT: true; the input reads as it did. -/
def sirfBackSpec : ChangeSpec := { name := "sirfBack", fn := fun _ => fun
  | [d1, d2] => { results := [.lit (.bool true)], args := [d1, d2] }
  | _ => none }
def sirfBackRow : OpenClaim := { program := "ytoeompemgpaccaa", sum := "934f0d4d9d3f939d6a50526444dbbcea11ff026e7062ffff4272cf82ac7c2f13", func := "remontoire/remontoirelaw13.SirfBack", spec := "sirfBack", unfollowed := true, recurses := true, apart := false }
def SirfBackSaid : Prop := sirfBackRow.holds Try.pinned (OpenSpec.ofChange sirfBackSpec)

/-- ITS FALSE NEIGHBOUR: 'it returns false'. Refute it at one input. -/
def sirfBackWrong : ChangeSpec := { name := "sirfBack", fn := fun _ => fun
  | [d1, d2] => { results := [.lit (.bool false)], args := [d1, d2] }
  | _ => none }
def SirfBackWrongFalsely : Prop := sirfBackRow.holds Try.pinned (OpenSpec.ofChange sirfBackWrong)

/- THE SECOND FORM. 'bulk': how many values and letters a reading holds, each counted each time it is reached (what is shared counts as often as it is met; a slice's spare places count too). A statement '..UptoSaid' is the law's where the arguments, and the package variables that the reading takes, are together of bulk at most 1048576: NARROWER than '..Said'. Prove '..Said' where nothing that the law and all that it calls make is longer than what came in: it says more and counts as full. Else prove '..UptoSaid'. A law counts once. -/
mutual
def uptoBulk {H : Type} : DataW H → Nat
  | .lit (.string bytes) => bytes.length + 1
  | .lit _ => 1
  | .nil => 1
  | .ptr d => uptoBulk d + 1
  | .slice elems spare => uptoBulkAll elems + uptoBulkAll spare + 1
  | .agg parts => uptoBulkAll parts + 1
  | .iface _ d => uptoBulk d + 1
  | .map entries => uptoBulkEntries entries + 1
  | .held _ => 1
def uptoBulkAll {H : Type} : List (DataW H) → Nat
  | [] => 0
  | d :: r => uptoBulk d + uptoBulkAll r
def uptoBulkEntries {H : Type} : List (Lit × DataW H) → Nat
  | [] => 0
  | x :: r => uptoBulkEntry x + uptoBulkEntries r
def uptoBulkEntry {H : Type} : Lit × DataW H → Nat
  | (.string bytes, d) => bytes.length + uptoBulk d + 1
  | (_, d) => uptoBulk d + 1
 end
def uptoSmall : (H : Type) → List (DataW H) → Bool := fun _ ds => decide (uptoBulkAll ds ≤ 1048576)
def OpenSpec.upto (s : _root_.Go.ChangeSpec) : _root_.Go.OpenSpec := { _root_.Go.OpenSpec.ofChange s with cond := some uptoSmall }

/-- 'remontoirelaw13.SirfReads', WHERE WHAT IT READS IS OF BULK AT MOST 1048576: true; the input reads as it did. -/
def sirfReadsUptoRow : OpenClaim := { program := "ytoeompemgpaccaa", sum := "934f0d4d9d3f939d6a50526444dbbcea11ff026e7062ffff4272cf82ac7c2f13", func := "remontoire/remontoirelaw13.SirfReads", spec := "sirfReads", unfollowed := true, recurses := true, apart := false, narrowed := true }
def SirfReadsUptoSaid : Prop := sirfReadsUptoRow.holds Try.pinned (OpenSpec.upto sirfReadsSpec)

/-- 'remontoirelaw13.SirfWrites', WHERE WHAT IT READS IS OF BULK AT MOST 1048576: true; the input reads as it did. -/
def sirfWritesUptoRow : OpenClaim := { program := "ytoeompemgpaccaa", sum := "934f0d4d9d3f939d6a50526444dbbcea11ff026e7062ffff4272cf82ac7c2f13", func := "remontoire/remontoirelaw13.SirfWrites", spec := "sirfWrites", unfollowed := true, recurses := true, apart := false, narrowed := true }
def SirfWritesUptoSaid : Prop := sirfWritesUptoRow.holds Try.pinned (OpenSpec.upto sirfWritesSpec)

/-- 'remontoirelaw13.SirfBack', WHERE WHAT IT READS IS OF BULK AT MOST 1048576: true; the input reads as it did. -/
def sirfBackUptoRow : OpenClaim := { program := "ytoeompemgpaccaa", sum := "934f0d4d9d3f939d6a50526444dbbcea11ff026e7062ffff4272cf82ac7c2f13", func := "remontoire/remontoirelaw13.SirfBack", spec := "sirfBack", unfollowed := true, recurses := true, apart := false, narrowed := true }
def SirfBackUptoSaid : Prop := sirfBackUptoRow.holds Try.pinned (OpenSpec.upto sirfBackSpec)

end Rows
end Go.Proofs.Ytoeompemgpaccaa
