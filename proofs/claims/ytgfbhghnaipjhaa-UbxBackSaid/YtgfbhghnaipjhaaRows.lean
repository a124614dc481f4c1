/-
  No cell of these rows narrows 'for every input' (looked for: loops, veiled, ifaces, maps, wideKeys, modest, calm, conditions, laid).
  DERIVED. THE GIVEN ROWS OF THIS SEAT. 3 by the template 'for every input the law returns true; each argument reads behind the call as it read before'; 0 by the template 'total and deterministic' (their statements: YtgfbhghnaipjhaaTotals.lean).
  GIVEN WITH THE SEED: the statements are not yours to turn. If you find one false, say at which input.
  Laid BY PROGRAM, IN A SANDBOX (cutbox-rows.mjs): the forced cells as the released guide's own fill.sh prints them over the translation 43e8bf7afb88474f… (all of the seat's roots in one cut). By AI agents, Wed Nov 11 2026. No macro, syntax, notation, axiom, sorry.
-/
import Derived.Test.YtgfbhghnaipjhaaChecked
import GoSem.Claim
import GoSem.ClaimJoined
import GoSem.ClaimMapViews
import Derived.JoinedTies
import Derived.KernelRfl
namespace Go.Proofs.Ytgfbhghnaipjhaa
/- THE CELL 'sum', in the pinned program and in every row, IS THE sha256 OF THE DUMP (.gsa) THAT YtgfbhghnaipjhaaProg.lean LOADS. Nothing in Lean hashes anything: it is a label: what it is worth is what the hold of that sum in a sandbox is worth. -/
noncomputable def Try.pinned : Pinned := { name := "ytgfbhghnaipjhaa", sum := "43e8bf7afb88474fb63c63316e79a8ffb05de75d9c0573b99c94947c668df3fa", checked := Try.checked }
namespace Rows
def none {H : Type} : Left H := { results := [], args := [] }

/-- 'remontoirelaw12.UbxReads': WHATEVER THE INPUT: true; the input reads as it did. -/
def ubxReadsSpec : ChangeSpec := { name := "ubxReads", fn := fun _ => fun
  | [d1, d2, d3] => { results := [.lit (.bool true)], args := [d1, d2, d3] }
  | _ => none }
def ubxReadsRow : OpenClaim := { program := "ytgfbhghnaipjhaa", sum := "43e8bf7afb88474fb63c63316e79a8ffb05de75d9c0573b99c94947c668df3fa", func := "remontoire/remontoirelaw12.UbxReads", spec := "ubxReads", unfollowed := true, recurses := true, plainKeys := false, apart := false }
def UbxReadsSaid : Prop := ubxReadsRow.holds Try.pinned (OpenSpec.ofChange ubxReadsSpec)

/-- ITS FALSE NEIGHBOUR: 'it returns false'. Refute it at one input. -/
def ubxReadsWrong : ChangeSpec := { name := "ubxReads", fn := fun _ => fun
  | [d1, d2, d3] => { results := [.lit (.bool false)], args := [d1, d2, d3] }
  | _ => none }
def UbxReadsWrongFalsely : Prop := ubxReadsRow.holds Try.pinned (OpenSpec.ofChange ubxReadsWrong)

/-- 'remontoirelaw12.UbxWrites': WHATEVER THE INPUT: true; the input reads as it did. -/
def ubxWritesSpec : ChangeSpec := { name := "ubxWrites", fn := fun _ => fun
  | [d] => { results := [.lit (.bool true)], args := [d] }
  | _ => none }
def ubxWritesRow : OpenClaim := { program := "ytgfbhghnaipjhaa", sum := "43e8bf7afb88474fb63c63316e79a8ffb05de75d9c0573b99c94947c668df3fa", func := "remontoire/remontoirelaw12.UbxWrites", spec := "ubxWrites", unfollowed := true, recurses := true, plainKeys := false, apart := false }
def UbxWritesSaid : Prop := ubxWritesRow.holds Try.pinned (OpenSpec.ofChange ubxWritesSpec)

/-- ITS FALSE NEIGHBOUR: 'it returns false'. Refute it at one input. -/
def ubxWritesWrong : ChangeSpec := { name := "ubxWrites", fn := fun _ => fun
  | [d] => { results := [.lit (.bool false)], args := [d] }
  | _ => none }
def UbxWritesWrongFalsely : Prop := ubxWritesRow.holds Try.pinned (OpenSpec.ofChange ubxWritesWrong)

/-- 'remontoirelaw12.UbxBack': WHATEVER THE INPUT: true; the input reads as it did. -/
def ubxBackSpec : ChangeSpec := { name := "ubxBack", fn := fun _ => fun
  | [d1, d2, d3, d4] => { results := [.lit (.bool true)], args := [d1, d2, d3, d4] }
  | _ => none }
def ubxBackRow : OpenClaim := { program := "ytgfbhghnaipjhaa", sum := "43e8bf7afb88474fb63c63316e79a8ffb05de75d9c0573b99c94947c668df3fa", func := "remontoire/remontoirelaw12.UbxBack", spec := "ubxBack", unfollowed := true, recurses := true, plainKeys := false, apart := false }
def UbxBackSaid : Prop := ubxBackRow.holds Try.pinned (OpenSpec.ofChange ubxBackSpec)

/-- ITS FALSE NEIGHBOUR: 'it returns false'. Refute it at one input. -/
def ubxBackWrong : ChangeSpec := { name := "ubxBack", fn := fun _ => fun
  | [d1, d2, d3, d4] => { results := [.lit (.bool false)], args := [d1, d2, d3, d4] }
  | _ => none }
def UbxBackWrongFalsely : Prop := ubxBackRow.holds Try.pinned (OpenSpec.ofChange ubxBackWrong)

/- THE SECOND FORM. 'bulk': how many values and letters a reading holds, each counted each time it is reached (what is shared counts as often as it is met; a slice's spare places count too). A statement '..UptoSaid' is the law's where the arguments, and the package variables that the reading takes, are together of bulk at most 1048576: NARROWER than '..Said'. Prove '..Said' where nothing that the law and all that it calls make is longer than what came in: it says more and counts as full. Else prove '..UptoSaid'. A law counts once. -/
mutual
def uptoBulk {H : Type} : DataW H → Nat
  | .lit (.string bytes) => bytes.length + 1
  | .lit _ => 1
  | .nil => 1
  | .ptr d => uptoBulk d + 1
  | .slice elems spare => uptoBulkAll elems + uptoBulkAll spare + 1
  | .agg parts => uptoBulkAll parts + 1
  | .iface _ d => uptoBulk d + 1
  | .map entries => uptoBulkEntries entries + 1
  | .held _ => 1
def uptoBulkAll {H : Type} : List (DataW H) → Nat
  | [] => 0
  | d :: r => uptoBulk d + uptoBulkAll r
def uptoBulkEntries {H : Type} : List (Lit × DataW H) → Nat
  | [] => 0
  | x :: r => uptoBulkEntry x + uptoBulkEntries r
def uptoBulkEntry {H : Type} : Lit × DataW H → Nat
  | (.string bytes, d) => bytes.length + uptoBulk d + 1
  | (_, d) => uptoBulk d + 1
 end
def uptoSmall : (H : Type) → List (DataW H) → Bool := fun _ ds => decide (uptoBulkAll ds ≤ 1048576)
def OpenSpec.upto (s : _root_.Go.ChangeSpec) : _root_.Go.OpenSpec := { _root_.Go.OpenSpec.ofChange s with cond := some uptoSmall }

/-- 'remontoirelaw12.UbxReads', WHERE WHAT IT READS IS OF BULK AT MOST 1048576: true; the input reads as it did. -/
def ubxReadsUptoRow : OpenClaim := { program := "ytgfbhghnaipjhaa", sum := "43e8bf7afb88474fb63c63316e79a8ffb05de75d9c0573b99c94947c668df3fa", func := "remontoire/remontoirelaw12.UbxReads", spec := "ubxReads", unfollowed := true, recurses := true, plainKeys := false, apart := false, narrowed := true }
def UbxReadsUptoSaid : Prop := ubxReadsUptoRow.holds Try.pinned (OpenSpec.upto ubxReadsSpec)

/-- 'remontoirelaw12.UbxWrites', WHERE WHAT IT READS IS OF BULK AT MOST 1048576: true; the input reads as it did. -/
def ubxWritesUptoRow : OpenClaim := { program := "ytgfbhghnaipjhaa", sum := "43e8bf7afb88474fb63c63316e79a8ffb05de75d9c0573b99c94947c668df3fa", func := "remontoire/remontoirelaw12.UbxWrites", spec := "ubxWrites", unfollowed := true, recurses := true, plainKeys := false, apart := false, narrowed := true }
def UbxWritesUptoSaid : Prop := ubxWritesUptoRow.holds Try.pinned (OpenSpec.upto ubxWritesSpec)

/-- 'remontoirelaw12.UbxBack', WHERE WHAT IT READS IS OF BULK AT MOST 1048576: true; the input reads as it did. -/
def ubxBackUptoRow : OpenClaim := { program := "ytgfbhghnaipjhaa", sum := "43e8bf7afb88474fb63c63316e79a8ffb05de75d9c0573b99c94947c668df3fa", func := "remontoire/remontoirelaw12.UbxBack", spec := "ubxBack", unfollowed := true, recurses := true, plainKeys := false, apart := false, narrowed := true }
def UbxBackUptoSaid : Prop := ubxBackUptoRow.holds Try.pinned (OpenSpec.upto ubxBackSpec)

end Rows
end Go.Proofs.Ytgfbhghnaipjhaa
