/-
  No cell of these rows narrows 'for every input' (looked for: loops, veiled, ifaces, maps, wideKeys, modest, calm, conditions, laid).
  DERIVED. THE GIVEN ROWS OF THIS SEAT. 3 by the template 'for every input the law returns true; each argument reads behind the call as it read before'; 0 by the template 'total and deterministic' (their statements: YtjlacfhmjjjpiaaTotals.lean).
  GIVEN WITH THE SEED: the statements are not yours to turn. If you find one false, say at which input.
  Laid BY PROGRAM, IN A SANDBOX (cutbox-rows.mjs): the forced cells as the released guide's own fill.sh prints them over the translation e8e062d813abebdc… (all of the seat's roots in one cut). By AI agents, Wed Nov 11 2026. No macro, syntax, notation, axiom, sorry.
-/
import Derived.Test.YtjlacfhmjjjpiaaChecked
import GoSem.Claim
import GoSem.ClaimJoined
import GoSem.ClaimMapViews
import Derived.JoinedTies
import Derived.KernelRfl
namespace Go.Proofs.Ytjlacfhmjjjpiaa
/- THE CELL 'sum', in the pinned program and in every row, IS THE sha256 OF THE DUMP (.gsa) THAT YtjlacfhmjjjpiaaProg.lean LOADS. Nothing in Lean hashes anything: it is a label: what it is worth is what the hold of that sum in a sandbox is worth. -/
noncomputable def Try.pinned : Pinned := { name := "ytjlacfhmjjjpiaa", sum := "e8e062d813abebdcbb37fc6ee204733d24e41e2758fc0aa4f2a7df151ddab5b2", checked := Try.checked }
namespace Rows
def none {H : Type} : Left H := { results := [], args := [] }

/-- 'leveelaw08.DirentBytes': WHATEVER THE INPUT: true; the input reads as it did. -/
def direntBytesSpec : ChangeSpec := { name := "direntBytes", fn := fun _ => fun
  | [d1, d2, d3] => { results := [.lit (.bool true)], args := [d1, d2, d3] }
  | _ => none }
def direntBytesRow : OpenClaim := { program := "ytjlacfhmjjjpiaa", sum := "e8e062d813abebdcbb37fc6ee204733d24e41e2758fc0aa4f2a7df151ddab5b2", func := "levee/leveelaw08.DirentBytes", spec := "direntBytes", unfollowed := true, recurses := true, apart := false }
def DirentBytesSaid : Prop := direntBytesRow.holds Try.pinned (OpenSpec.ofChange direntBytesSpec)

/-- ITS FALSE NEIGHBOUR: 'it returns false'. Refute it at one input. -/
def direntBytesWrong : ChangeSpec := { name := "direntBytes", fn := fun _ => fun
  | [d1, d2, d3] => { results := [.lit (.bool false)], args := [d1, d2, d3] }
  | _ => none }
def DirentBytesWrongFalsely : Prop := direntBytesRow.holds Try.pinned (OpenSpec.ofChange direntBytesWrong)

/-- 'leveelaw08.DirentLays': WHATEVER THE INPUT: true; the input reads as it did. -/
def direntLaysSpec : ChangeSpec := { name := "direntLays", fn := fun _ => fun
  | [d1, d2, d3] => { results := [.lit (.bool true)], args := [d1, d2, d3] }
  | _ => none }
def direntLaysRow : OpenClaim := { program := "ytjlacfhmjjjpiaa", sum := "e8e062d813abebdcbb37fc6ee204733d24e41e2758fc0aa4f2a7df151ddab5b2", func := "levee/leveelaw08.DirentLays", spec := "direntLays", unfollowed := true, recurses := true, apart := false }
def DirentLaysSaid : Prop := direntLaysRow.holds Try.pinned (OpenSpec.ofChange direntLaysSpec)

/-- ITS FALSE NEIGHBOUR: 'it returns false'. Refute it at one input. -/
def direntLaysWrong : ChangeSpec := { name := "direntLays", fn := fun _ => fun
  | [d1, d2, d3] => { results := [.lit (.bool false)], args := [d1, d2, d3] }
  | _ => none }
def DirentLaysWrongFalsely : Prop := direntLaysRow.holds Try.pinned (OpenSpec.ofChange direntLaysWrong)

/-- 'leveelaw08.DirentBlocks': WHATEVER THE INPUT: true; the input reads as it did. -/
def direntBlocksSpec : ChangeSpec := { name := "direntBlocks", fn := fun _ => fun
  | [d1, d2, d3] => { results := [.lit (.bool true)], args := [d1, d2, d3] }
  | _ => none }
def direntBlocksRow : OpenClaim := { program := "ytjlacfhmjjjpiaa", sum := "e8e062d813abebdcbb37fc6ee204733d24e41e2758fc0aa4f2a7df151ddab5b2", func := "levee/leveelaw08.DirentBlocks", spec := "direntBlocks", unfollowed := true, recurses := true, apart := false }
def DirentBlocksSaid : Prop := direntBlocksRow.holds Try.pinned (OpenSpec.ofChange direntBlocksSpec)

/-- ITS FALSE NEIGHBOUR: 'it returns false'. Refute it at one input. -/
def direntBlocksWrong : ChangeSpec := { name := "direntBlocks", fn := fun _ => fun
  | [d1, d2, d3] => { results := [.lit (.bool false)], args := [d1, d2, d3] }
  | _ => none }
def DirentBlocksWrongFalsely : Prop := direntBlocksRow.holds Try.pinned (OpenSpec.ofChange direntBlocksWrong)

/- THE SECOND FORM. 'bulk': how many values and letters a reading holds, each counted each time it is reached (what is shared counts as often as it is met; a slice's spare places count too). A statement '..UptoSaid' is the law's where the arguments, and the package variables that the reading takes, are together of bulk at most 1048576: NARROWER than '..Said'. Prove '..Said' where nothing that the law and all that it calls make is longer than what came in: it says more and counts as full. Else prove '..UptoSaid'. A law counts once. -/
mutual
def uptoBulk {H : Type} : DataW H → Nat
  | .lit (.string bytes) => bytes.length + 1
  | .lit _ => 1
  | .nil => 1
  | .ptr d => uptoBulk d + 1
  | .slice elems spare => uptoBulkAll elems + uptoBulkAll spare + 1
  | .agg parts => uptoBulkAll parts + 1
  | .iface _ d => uptoBulk d + 1
  | .map entries => uptoBulkEntries entries + 1
  | .held _ => 1
def uptoBulkAll {H : Type} : List (DataW H) → Nat
  | [] => 0
  | d :: r => uptoBulk d + uptoBulkAll r
def uptoBulkEntries {H : Type} : List (Lit × DataW H) → Nat
  | [] => 0
  | x :: r => uptoBulkEntry x + uptoBulkEntries r
def uptoBulkEntry {H : Type} : Lit × DataW H → Nat
  | (.string bytes, d) => bytes.length + uptoBulk d + 1
  | (_, d) => uptoBulk d + 1
 end
def uptoSmall : (H : Type) → List (DataW H) → Bool := fun _ ds => decide (uptoBulkAll ds ≤ 1048576)
def OpenSpec.upto (s : _root_.Go.ChangeSpec) : _root_.Go.OpenSpec := { _root_.Go.OpenSpec.ofChange s with cond := some uptoSmall }

/-- 'leveelaw08.DirentBytes', WHERE WHAT IT READS IS OF BULK AT MOST 1048576: true; the input reads as it did. -/
def direntBytesUptoRow : OpenClaim := { program := "ytjlacfhmjjjpiaa", sum := "e8e062d813abebdcbb37fc6ee204733d24e41e2758fc0aa4f2a7df151ddab5b2", func := "levee/leveelaw08.DirentBytes", spec := "direntBytes", unfollowed := true, recurses := true, apart := false, narrowed := true }
def DirentBytesUptoSaid : Prop := direntBytesUptoRow.holds Try.pinned (OpenSpec.upto direntBytesSpec)

/-- 'leveelaw08.DirentLays', WHERE WHAT IT READS IS OF BULK AT MOST 1048576: true; the input reads as it did. -/
def direntLaysUptoRow : OpenClaim := { program := "ytjlacfhmjjjpiaa", sum := "e8e062d813abebdcbb37fc6ee204733d24e41e2758fc0aa4f2a7df151ddab5b2", func := "levee/leveelaw08.DirentLays", spec := "direntLays", unfollowed := true, recurses := true, apart := false, narrowed := true }
def DirentLaysUptoSaid : Prop := direntLaysUptoRow.holds Try.pinned (OpenSpec.upto direntLaysSpec)

/-- 'leveelaw08.DirentBlocks', WHERE WHAT IT READS IS OF BULK AT MOST 1048576: true; the input reads as it did. -/
def direntBlocksUptoRow : OpenClaim := { program := "ytjlacfhmjjjpiaa", sum := "e8e062d813abebdcbb37fc6ee204733d24e41e2758fc0aa4f2a7df151ddab5b2", func := "levee/leveelaw08.DirentBlocks", spec := "direntBlocks", unfollowed := true, recurses := true, apart := false, narrowed := true }
def DirentBlocksUptoSaid : Prop := direntBlocksUptoRow.holds Try.pinned (OpenSpec.upto direntBlocksSpec)

end Rows
end Go.Proofs.Ytjlacfhmjjjpiaa
