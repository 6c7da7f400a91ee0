/-
  No cell of these rows narrows 'for every input' (looked for: loops, veiled, ifaces, maps, wideKeys, modest, calm, conditions, laid).
  DERIVED. THE GIVEN ROWS OF THIS SEAT. 3 by the template 'for every input the law returns true; each argument reads behind the call as it read before'; 0 by the template 'total and deterministic' (their statements: YthcndfnmgggblaaTotals.lean).
  GIVEN WITH THE SEED: the statements are not yours to turn. If you find one false, say at which input.
  Laid BY PROGRAM, IN A SANDBOX (cutbox-rows.mjs): the forced cells as the released guide's own fill.sh prints them over the translation 006c687755fe586d… (all of the seat's roots in one cut). By AI agents, Wed Nov 11 2026. No macro, syntax, notation, axiom, sorry.
-/
import Derived.Test.YthcndfnmgggblaaChecked
import GoSem.Claim
import GoSem.ClaimJoined
import GoSem.ClaimMapViews
import Derived.JoinedTies
import Derived.KernelRfl
namespace Go.Proofs.Ythcndfnmgggblaa
/- THE CELL 'sum', in the pinned program and in every row, IS THE sha256 OF THE DUMP (.gsa) THAT YthcndfnmgggblaaProg.lean LOADS. Nothing in Lean hashes anything: it is a label: what it is worth is what the hold of that sum in a sandbox is worth. -/
noncomputable def Try.pinned : Pinned := { name := "ythcndfnmgggblaa", sum := "006c687755fe586d9b286138a771226df92545aaa3bbef63d331ef1550771f69", checked := Try.checked }
namespace Rows
def none {H : Type} : Left H := { results := [], args := [] }

/-- 'leveelaw07.InodeBytes': WHATEVER THE INPUT: true; the input reads as it did. -/
def inodeBytesSpec : ChangeSpec := { name := "inodeBytes", fn := fun _ => fun
  | [d1, d2] => { results := [.lit (.bool true)], args := [d1, d2] }
  | _ => none }
def inodeBytesRow : OpenClaim := { program := "ythcndfnmgggblaa", sum := "006c687755fe586d9b286138a771226df92545aaa3bbef63d331ef1550771f69", func := "levee/leveelaw07.InodeBytes", spec := "inodeBytes", apart := false }
def InodeBytesSaid : Prop := inodeBytesRow.holds Try.pinned (OpenSpec.ofChange inodeBytesSpec)

/-- ITS FALSE NEIGHBOUR: 'it returns false'. Refute it at one input. -/
def inodeBytesWrong : ChangeSpec := { name := "inodeBytes", fn := fun _ => fun
  | [d1, d2] => { results := [.lit (.bool false)], args := [d1, d2] }
  | _ => none }
def InodeBytesWrongFalsely : Prop := inodeBytesRow.holds Try.pinned (OpenSpec.ofChange inodeBytesWrong)

/-- 'leveelaw07.InodeTables': WHATEVER THE INPUT: true; the input reads as it did. -/
def inodeTablesSpec : ChangeSpec := { name := "inodeTables", fn := fun _ => fun
  | [d1, d2, d3] => { results := [.lit (.bool true)], args := [d1, d2, d3] }
  | _ => none }
def inodeTablesRow : OpenClaim := { program := "ythcndfnmgggblaa", sum := "006c687755fe586d9b286138a771226df92545aaa3bbef63d331ef1550771f69", func := "levee/leveelaw07.InodeTables", spec := "inodeTables", apart := false }
def InodeTablesSaid : Prop := inodeTablesRow.holds Try.pinned (OpenSpec.ofChange inodeTablesSpec)

/-- ITS FALSE NEIGHBOUR: 'it returns false'. Refute it at one input. -/
def inodeTablesWrong : ChangeSpec := { name := "inodeTables", fn := fun _ => fun
  | [d1, d2, d3] => { results := [.lit (.bool false)], args := [d1, d2, d3] }
  | _ => none }
def InodeTablesWrongFalsely : Prop := inodeTablesRow.holds Try.pinned (OpenSpec.ofChange inodeTablesWrong)

/-- 'leveelaw07.InodeAsks': WHATEVER THE INPUT: true; the input reads as it did. -/
def inodeAsksSpec : ChangeSpec := { name := "inodeAsks", fn := fun _ => fun
  | [d1, d2] => { results := [.lit (.bool true)], args := [d1, d2] }
  | _ => none }
def inodeAsksRow : OpenClaim := { program := "ythcndfnmgggblaa", sum := "006c687755fe586d9b286138a771226df92545aaa3bbef63d331ef1550771f69", func := "levee/leveelaw07.InodeAsks", spec := "inodeAsks", apart := false }
def InodeAsksSaid : Prop := inodeAsksRow.holds Try.pinned (OpenSpec.ofChange inodeAsksSpec)

/-- ITS FALSE NEIGHBOUR: 'it returns false'. Refute it at one input. -/
def inodeAsksWrong : ChangeSpec := { name := "inodeAsks", fn := fun _ => fun
  | [d1, d2] => { results := [.lit (.bool false)], args := [d1, d2] }
  | _ => none }
def InodeAsksWrongFalsely : Prop := inodeAsksRow.holds Try.pinned (OpenSpec.ofChange inodeAsksWrong)

/- THE SECOND FORM. 'bulk': how many values and letters a reading holds, each counted each time it is reached (what is shared counts as often as it is met; a slice's spare places count too). A statement '..UptoSaid' is the law's where the arguments, and the package variables that the reading takes, are together of bulk at most 1048576: NARROWER than '..Said'. Prove '..Said' where nothing that the law and all that it calls make is longer than what came in: it says more and counts as full. Else prove '..UptoSaid'. A law counts once. -/
mutual
def uptoBulk {H : Type} : DataW H → Nat
  | .lit (.string bytes) => bytes.length + 1
  | .lit _ => 1
  | .nil => 1
  | .ptr d => uptoBulk d + 1
  | .slice elems spare => uptoBulkAll elems + uptoBulkAll spare + 1
  | .agg parts => uptoBulkAll parts + 1
  | .iface _ d => uptoBulk d + 1
  | .map entries => uptoBulkEntries entries + 1
  | .held _ => 1
def uptoBulkAll {H : Type} : List (DataW H) → Nat
  | [] => 0
  | d :: r => uptoBulk d + uptoBulkAll r
def uptoBulkEntries {H : Type} : List (Lit × DataW H) → Nat
  | [] => 0
  | x :: r => uptoBulkEntry x + uptoBulkEntries r
def uptoBulkEntry {H : Type} : Lit × DataW H → Nat
  | (.string bytes, d) => bytes.length + uptoBulk d + 1
  | (_, d) => uptoBulk d + 1
 end
def uptoSmall : (H : Type) → List (DataW H) → Bool := fun _ ds => decide (uptoBulkAll ds ≤ 1048576)
def OpenSpec.upto (s : _root_.Go.ChangeSpec) : _root_.Go.OpenSpec := { _root_.Go.OpenSpec.ofChange s with cond := some uptoSmall }

/-- 'leveelaw07.InodeBytes', WHERE WHAT IT READS IS OF BULK AT MOST 1048576: true; the input reads as it did. -/
def inodeBytesUptoRow : OpenClaim := { program := "ythcndfnmgggblaa", sum := "006c687755fe586d9b286138a771226df92545aaa3bbef63d331ef1550771f69", func := "levee/leveelaw07.InodeBytes", spec := "inodeBytes", apart := false, narrowed := true }
def InodeBytesUptoSaid : Prop := inodeBytesUptoRow.holds Try.pinned (OpenSpec.upto inodeBytesSpec)

/-- 'leveelaw07.InodeTables', WHERE WHAT IT READS IS OF BULK AT MOST 1048576: true; the input reads as it did. -/
def inodeTablesUptoRow : OpenClaim := { program := "ythcndfnmgggblaa", sum := "006c687755fe586d9b286138a771226df92545aaa3bbef63d331ef1550771f69", func := "levee/leveelaw07.InodeTables", spec := "inodeTables", apart := false, narrowed := true }
def InodeTablesUptoSaid : Prop := inodeTablesUptoRow.holds Try.pinned (OpenSpec.upto inodeTablesSpec)

/-- 'leveelaw07.InodeAsks', WHERE WHAT IT READS IS OF BULK AT MOST 1048576: true; the input reads as it did. -/
def inodeAsksUptoRow : OpenClaim := { program := "ythcndfnmgggblaa", sum := "006c687755fe586d9b286138a771226df92545aaa3bbef63d331ef1550771f69", func := "levee/leveelaw07.InodeAsks", spec := "inodeAsks", apart := false, narrowed := true }
def InodeAsksUptoSaid : Prop := inodeAsksUptoRow.holds Try.pinned (OpenSpec.upto inodeAsksSpec)

end Rows
end Go.Proofs.Ythcndfnmgggblaa
