/-
  No cell of these rows narrows 'for every input' (looked for: loops, veiled, ifaces, maps, wideKeys, modest, calm, conditions, laid).
  DERIVED. THE GIVEN ROWS OF THIS SEAT. 4 by the template 'for every input the law returns true; each argument reads behind the call as it read before'; 0 by the template 'total and deterministic' (their statements: YtnlneiiccoakjaaTotals.lean).
  GIVEN WITH THE SEED: the statements are not yours to turn. If you find one false, say at which input.
  Laid BY PROGRAM, IN A SANDBOX (cutbox-rows.mjs): the forced cells as the released guide's own fill.sh prints them over the translation 747d082093a97182… (all of the seat's roots in one cut). By AI agents, Wed Nov 11 2026. No macro, syntax, notation, axiom, sorry.
-/
import Derived.Test.YtnlneiiccoakjaaChecked
import GoSem.Claim
import GoSem.ClaimJoined
import GoSem.ClaimMapViews
import Derived.JoinedTies
import Derived.KernelRfl
namespace Go.Proofs.Ytnlneiiccoakjaa
/- THE CELL 'sum', in the pinned program and in every row, IS THE sha256 OF THE DUMP (.gsa) THAT YtnlneiiccoakjaaProg.lean LOADS. Nothing in Lean hashes anything: it is a label: what it is worth is what the hold of that sum in a sandbox is worth. -/
noncomputable def Try.pinned : Pinned := { name := "ytnlneiiccoakjaa", sum := "747d082093a971822044ba54c1b08c04de5a6fb1d38cad55e4af80e71c56c75b", checked := Try.checked }
namespace Rows
def none {H : Type} : Left H := { results := [], args := [] }

/-- 'leveelaw32.ImageRows': WHATEVER THE INPUT: true; the input reads as it did. -/
def imageRowsSpec : ChangeSpec := { name := "imageRows", fn := fun _ => fun
  | [d1, d2] => { results := [.lit (.bool true)], args := [d1, d2] }
  | _ => none }
def imageRowsRow : OpenClaim := { program := "ytnlneiiccoakjaa", sum := "747d082093a971822044ba54c1b08c04de5a6fb1d38cad55e4af80e71c56c75b", func := "levee/leveelaw32.ImageRows", spec := "imageRows", unfollowed := true, recurses := true, apart := false }
def ImageRowsSaid : Prop := imageRowsRow.holds Try.pinned (OpenSpec.ofChange imageRowsSpec)

/-- ITS FALSE NEIGHBOUR: 'it returns false'. Refute it at one input. -/
def imageRowsWrong : ChangeSpec := { name := "imageRows", fn := fun _ => fun
  | [d1, d2] => { results := [.lit (.bool false)], args := [d1, d2] }
  | _ => none }
def ImageRowsWrongFalsely : Prop := imageRowsRow.holds Try.pinned (OpenSpec.ofChange imageRowsWrong)

/-- 'leveelaw32.ImageTurned': WHATEVER THE INPUT: true; the input reads as it did. -/
def imageTurnedSpec : ChangeSpec := { name := "imageTurned", fn := fun _ => fun
  | [d1, d2] => { results := [.lit (.bool true)], args := [d1, d2] }
  | _ => none }
def imageTurnedRow : OpenClaim := { program := "ytnlneiiccoakjaa", sum := "747d082093a971822044ba54c1b08c04de5a6fb1d38cad55e4af80e71c56c75b", func := "levee/leveelaw32.ImageTurned", spec := "imageTurned", unfollowed := true, recurses := true, apart := false }
def ImageTurnedSaid : Prop := imageTurnedRow.holds Try.pinned (OpenSpec.ofChange imageTurnedSpec)

/-- ITS FALSE NEIGHBOUR: 'it returns false'. Refute it at one input. -/
def imageTurnedWrong : ChangeSpec := { name := "imageTurned", fn := fun _ => fun
  | [d1, d2] => { results := [.lit (.bool false)], args := [d1, d2] }
  | _ => none }
def ImageTurnedWrongFalsely : Prop := imageTurnedRow.holds Try.pinned (OpenSpec.ofChange imageTurnedWrong)

/-- 'leveelaw32.ImagePacks': WHATEVER THE INPUT: true; the input reads as it did. -/
def imagePacksSpec : ChangeSpec := { name := "imagePacks", fn := fun _ => fun
  | [d1, d2] => { results := [.lit (.bool true)], args := [d1, d2] }
  | _ => none }
def imagePacksRow : OpenClaim := { program := "ytnlneiiccoakjaa", sum := "747d082093a971822044ba54c1b08c04de5a6fb1d38cad55e4af80e71c56c75b", func := "levee/leveelaw32.ImagePacks", spec := "imagePacks", unfollowed := true, recurses := true, apart := false }
def ImagePacksSaid : Prop := imagePacksRow.holds Try.pinned (OpenSpec.ofChange imagePacksSpec)

/-- ITS FALSE NEIGHBOUR: 'it returns false'. Refute it at one input. -/
def imagePacksWrong : ChangeSpec := { name := "imagePacks", fn := fun _ => fun
  | [d1, d2] => { results := [.lit (.bool false)], args := [d1, d2] }
  | _ => none }
def ImagePacksWrongFalsely : Prop := imagePacksRow.holds Try.pinned (OpenSpec.ofChange imagePacksWrong)

/-- 'leveelaw32.ImageMore': WHATEVER THE INPUT: true; the input reads as it did. -/
def imageMoreSpec : ChangeSpec := { name := "imageMore", fn := fun _ => fun
  | [d1, d2] => { results := [.lit (.bool true)], args := [d1, d2] }
  | _ => none }
def imageMoreRow : OpenClaim := { program := "ytnlneiiccoakjaa", sum := "747d082093a971822044ba54c1b08c04de5a6fb1d38cad55e4af80e71c56c75b", func := "levee/leveelaw32.ImageMore", spec := "imageMore", unfollowed := true, recurses := true, apart := false }
def ImageMoreSaid : Prop := imageMoreRow.holds Try.pinned (OpenSpec.ofChange imageMoreSpec)

/-- ITS FALSE NEIGHBOUR: 'it returns false'. Refute it at one input. -/
def imageMoreWrong : ChangeSpec := { name := "imageMore", fn := fun _ => fun
  | [d1, d2] => { results := [.lit (.bool false)], args := [d1, d2] }
  | _ => none }
def ImageMoreWrongFalsely : Prop := imageMoreRow.holds Try.pinned (OpenSpec.ofChange imageMoreWrong)

/- THE SECOND FORM. 'bulk': how many values and letters a reading holds, each counted each time it is reached (what is shared counts as often as it is met; a slice's spare places count too). A statement '..UptoSaid' is the law's where the arguments, and the package variables that the reading takes, are together of bulk at most 1048576: NARROWER than '..Said'. Prove '..Said' where nothing that the law and all that it calls make is longer than what came in: it says more and counts as full. Else prove '..UptoSaid'. A law counts once. -/
mutual
def uptoBulk {H : Type} : DataW H → Nat
  | .lit (.string bytes) => bytes.length + 1
  | .lit _ => 1
  | .nil => 1
  | .ptr d => uptoBulk d + 1
  | .slice elems spare => uptoBulkAll elems + uptoBulkAll spare + 1
  | .agg parts => uptoBulkAll parts + 1
  | .iface _ d => uptoBulk d + 1
  | .map entries => uptoBulkEntries entries + 1
  | .held _ => 1
def uptoBulkAll {H : Type} : List (DataW H) → Nat
  | [] => 0
  | d :: r => uptoBulk d + uptoBulkAll r
def uptoBulkEntries {H : Type} : List (Lit × DataW H) → Nat
  | [] => 0
  | x :: r => uptoBulkEntry x + uptoBulkEntries r
def uptoBulkEntry {H : Type} : Lit × DataW H → Nat
  | (.string bytes, d) => bytes.length + uptoBulk d + 1
  | (_, d) => uptoBulk d + 1
 end
def uptoSmall : (H : Type) → List (DataW H) → Bool := fun _ ds => decide (uptoBulkAll ds ≤ 1048576)
def OpenSpec.upto (s : _root_.Go.ChangeSpec) : _root_.Go.OpenSpec := { _root_.Go.OpenSpec.ofChange s with cond := some uptoSmall }

/-- 'leveelaw32.ImageRows', WHERE WHAT IT READS IS OF BULK AT MOST 1048576: true; the input reads as it did. -/
def imageRowsUptoRow : OpenClaim := { program := "ytnlneiiccoakjaa", sum := "747d082093a971822044ba54c1b08c04de5a6fb1d38cad55e4af80e71c56c75b", func := "levee/leveelaw32.ImageRows", spec := "imageRows", unfollowed := true, recurses := true, apart := false, narrowed := true }
def ImageRowsUptoSaid : Prop := imageRowsUptoRow.holds Try.pinned (OpenSpec.upto imageRowsSpec)

/-- 'leveelaw32.ImageTurned', WHERE WHAT IT READS IS OF BULK AT MOST 1048576: true; the input reads as it did. -/
def imageTurnedUptoRow : OpenClaim := { program := "ytnlneiiccoakjaa", sum := "747d082093a971822044ba54c1b08c04de5a6fb1d38cad55e4af80e71c56c75b", func := "levee/leveelaw32.ImageTurned", spec := "imageTurned", unfollowed := true, recurses := true, apart := false, narrowed := true }
def ImageTurnedUptoSaid : Prop := imageTurnedUptoRow.holds Try.pinned (OpenSpec.upto imageTurnedSpec)

/-- 'leveelaw32.ImagePacks', WHERE WHAT IT READS IS OF BULK AT MOST 1048576: true; the input reads as it did. -/
def imagePacksUptoRow : OpenClaim := { program := "ytnlneiiccoakjaa", sum := "747d082093a971822044ba54c1b08c04de5a6fb1d38cad55e4af80e71c56c75b", func := "levee/leveelaw32.ImagePacks", spec := "imagePacks", unfollowed := true, recurses := true, apart := false, narrowed := true }
def ImagePacksUptoSaid : Prop := imagePacksUptoRow.holds Try.pinned (OpenSpec.upto imagePacksSpec)

/-- 'leveelaw32.ImageMore', WHERE WHAT IT READS IS OF BULK AT MOST 1048576: true; the input reads as it did. -/
def imageMoreUptoRow : OpenClaim := { program := "ytnlneiiccoakjaa", sum := "747d082093a971822044ba54c1b08c04de5a6fb1d38cad55e4af80e71c56c75b", func := "levee/leveelaw32.ImageMore", spec := "imageMore", unfollowed := true, recurses := true, apart := false, narrowed := true }
def ImageMoreUptoSaid : Prop := imageMoreUptoRow.holds Try.pinned (OpenSpec.upto imageMoreSpec)

end Rows
end Go.Proofs.Ytnlneiiccoakjaa
