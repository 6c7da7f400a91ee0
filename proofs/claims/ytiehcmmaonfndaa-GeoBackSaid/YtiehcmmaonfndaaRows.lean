/-
  No cell of these rows narrows 'for every input' (looked for: loops, veiled, ifaces, maps, wideKeys, modest, calm, conditions, laid).
  DERIVED. THE GIVEN ROWS OF THIS SEAT. 4 by the template 'for every input the law returns true; each argument reads behind the call as it read before'; 0 by the template 'total and deterministic' (their statements: YtiehcmmaonfndaaTotals.lean).
  GIVEN WITH THE SEED: the statements are not yours to turn. If you find one false, say at which input.
  Laid BY PROGRAM, IN A SANDBOX (cutbox-rows.mjs): the forced cells as the released guide's own fill.sh prints them over the translation cd619abfe8cd2ad8… (all of the seat's roots in one cut). By AI agents, Wed Nov 11 2026. No macro, syntax, notation, axiom, sorry.
-/
import Derived.Test.YtiehcmmaonfndaaChecked
import GoSem.Claim
import GoSem.ClaimJoined
import GoSem.ClaimMapViews
import Derived.JoinedTies
import Derived.KernelRfl
namespace Go.Proofs.Ytiehcmmaonfndaa
/- THE CELL 'sum', in the pinned program and in every row, IS THE sha256 OF THE DUMP (.gsa) THAT YtiehcmmaonfndaaProg.lean LOADS. Nothing in Lean hashes anything: it is a label: what it is worth is what the hold of that sum in a sandbox is worth. -/
noncomputable def Try.pinned : Pinned := { name := "ytiehcmmaonfndaa", sum := "cd619abfe8cd2ad81c7273da9fb9bc9938df55246bec54a94cd79270cedff419", checked := Try.checked }
namespace Rows
def none {H : Type} : Left H := { results := [], args := [] }

/-- 'leveelaw03.GeoWhole': WHATEVER THE INPUT: true; the input reads as it did. -/
def geoWholeSpec : ChangeSpec := { name := "geoWhole", fn := fun _ => fun
  | [d] => { results := [.lit (.bool true)], args := [d] }
  | _ => none }
def geoWholeRow : OpenClaim := { program := "ytiehcmmaonfndaa", sum := "cd619abfe8cd2ad81c7273da9fb9bc9938df55246bec54a94cd79270cedff419", func := "levee/leveelaw03.GeoWhole", spec := "geoWhole", apart := false }
def GeoWholeSaid : Prop := geoWholeRow.holds Try.pinned (OpenSpec.ofChange geoWholeSpec)

/-- ITS FALSE NEIGHBOUR: 'it returns false'. Refute it at one input. -/
def geoWholeWrong : ChangeSpec := { name := "geoWhole", fn := fun _ => fun
  | [d] => { results := [.lit (.bool false)], args := [d] }
  | _ => none }
def GeoWholeWrongFalsely : Prop := geoWholeRow.holds Try.pinned (OpenSpec.ofChange geoWholeWrong)

/-- 'leveelaw03.GeoSizes': WHATEVER THE INPUT: true; the input reads as it did. -/
def geoSizesSpec : ChangeSpec := { name := "geoSizes", fn := fun _ => fun
  | [d1, d2, d3] => { results := [.lit (.bool true)], args := [d1, d2, d3] }
  | _ => none }
def geoSizesRow : OpenClaim := { program := "ytiehcmmaonfndaa", sum := "cd619abfe8cd2ad81c7273da9fb9bc9938df55246bec54a94cd79270cedff419", func := "levee/leveelaw03.GeoSizes", spec := "geoSizes", apart := false }
def GeoSizesSaid : Prop := geoSizesRow.holds Try.pinned (OpenSpec.ofChange geoSizesSpec)

/-- ITS FALSE NEIGHBOUR: 'it returns false'. Refute it at one input. -/
def geoSizesWrong : ChangeSpec := { name := "geoSizes", fn := fun _ => fun
  | [d1, d2, d3] => { results := [.lit (.bool false)], args := [d1, d2, d3] }
  | _ => none }
def GeoSizesWrongFalsely : Prop := geoSizesRow.holds Try.pinned (OpenSpec.ofChange geoSizesWrong)

/-- 'leveelaw03.GeoPlaces': WHATEVER THE INPUT: true; the input reads as it did. -/
def geoPlacesSpec : ChangeSpec := { name := "geoPlaces", fn := fun _ => fun
  | [d1, d2, d3, d4] => { results := [.lit (.bool true)], args := [d1, d2, d3, d4] }
  | _ => none }
def geoPlacesRow : OpenClaim := { program := "ytiehcmmaonfndaa", sum := "cd619abfe8cd2ad81c7273da9fb9bc9938df55246bec54a94cd79270cedff419", func := "levee/leveelaw03.GeoPlaces", spec := "geoPlaces", apart := false }
def GeoPlacesSaid : Prop := geoPlacesRow.holds Try.pinned (OpenSpec.ofChange geoPlacesSpec)

/-- ITS FALSE NEIGHBOUR: 'it returns false'. Refute it at one input. -/
def geoPlacesWrong : ChangeSpec := { name := "geoPlaces", fn := fun _ => fun
  | [d1, d2, d3, d4] => { results := [.lit (.bool false)], args := [d1, d2, d3, d4] }
  | _ => none }
def GeoPlacesWrongFalsely : Prop := geoPlacesRow.holds Try.pinned (OpenSpec.ofChange geoPlacesWrong)

/-- 'leveelaw03.GeoBack': WHATEVER THE INPUT: true; the input reads as it did. -/
def geoBackSpec : ChangeSpec := { name := "geoBack", fn := fun _ => fun
  | [d1, d2] => { results := [.lit (.bool true)], args := [d1, d2] }
  | _ => none }
def geoBackRow : OpenClaim := { program := "ytiehcmmaonfndaa", sum := "cd619abfe8cd2ad81c7273da9fb9bc9938df55246bec54a94cd79270cedff419", func := "levee/leveelaw03.GeoBack", spec := "geoBack", apart := false }
def GeoBackSaid : Prop := geoBackRow.holds Try.pinned (OpenSpec.ofChange geoBackSpec)

/-- ITS FALSE NEIGHBOUR: 'it returns false'. Refute it at one input. -/
def geoBackWrong : ChangeSpec := { name := "geoBack", fn := fun _ => fun
  | [d1, d2] => { results := [.lit (.bool false)], args := [d1, d2] }
  | _ => none }
def GeoBackWrongFalsely : Prop := geoBackRow.holds Try.pinned (OpenSpec.ofChange geoBackWrong)

/- THE SECOND FORM. 'bulk': how many values and letters a reading holds, each counted each time it is reached (what is shared counts as often as it is met; a slice's spare places count too). A statement '..UptoSaid' is the law's where the arguments, and the package variables that the reading takes, are together of bulk at most 1048576: NARROWER than '..Said'. Prove '..Said' where nothing that the law and all that it calls make is longer than what came in: it says more and counts as full. Else prove '..UptoSaid'. A law counts once. -/
mutual
def uptoBulk {H : Type} : DataW H → Nat
  | .lit (.string bytes) => bytes.length + 1
  | .lit _ => 1
  | .nil => 1
  | .ptr d => uptoBulk d + 1
  | .slice elems spare => uptoBulkAll elems + uptoBulkAll spare + 1
  | .agg parts => uptoBulkAll parts + 1
  | .iface _ d => uptoBulk d + 1
  | .map entries => uptoBulkEntries entries + 1
  | .held _ => 1
def uptoBulkAll {H : Type} : List (DataW H) → Nat
  | [] => 0
  | d :: r => uptoBulk d + uptoBulkAll r
def uptoBulkEntries {H : Type} : List (Lit × DataW H) → Nat
  | [] => 0
  | x :: r => uptoBulkEntry x + uptoBulkEntries r
def uptoBulkEntry {H : Type} : Lit × DataW H → Nat
  | (.string bytes, d) => bytes.length + uptoBulk d + 1
  | (_, d) => uptoBulk d + 1
 end
def uptoSmall : (H : Type) → List (DataW H) → Bool := fun _ ds => decide (uptoBulkAll ds ≤ 1048576)
def OpenSpec.upto (s : _root_.Go.ChangeSpec) : _root_.Go.OpenSpec := { _root_.Go.OpenSpec.ofChange s with cond := some uptoSmall }

/-- 'leveelaw03.GeoWhole', WHERE WHAT IT READS IS OF BULK AT MOST 1048576: true; the input reads as it did. -/
def geoWholeUptoRow : OpenClaim := { program := "ytiehcmmaonfndaa", sum := "cd619abfe8cd2ad81c7273da9fb9bc9938df55246bec54a94cd79270cedff419", func := "levee/leveelaw03.GeoWhole", spec := "geoWhole", apart := false, narrowed := true }
def GeoWholeUptoSaid : Prop := geoWholeUptoRow.holds Try.pinned (OpenSpec.upto geoWholeSpec)

/-- 'leveelaw03.GeoSizes', WHERE WHAT IT READS IS OF BULK AT MOST 1048576: true; the input reads as it did. -/
def geoSizesUptoRow : OpenClaim := { program := "ytiehcmmaonfndaa", sum := "cd619abfe8cd2ad81c7273da9fb9bc9938df55246bec54a94cd79270cedff419", func := "levee/leveelaw03.GeoSizes", spec := "geoSizes", apart := false, narrowed := true }
def GeoSizesUptoSaid : Prop := geoSizesUptoRow.holds Try.pinned (OpenSpec.upto geoSizesSpec)

/-- 'leveelaw03.GeoPlaces', WHERE WHAT IT READS IS OF BULK AT MOST 1048576: true; the input reads as it did. -/
def geoPlacesUptoRow : OpenClaim := { program := "ytiehcmmaonfndaa", sum := "cd619abfe8cd2ad81c7273da9fb9bc9938df55246bec54a94cd79270cedff419", func := "levee/leveelaw03.GeoPlaces", spec := "geoPlaces", apart := false, narrowed := true }
def GeoPlacesUptoSaid : Prop := geoPlacesUptoRow.holds Try.pinned (OpenSpec.upto geoPlacesSpec)

/-- 'leveelaw03.GeoBack', WHERE WHAT IT READS IS OF BULK AT MOST 1048576: true; the input reads as it did. -/
def geoBackUptoRow : OpenClaim := { program := "ytiehcmmaonfndaa", sum := "cd619abfe8cd2ad81c7273da9fb9bc9938df55246bec54a94cd79270cedff419", func := "levee/leveelaw03.GeoBack", spec := "geoBack", apart := false, narrowed := true }
def GeoBackUptoSaid : Prop := geoBackUptoRow.holds Try.pinned (OpenSpec.upto geoBackSpec)

end Rows
end Go.Proofs.Ytiehcmmaonfndaa
