/-
What the fixed calls of package leveelaw07 tell.
Conditions: none.
-/
import Derived.Test.YthcndfnmgggblaaPx26
namespace Go.Proofs.Ythcndfnmgggblaa.Inode
open Go.RowKit Go.Proofs.YthcndfnmgggblaaW.PrintWords Go.Proofs.YthcndfnmgggblaaW.PrintLast Go.Proofs.YthcndfnmgggblaaW.PrintMore Go.Proofs.Ythcndfnmgggblaa.P
set_option maxRecDepth 100000 in
theorem known_eq : leveelaw07_known.f 100 = some true := by kernel_rfl
end Go.Proofs.Ythcndfnmgggblaa.Inode
