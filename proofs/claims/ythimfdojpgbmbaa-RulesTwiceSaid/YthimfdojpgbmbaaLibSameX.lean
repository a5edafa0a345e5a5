/- sameNodes: of nodes and themselves. -/
import Derived.Test.YthimfdojpgbmbaaX24
import Derived.Test.YthimfdojpgbmbaaLibTreeX
namespace Go.Proofs.Ythimfdojpgbmbaa.Tree
open Go.RowKit Go.Proofs.Ythimfdojpgbmbaa.X Go.Proofs.YthimfdojpgbmbaaW.PrintWords Go.Proofs.YthimfdojpgbmbaaW.PrintLast Go.Proofs.Ythimfdojpgbmbaa.Base
theorem same_refl (l : List S) : Ev (fun _ => bobbinetkeep_sameNodes.f l l) true := by
  rw [bobbinetkeep_sameNodes.f_refl]
  exact Ev.now _
end Go.Proofs.Ythimfdojpgbmbaa.Tree
