/- Parts of the proof of RefNumbers that are needed, put together by pack.py. -/
import Derived.Test.YteimhgbihpbhaaaDoorQRefNumbersaa
import Derived.Laws.StructEq
section
namespace Go.Proofs.YteimhgbihpbhaaaDoorW.PrintWords
open Go.RowKit
section
variable {P : Program} {d : Nat} {xs ys : Array Value} {f : Field} {fs : List Field} {a b : Value} {r s : Bool} {w : World}
end
end Go.Proofs.YteimhgbihpbhaaaDoorW.PrintWords
end
