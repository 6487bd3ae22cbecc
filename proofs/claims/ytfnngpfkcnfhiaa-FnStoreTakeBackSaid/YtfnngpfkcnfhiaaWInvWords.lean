-- PRINTED BY print.sh 35421559b90ae4d0a3588c463048766b98c2df88dd9212a6774a882060cdf62d, AND THEN CUT BY THIS SESSION (wip/prune.py): what no text of this claim names is left out
import Derived.Test.YtfnngpfkcnfhiaaWInv
import Derived.Test.YtfnngpfkcnfhiaaWFootNe
namespace Go.Proofs.YtfnngpfkcnfhiaaW.PrintWords
open Go.RowKit
end Go.Proofs.YtfnngpfkcnfhiaaW.PrintWords
namespace Go.Proofs.YtfnngpfkcnfhiaaW.PrintLast
section
variable {ops : Array Oper} {a : Act} {o og : Oper} {g : Nat} {t : Tmp} {u : Bool}
end
end Go.Proofs.YtfnngpfkcnfhiaaW.PrintLast
