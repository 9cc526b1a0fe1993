-- Cut by a program of this session (wip/prune.py) from a longer text: declarations that the law does not need are left out.
import Derived.SizedLaws
import Derived.ChangeSlices
namespace Go.Proofs.YtkpddelnkjjflaaDoorW.PrintWords
open Go.ChangeShapes Go.WideShapes
end Go.Proofs.YtkpddelnkjjflaaDoorW.PrintWords
