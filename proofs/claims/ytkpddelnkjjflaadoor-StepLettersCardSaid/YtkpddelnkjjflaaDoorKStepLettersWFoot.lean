-- Cut by a program of this session (wip/prune.py) from a longer text: declarations that the law does not need are left out.
import Derived.Test.YtkpddelnkjjflaaDoorKStepLettersWApart
import Derived.Test.YtkpddelnkjjflaaDoorKStepLettersWArr
namespace Go.Proofs.YtkpddelnkjjflaaDoorW.PrintWords
open Go.RowKit
namespace Kd
end Kd
end Go.Proofs.YtkpddelnkjjflaaDoorW.PrintWords
