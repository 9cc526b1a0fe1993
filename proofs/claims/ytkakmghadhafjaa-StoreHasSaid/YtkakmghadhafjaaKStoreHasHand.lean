-- Cut by a program of this session (wip/prune.py) from a longer text: declarations that the law does not need are left out.
import Derived.Test.YtkakmghadhafjaaKStoreHasWMore
import Derived.Defers
import Derived.Recover
import Derived.WalkSpells
import Derived.WalkSmall
namespace Go.Proofs.Ytkakmghadhafjaa.Hand
open Go.RowKit Go.Proofs.YtkakmghadhafjaaW.PrintWords Go.Proofs.YtkakmghadhafjaaW.PrintLast
set_option linter.unusedVariables false
end Go.Proofs.Ytkakmghadhafjaa.Hand
namespace Go.Proofs.Ytkakmghadhafjaa.Al
open Go.RowKit Go.Proofs.YtkakmghadhafjaaW.PrintWords Go.Proofs.YtkakmghadhafjaaW.PrintLast
end Go.Proofs.Ytkakmghadhafjaa.Al
