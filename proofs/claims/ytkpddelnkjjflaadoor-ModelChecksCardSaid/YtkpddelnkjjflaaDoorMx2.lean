-- WRITTEN by this session's own program (wip/pp.py) over the translation. Not trusted: Lean checks it.
import Derived.Test.YtkpddelnkjjflaaDoorMx0
namespace Go.Proofs.YtkpddelnkjjflaaDoor.M
open Go.Proofs.YtkpddelnkjjflaaDoor.Al
open Go.World renaming block_lt_of_cell? → zB
open Nat renaming lt_of_lt_of_le → zS
open Go.Proofs.YtkpddelnkjjflaaDoorW.PrintWords renaming pw_below_drewN → zC, below_alloc → zD, below_drew1 → zE, below_set → zF, below_size → zG, below_step → zH, blk_cell → zI, blk_frozen → zJ, blk_alloc → zK, blk_drewN → zL, blk_drew → zM, blk_below → zN, blk_put → zO, Kd.C_below → zT, gate_callee → zU, gate_dst → zV, box_event → zW
open Go.RowKit Go.Proofs.YtkpddelnkjjflaaDoorW.PrintWords Go.Proofs.YtkpddelnkjjflaaDoorW.PrintLast Go.Proofs.YtkpddelnkjjflaaDoorW.PrintMore
attribute [local go_sem] max2_int min2_int max_two min_two max_three min_three max_four min_four   -- for this text's walks alone
set_option linter.unusedVariables false
set_option linter.unusedSimpArgs false

theorem eqA94 (d:Nat) (w:World) (x0 y0:Int) (x1 y1:Int) :
  (Op.equalIn (d + 2) 94 (.agg #[.int .i64 x0,.int .i64 x1]) (.agg #[.int .i64 y0,.int .i64 y1])).run Tryd.prog w = .ok (x0 == y0 && (x1 == y1)) w:=by
 refine eqA_of Tryd.underlying94 (by kernel_rfl) ?_
 refine eqf_cons (by rfl) (by go_simp;rfl) (by go_simp;rfl) (by go_simp) ?_
 exact eqf_last (by rfl) (by go_simp;rfl) (by go_simp;rfl) (by go_simp)
end Go.Proofs.YtkpddelnkjjflaaDoor.M
