import Derived.Test.YtbekikafhpdehaaDoorKVerdictRunsG9
namespace Go.Proofs.YtbekikafhpdehaaDoor.V
open Go.Proofs.YtbekikafhpdehaaDoor.Al
open Go.Proofs.YtbekikafhpdehaaDoorW.PrintWords
open Go.Proofs.YtbekikafhpdehaaDoor.Sq
open Go.RowKit Go.Proofs.YtbekikafhpdehaaDoorW.PrintWords Go.Proofs.YtbekikafhpdehaaDoorW.PrintLast Go.Proofs.YtbekikafhpdehaaDoorW.PrintMore
attribute [local go_sem] max2_int min2_int max_two min_two max_three min_three max_four min_four
set_option linter.unusedVariables false
set_option linter.unusedSimpArgs false
def foretelllaw_ops.f (l0:List (S73)):Option ((List (S73))):=if ([]:List (S73)).length + l0.length < 8796093022208 then (some (([]:List (S73)) ++ l0)) else (none)
set_option maxHeartbeats 8000000 in
set_option maxRecDepth 100000 in
theorem foretelllaw_ops.calls (A0:Option Addr) (c0:Nat) (l0:List (S73)) (r:List (S73)) (w:World) (hr0:Kd.C k73 w A0 l0.length l0) (hc0:l0.length ≤ c0) (h:foretelllaw_ops.f l0 = some r) :
  Calls Tryd.prog 19 #[.slice A0 l0.length c0] w fun e w'=>∃ v0_:Value,e = .returned (v0_)∧Kd.R k73 73 w' w.heap.size (fun _=>True) v0_ r∧Below w.heap.size w w':=by
 have HR0:=zA hr0;have HC0:=zA hc0;clear hr0 hc0;have HB:=zA (Below.refl w.heap.size w);have H:(if ([]:List (S73)).length + l0.length < 8796093022208 then (some (([]:List (S73)) ++ l0)) else (none)) = some r:=h;clear h;by_cases c2:([]:List (S73)).length + l0.length < 8796093022208
 ·rw [if_pos c2] at H;have LMc2:=zA c2;clear c2;obtain ⟨y101,hy101⟩:∃ y_:List (S73),y_ = (([]:List (S73)) ++ l0):=⟨_,rfl⟩;replace H:(some y101) = some r:=by first|(rw [hy101];with_reducible exact H)|(have H2_:=(Option.bind_some _ _).symm.trans H;rw [hy101];with_reducible exact H2_)|(have H2_:=(Option.bind_some _ _).symm.trans H;with_reducible exact H2_)|with_reducible exact H|(rw [hy101];exact H)|exact H
  have Ny101:=zA hy101;clear hy101;obtain rfl:=Option.some.inj H;go_enter Tryd.func19,Tryd.ntmps19;go_wp2_with (first|((with_reducible refine gate_builtin (b:=.append) (xs:=#[.const (.slice none 0 0),.tmp 3]) rfl ?_);at_builtin;refine Kd.R_append_rows k73 (w0:=w) w.heap.size rfl (.const (.slice none 0 0)) (.tmp 3) 45 73 (.agg #[(.int .i64 0),(.int .i64 0)]) 16 rfl Tryd.underlying45 info73 rfl (by decide) (by omega) (.slice none 0 0) ([]:List (S73)) l0 _ _ _ (fun _=>True) (fun _=>False) rfl rfl ((Kd.R_nil _ _ _ _ (fun _=>True))) (qu HR0.out) (fun _ _ h=>h) (fun _ h=>h.elim) (fun _ _=>trivial) qb qs (qo LMc2) ?_;intro v102 w3 ho hb hg hat;rw [← Ny101.out] at ho;replace HB:=zA (hb);have HO103:=zA (ho);clear ho hb hg hat));go_ret;exact ⟨_,qe,qR HO103,qb⟩
 ·rw [if_neg c2] at H;exact absurd H (by simp)
end Go.Proofs.YtbekikafhpdehaaDoor.V
