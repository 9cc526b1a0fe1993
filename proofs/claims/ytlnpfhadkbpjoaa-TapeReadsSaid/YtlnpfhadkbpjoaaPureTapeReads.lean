/- tape.Read answers what the document says, at every tape: foretelllaw.TapeReads returns true. No condition. -/
import Derived.Test.YtlnpfhadkbpjoaaQx20
import Derived.Test.YtlnpfhadkbpjoaaQo
import Derived.Test.YtlnpfhadkbpjoaaMRead
import Derived.Test.YtlnpfhadkbpjoaaMSame
namespace Go.Proofs.Ytlnpfhadkbpjoaa.Pure
open Go.RowKit Go.Proofs.Ytlnpfhadkbpjoaa.Q Go.Proofs.Ytlnpfhadkbpjoaa.Base Go.Proofs.YtlnpfhadkbpjoaaW.PrintWords Go.Proofs.YtlnpfhadkbpjoaaW.PrintLast Go.Proofs.YtlnpfhadkbpjoaaW.PrintMore
set_option linter.unusedVariables false
theorem sameLists_loop (l : List (List Int)) (hl : l.length ≤ 1000000) (hb : ∀ x ∈ l, x.length ≤ 4000) (d : Nat) : ∀ i : Nat, i + d = l.length → Ev (fun k => foretelllaw_sameLists.l0 k l l i) true := by
  induction d with
  | zero => exact fun i hi => ev_now (fun k => by simp (disch := omega) only [foretelllaw_sameLists.l0, if_neg])
  | succ d ih =>
    intro i hi
    have hlt : i < l.length := by omega
    have hg : rd_L4 l i = l[i] := getD_get _ _ _ hlt
    refine Ev.step (f := fun k => (foretelllaw_sameInts.f k l[i] l[i]).bind fun t => if t = true then foretelllaw_sameLists.l0 k l l ((i + 1 : Nat) : Int) else some false) (fun k => ?_) (ev_bind (sameInts_refl l[i] (by have := hb _ (List.getElem_mem hlt); omega)) ?_)
    · simp (disch := omega) only [foretelllaw_sameLists.l0, if_pos, hg, wrap_id]
      rfl
    · simp only [if_true]
      exact ih (i + 1) (by omega)
theorem TapeReads (x0 : S24) (good0 : G24 x0) : ∃ k, foretelllaw_TapeReads.f k x0.f0 x0.f1 = some true := by
  have hb : okB x0.f0 := okB_of good0.1.2
  refine Ev.rounds (g := fun k => foretelllaw_TapeReads.f k x0.f0 x0.f1) ?_
  unfold foretelllaw_TapeReads.f
  refine ev_call (tapes_eq _ _ (by have := good0.1.1; omega)) ?_
  refine ev_bind (read_ev _ _ hb) (ev_bind (recordsOf_ev _ _ hb) ?_)
  simp only [if_true]
  obtain ⟨h1, h2, _, _⟩ := readR_bd x0.f0 x0.f1 hb
  refine ev_bind (a := true) ?_ ?_
  · unfold foretelllaw_sameLists.f
    simp only [if_true]
    exact sameLists_loop _ h1 h2 _ 0 (Nat.zero_add _)
  · simp only [if_true, sameTape_refl, Option.bind_some]
    exact Ev.now _
end Go.Proofs.Ytlnpfhadkbpjoaa.Pure
