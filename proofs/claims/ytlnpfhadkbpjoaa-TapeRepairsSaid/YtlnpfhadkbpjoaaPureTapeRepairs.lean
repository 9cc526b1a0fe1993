/- tape.Repair answers what the document says, at every tape: foretelllaw.TapeRepairs returns true. No condition. -/
import Derived.Test.YtlnpfhadkbpjoaaQx24
import Derived.Test.YtlnpfhadkbpjoaaQo
import Derived.Test.YtlnpfhadkbpjoaaMRead
namespace Go.Proofs.Ytlnpfhadkbpjoaa.Pure
open Go.RowKit Go.Proofs.Ytlnpfhadkbpjoaa.Q Go.Proofs.Ytlnpfhadkbpjoaa.Base Go.Proofs.YtlnpfhadkbpjoaaW.PrintWords Go.Proofs.YtlnpfhadkbpjoaaW.PrintLast Go.Proofs.YtlnpfhadkbpjoaaW.PrintMore
set_option linter.unusedVariables false
def repairR (data : List Int) (s : Int) : List Int × Int × Int := if (readR data s).2.2 = 0 then (data.take (readR data s).2.1.toNat, (if s > (readR data s).2.1 then (readR data s).2.1 else s), 0) else ([], 0, (readR data s).2.2)
theorem repair_ev (data : List Int) (s : Int) (hb : okB data) (hl : data.length ≤ 140737488351232) : Ev (fun k => tape_Repair.f k data s) (repairR data s) := by
  obtain ⟨_, _, h0, h1⟩ := readR_bd data s hb
  unfold tape_Repair.f repairR
  refine ev_bind (read_ev data s hb) ?_
  by_cases h : (readR data s).2.2 = 0
  · simp only [if_pos h, if_pos h0, if_pos h1]
    have hm : mn s (readR data s).2.1 = if s > (readR data s).2.1 then (readR data s).2.1 else s := by
      unfold mn
      by_cases c : s > (readR data s).2.1
      · rw [if_pos c]
      · rw [if_neg c]
    rw [hm]
    exact ev_const (fun k => by unfold slices_Clone_byte_byte.f; rw [if_pos (by rw [List.length_take]; omega)]; rfl)
  · simp only [if_neg h]
    exact Ev.now _
theorem repaired_ev (data : List Int) (s : Int) (hb : okB data) (hl : data.length ≤ 140737488351232) : Ev (fun k => foretellref_Repaired.f k data s) (repairR data s) := by
  obtain ⟨_, _, h0, h1⟩ := readR_bd data s hb
  unfold foretellref_Repaired.f repairR
  refine ev_bind (recordsOf_ev data s hb) ?_
  by_cases h : (readR data s).2.2 = 0
  · simp only [if_pos h]
    by_cases c : s > (readR data s).2.1
    · simp only [if_pos c]
      exact ev_bind (octets_ev data hl _ h0 h1) (Ev.now _)
    · simp only [if_neg c]
      exact ev_bind (octets_ev data hl _ h0 h1) (Ev.now _)
  · simp only [if_neg h]
    exact Ev.now _
theorem TapeRepairs (x0 : S24) (good0 : G24 x0) : ∃ k, foretelllaw_TapeRepairs.f k x0.f0 x0.f1 = some true := by
  have hb : okB x0.f0 := okB_of good0.1.2
  have hl : x0.f0.length ≤ 140737488351232 := by have := good0.1.1; omega
  refine Ev.rounds (g := fun k => foretelllaw_TapeRepairs.f k x0.f0 x0.f1) ?_
  unfold foretelllaw_TapeRepairs.f
  refine ev_call (tapes_eq _ _ hl) ?_
  refine ev_bind (repair_ev _ _ hb hl) (ev_bind (repaired_ev _ _ hb hl) ?_)
  simp only [if_true, sameTape_refl, Option.bind_some]
  exact Ev.now _
end Go.Proofs.Ytlnpfhadkbpjoaa.Pure
