/- polish.Split answers what P1.3 says, at every argument: foretelllaw.PolishSplits returns true, and its argument reads as before. No condition; package polish's table is as the program's text lays it (the card ties it). -/
import Derived.Test.YtmlkkpkaaicobaaDoorQx17
import Derived.Test.YtmlkkpkaaicobaaDoorQo
import Derived.Test.YtmlkkpkaaicobaaDoorMSplit
namespace Go.Proofs.YtmlkkpkaaicobaaDoor.Pure
open Go.RowKit Go.Proofs.YtmlkkpkaaicobaaDoor Go.Proofs.YtmlkkpkaaicobaaDoor.Q Go.Proofs.YtmlkkpkaaicobaaDoor.Base Go.Proofs.YtmlkkpkaaicobaaDoorW.PrintWords Go.Proofs.YtmlkkpkaaicobaaDoorW.PrintLast Go.Proofs.YtmlkkpkaaicobaaDoorW.PrintMore
set_option linter.unusedVariables false
theorem sameTerms_loop (l : List (List POp)) (hl : l.length ≤ 1000) (hb : ∀ x ∈ l, x.length ≤ 1000) (d : Nat) : ∀ i : Nat, i + d = l.length → Ev (fun k => foretelllaw_sameTerms.l0 k l l i) true := by
  induction d with
  | zero => exact fun i hi => ev_now (fun k => by simp (disch := omega) only [foretelllaw_sameTerms.l0, if_neg])
  | succ d ih =>
    intro i hi
    have hlt : i < l.length := by omega
    have hg : rd_L2 l i = l[i] := getD_get _ _ _ hlt
    refine Ev.step (f := fun k => (foretelllaw_sameOps.f k l[i] l[i]).bind fun t => if t = true then foretelllaw_sameTerms.l0 k l l ((i + 1 : Nat) : Int) else some false) (fun k => ?_) (ev_bind (sameOps_refl l[i] (by have := hb _ (List.getElem_mem hlt); omega)) ?_)
    · simp (disch := omega) only [foretelllaw_sameTerms.l0, if_pos, hg, wrap_id]
      rfl
    · simp only [if_true]
      exact ih (i + 1) (by omega)
theorem terms_bd : ∀ (n : Nat) (l : List POp), (terms l n).length ≤ n ∧ ∀ x ∈ terms l n, x.length ≤ l.length
  | 0, l => by simp [terms]
  | n + 1, l => by
    unfold terms
    split
    · rename_i r hr
      obtain ⟨h1, h2⟩ := terms_bd n r
      obtain ⟨k, hk, rfl, _⟩ := scan_suffix _ _ _ hr
      refine ⟨by simp only [List.length_cons]; omega, fun x hx => ?_⟩
      rcases List.mem_cons.1 hx with rfl | hx
      · simp
      · have := h2 x hx
        rw [List.length_drop] at this
        omega
    · simp
theorem splitS_bd (l : List POp) : (splitS l).1.length ≤ 1000 ∧ ∀ x ∈ (splitS l).1, x.length ≤ 1000 := by
  unfold splitS
  split
  · rename_i h
    obtain ⟨h1, hl, _⟩ := endsS_ok h
    cases l with
    | nil => simp [partsL]
    | cons o l =>
      obtain ⟨h2, h3⟩ := terms_bd (partsS o.f0).1.toNat l
      have hb := partsS_bd (a := o.f0)
      have hp : (partsS o.f0).2 = 0 := by
        unfold one at h1
        rw [scan_cons] at h1
        split at h1
        · assumption
        · cases h1
      have := hb hp
      refine ⟨by simp only [partsL]; omega, fun x hx => ?_⟩
      have := h3 x hx
      simp at hl
      omega
  · simp
theorem PolishSplits (x0 : List S63) (good0 : (x0.length * 16 ≤ 140737488351232 ∧ ∀ zx0 ∈ x0, G63 zx0)) : ∃ k, foretelllaw_PolishSplits.f k x0 = some true := by
  refine Ev.rounds (g := fun k => foretelllaw_PolishSplits.f k x0) ?_
  unfold foretelllaw_PolishSplits.f
  refine ev_call (ops_eq x0 good0.1) ?_
  refine ev_bind (split_ev x0) (ev_bind (splitOf_ev x0) ?_)
  simp only [if_true]
  obtain ⟨h1, h2⟩ := splitS_bd x0
  refine ev_bind (a := true) ?_ (Ev.now _)
  unfold foretelllaw_sameTerms.f
  simp only [if_true]
  exact sameTerms_loop _ h1 h2 (splitS x0).1.length 0 (by omega)
end Go.Proofs.YtmlkkpkaaicobaaDoor.Pure
