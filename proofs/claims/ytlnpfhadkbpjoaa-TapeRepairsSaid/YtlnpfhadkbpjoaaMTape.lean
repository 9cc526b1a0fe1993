/- What the tape's calls come to: plain functions on lists of bytes. Plain Lean over the printed functions. -/
import Derived.Test.YtlnpfhadkbpjoaaQx4
import Derived.Test.YtlnpfhadkbpjoaaQx10
import Derived.Test.YtlnpfhadkbpjoaaQx22
import Derived.Test.YtlnpfhadkbpjoaaQx2
import Derived.Test.YtlnpfhadkbpjoaaQx19
import Derived.Test.YtlnpfhadkbpjoaaQo
import Derived.Test.YtlnpfhadkbpjoaaBase
namespace Go.Proofs.Ytlnpfhadkbpjoaa.Pure
open Go.RowKit Go.Proofs.Ytlnpfhadkbpjoaa.Q Go.Proofs.Ytlnpfhadkbpjoaa.Base Go.Proofs.YtlnpfhadkbpjoaaW.PrintWords Go.Proofs.YtlnpfhadkbpjoaaW.PrintLast Go.Proofs.YtlnpfhadkbpjoaaW.PrintMore
set_option linter.unusedVariables false
/-- A tape that may be. -/
def tapeMay (l : List Int) (s : Int) : Prop := 0 ≤ s ∧ s ≤ (l.length : Int) ∧ (l.length : Int) ≤ 1048576
instance (l : List Int) (s : Int) : Decidable (tapeMay l s) := by unfold tapeMay; infer_instance
theorem open_ok {l : List Int} {s : Int} (h : tapeMay l s) : tape_open.f l s = some (l, s, true) := by
  obtain ⟨h0, h1, h2⟩ := h
  unfold tape_open.f slices_Clone_byte_byte.f
  simp (disch := omega) only [if_neg, if_pos, Option.bind_some]
theorem open_bad {l : List Int} {s : Int} (h : ¬ tapeMay l s) : tape_open.f l s = some ([], 0, false) := by
  unfold tape_open.f
  by_cases c0 : s < 0
  · rw [if_pos c0]
  by_cases c1 : s > (l.length : Int)
  · rw [if_neg c0, if_pos c1]
  · rw [if_neg c0, if_neg c1, if_pos (by unfold tapeMay at h; omega)]
theorem may_ok {l : List Int} {s : Int} (h : tapeMay l s) : foretellref_TapeMay.f l s = some true := by
  obtain ⟨h0, h1, h2⟩ := h
  unfold foretellref_TapeMay.f foretellref_In.f
  simp (disch := omega) only [if_pos, Option.bind_some, decide_eq_true]
theorem may_bad {l : List Int} {s : Int} (h : ¬ tapeMay l s) : foretellref_TapeMay.f l s = some false := by
  unfold foretellref_TapeMay.f foretellref_In.f
  by_cases c0 : (l.length : Int) ≤ 1048576
  · rw [if_pos c0]
    by_cases c1 : s ≥ 0
    · rw [if_pos c1, decide_eq_false (by unfold tapeMay at h; omega)]; rfl
    · rw [if_neg c1]; rfl
  · rw [if_neg c0]
theorem octets_loop (l : List Int) (hl : l.length ≤ 140737488351232) (n : Int) (hn : n ≤ (l.length : Int)) (d : Nat) : ∀ (i : Nat), (i : Int) + d = n → Ev (fun k => foretellref_Octets.l0 k l n (l.take i) i) (l.take n.toNat) := by
  induction d with
  | zero =>
    intro i hi
    obtain rfl : (i : Int) = n := by omega
    exact ev_now (fun k => by simp (disch := omega) only [foretellref_Octets.l0, if_neg, Int.toNat_natCast])
  | succ d ih =>
    intro i hi
    have hlt : i < l.length := by omega
    have ht : l.take i ++ [l[i]] = l.take (i + 1) := by rw [List.take_succ_eq_append_getElem hlt]
    have hq : (l.take i).length < 140737488355328 := by rw [List.length_take]; omega
    refine Ev.step (f := fun k => foretellref_Octets.l0 k l n (l.take (i + 1)) ((i + 1 : Nat) : Int)) (fun k => ?_) (ih (i + 1) (by omega))
    simp (disch := omega) only [foretellref_Octets.l0, if_pos, rd_get, wrap_id, ht]
    rfl
theorem octets_ev (l : List Int) (hl : l.length ≤ 140737488351232) (n : Int) (h0 : 0 ≤ n) (hn : n ≤ (l.length : Int)) : Ev (fun k => foretellref_Octets.f k l n) (l.take n.toNat) := octets_loop l hl n hn n.toNat 0 (by omega)
theorem octets_all (l : List Int) (hl : l.length ≤ 140737488351232) : Ev (fun k => foretellref_Octets.f k l (l.length : Int)) l := ev_eq (octets_ev l hl _ (by omega) (by omega)) (by simp)
theorem sameTape_refl (l : List Int) (s : Int) : foretelllaw_sameTape.f l s l s = some true := by
  unfold foretelllaw_sameTape.f foretelllaw_sameBytes.f
  simp
theorem tapes_eq (l : List Int) (s : Int) (h : l.length ≤ 140737488351232) : foretelllaw_tapes.f l s = some (l, s) := by
  unfold foretelllaw_tapes.f foretelllaw_octets.f
  rw [if_pos (by simp; omega)]
  rfl
end Go.Proofs.Ytlnpfhadkbpjoaa.Pure
