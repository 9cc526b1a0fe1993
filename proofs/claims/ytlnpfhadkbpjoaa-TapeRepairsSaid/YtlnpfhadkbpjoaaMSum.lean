/- What tape.Sum and the document's Summed come to: one fold over the bytes. Plain Lean over the printed functions. -/
import Derived.Test.YtlnpfhadkbpjoaaQx6
import Derived.Test.YtlnpfhadkbpjoaaQx13
import Derived.Test.YtlnpfhadkbpjoaaBase
namespace Go.Proofs.Ytlnpfhadkbpjoaa.Pure
open Go.RowKit Go.Proofs.Ytlnpfhadkbpjoaa.Q Go.Proofs.Ytlnpfhadkbpjoaa.Base Go.Proofs.YtlnpfhadkbpjoaaW.PrintWords Go.Proofs.YtlnpfhadkbpjoaaW.PrintLast Go.Proofs.YtlnpfhadkbpjoaaW.PrintMore
def sumStep (s c : Int) : Int := (s * 257 + c) % 2147483629
def sumOf (l : List Int) : Int := l.foldl sumStep 1
def okB (l : List Int) : Prop := ∀ x ∈ l, 0 ≤ x ∧ x ≤ 255
theorem sumOf_bd (l : List Int) : ∀ s : Int, 0 ≤ s → s < 2147483629 → 0 ≤ l.foldl sumStep s ∧ l.foldl sumStep s < 2147483629 := by
  induction l with
  | nil => exact fun s h0 h1 => ⟨h0, h1⟩
  | cons c l ih => exact fun s _ _ => ih _ (by unfold sumStep; omega) (by unfold sumStep; omega)
theorem sum_loop (l : List Int) (hl : l.length ≤ 9223372036854775807) (hb : okB l) (d : Nat) : ∀ (i : Nat) (s : Int), i + d = l.length → 0 ≤ s → s < 2147483629 → Ev (fun k => tape_Sum.l0 k s l (l.length : Int) i) ((l.drop i).foldl sumStep s) := by
  induction d with
  | zero =>
    intro i s hi h0 h1
    rw [List.drop_of_length_le (by omega)]
    exact ev_now (fun k => by simp (disch := omega) only [tape_Sum.l0, if_neg, List.foldl_nil])
  | succ d ih =>
    intro i s hi h0 h1
    have hlt : i < l.length := by omega
    obtain ⟨c0, c1⟩ := hb l[i] (List.getElem_mem hlt)
    have hs : 0 ≤ sumStep s l[i] ∧ sumStep s l[i] < 2147483629 := by unfold sumStep; omega
    rw [List.drop_eq_getElem_cons hlt, List.foldl_cons]
    refine Ev.step (f := fun k => tape_Sum.l0 k (sumStep s l[i]) l (l.length : Int) ((i + 1 : Nat) : Int)) (fun k => ?_) (ih (i + 1) _ (by omega) hs.1 hs.2)
    simp (disch := omega) only [tape_Sum.l0, if_pos, rd_get, wrap_id, tmod_of]
    rfl
theorem sum_ev (l : List Int) (hl : l.length ≤ 9223372036854775807) (hb : okB l) : Ev (fun k => tape_Sum.f k l) (sumOf l) := sum_loop l hl hb l.length 0 1 (by omega) (by omega) (by omega)
theorem summed_loop (l : List Int) (hl : l.length ≤ 9223372036854775807) (hb : okB l) (d : Nat) : ∀ (i : Nat) (s : Int), i + d = l.length → 0 ≤ s → s < 2147483629 → Ev (fun k => foretellref_Summed.l0 k l s i) ((l.drop i).foldl sumStep s) := by
  induction d with
  | zero =>
    intro i s hi h0 h1
    rw [List.drop_of_length_le (by omega)]
    exact ev_now (fun k => by simp (disch := omega) only [foretellref_Summed.l0, if_neg, List.foldl_nil])
  | succ d ih =>
    intro i s hi h0 h1
    have hlt : i < l.length := by omega
    obtain ⟨c0, c1⟩ := hb l[i] (List.getElem_mem hlt)
    have hs : 0 ≤ sumStep s l[i] ∧ sumStep s l[i] < 2147483629 := by unfold sumStep; omega
    rw [List.drop_eq_getElem_cons hlt, List.foldl_cons]
    refine Ev.step (f := fun k => foretellref_Summed.l0 k l (sumStep s l[i]) ((i + 1 : Nat) : Int)) (fun k => ?_) (ih (i + 1) _ (by omega) hs.1 hs.2)
    simp (disch := omega) only [foretellref_Summed.l0, if_pos, rd_get, wrap_id, tdiv_of]
    have : 257 * s + l[i] - (257 * s + l[i]) / 2147483629 * 2147483629 = sumStep s l[i] := by unfold sumStep; omega
    rw [this]; rfl
theorem summed_ev (l : List Int) (hl : l.length ≤ 9223372036854775807) (hb : okB l) : Ev (fun k => foretellref_Summed.f k l) (sumOf l) := summed_loop l hl hb l.length 0 1 (by omega) (by omega) (by omega)
theorem okB_of {l : List Int} (h : ∀ x ∈ l, (Lit.int .u8 x).wf = true) : okB l := fun x hx => wf_u8 (h x hx)
end Go.Proofs.Ytlnpfhadkbpjoaa.Pure
