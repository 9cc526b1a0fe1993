/- polish.Depth answers what P1.4 says, at every argument: foretelllaw.PolishDepths returns true. No condition; package polish's table is as the program's text lays it (the card ties it). -/
import Derived.Test.YtmlkkpkaaicobaaDoorQx20
import Derived.Test.YtmlkkpkaaicobaaDoorQo
import Derived.Test.YtmlkkpkaaicobaaDoorMSplit
import Derived.Test.YtmlkkpkaaicobaaDoorMDepth
namespace Go.Proofs.YtmlkkpkaaicobaaDoor.Pure
open Go.RowKit Go.Proofs.YtmlkkpkaaicobaaDoor Go.Proofs.YtmlkkpkaaicobaaDoor.Q Go.Proofs.YtmlkkpkaaicobaaDoor.Base Go.Proofs.YtmlkkpkaaicobaaDoorW.PrintWords Go.Proofs.YtmlkkpkaaicobaaDoorW.PrintLast Go.Proofs.YtmlkkpkaaicobaaDoorW.PrintMore
set_option linter.unusedVariables false
def depthS (l : List POp) : Int × Int := if (endsS l).2 = 0 then ((deep l l.length : Int), 0) else (0, (endsS l).2)
theorem depth_l1 (l : List POp) (hl : l.length ≤ 60) (i : Nat) (hi : i < l.length) (x6 : Int) (r : Int × Int) (hr : Ev (fun k => polish_Depth.l0 k ((List.range l.length).map (endAt l)) (mx x6 (over l i (i + 1))) (l.length : Int) ((i : Int) + 1)) r) (d : Nat) : ∀ m : Nat, m + d = i + 1 →
    Ev (fun k => polish_Depth.l1 k ((List.range l.length).map (endAt l)) x6 (i : Int) (over l i m : Int) (m : Int) (l.length : Int) (i : Int)) r := by
  induction d with
  | zero =>
    intro m hm
    obtain rfl : m = i + 1 := by omega
    refine Ev.step (fun k => ?_) hr
    simp (disch := omega) only [polish_Depth.l1, if_neg, wrap_id]
  | succ d ih =>
    intro m hm
    have hlt : m < ((List.range l.length).map (endAt l)).length := by simp; omega
    have hg : rd ((List.range l.length).map (endAt l)) (m : Int) = endAt l m := by rw [rd_get _ _ hlt]; simp
    have := ih (m + 1) (by omega)
    have ho := over_le l i m
    have hll : ((List.range l.length).map (endAt l)).length = l.length := by simp
    unfold over at this
    refine Ev.step (fun k => ?_) this
    simp (disch := omega) only [polish_Depth.l1, if_pos, hg, hll]
    by_cases c : (i : Int) < endAt l m
    · simp (disch := omega) only [if_pos c, wrap_id]
      rfl
    · simp (disch := omega) only [if_neg c, wrap_id]
      rfl
theorem depth_l0 (l : List POp) (hl : l.length ≤ 60) (d : Nat) : ∀ i : Nat, i + d = l.length →
    Ev (fun k => polish_Depth.l0 k ((List.range l.length).map (endAt l)) (deep l i : Int) (l.length : Int) (i : Int)) ((deep l l.length : Int), 0) := by
  induction d with
  | zero =>
    intro i hi
    obtain rfl : i = l.length := by omega
    exact ev_now (fun k => by simp (disch := omega) only [polish_Depth.l0, if_neg])
  | succ d ih =>
    intro i hi
    have h1 := ih (i + 1) (by omega)
    have h2 := depth_l1 l hl i (by omega) (deep l i : Int) _ (by
      have e : mx (deep l i : Int) (over l i (i + 1) : Int) = (deep l (i + 1) : Int) := by
        rw [show deep l (i + 1) = max (deep l i) (over l i (i + 1)) from rfl]
        unfold mx
        split <;> omega
      rw [e]
      exact h1) (i + 1) 0 (by omega)
    refine Ev.step (fun k => ?_) h2
    simp (disch := omega) only [polish_Depth.l0, if_pos]
    rfl
theorem depth_ev (l : List POp) : Ev (fun k => polish_Depth.f k l) (depthS l) := by
  unfold polish_Depth.f depthS
  refine ev_call (a := endsS l) rfl ?_
  by_cases h : (endsS l).2 = 0
  · simp only [if_pos h]
    obtain ⟨h1, hl, he⟩ := endsS_ok h
    rw [he]
    exact depth_l0 l hl l.length 0 (by omega)
  · simp only [if_neg h]
    exact Ev.now _
theorem depthOf_loop (P : List (List POp)) (hP : P.length ≤ 60) (hD : ∀ x ∈ P, x.length ≤ 60 ∧ Ev (fun k => foretellref_DepthOf.f k x) ((deep x x.length : Int), 0)) (d : Nat) : ∀ (i m : Nat), i + d = P.length → m ≤ 60 →
    Ev (fun k => foretellref_DepthOf.l0 k P (m : Int) (i : Int)) ((((P.drop i).foldl (fun a x => max a (deep x x.length)) m + 1 : Nat) : Int), 0) := by
  induction d with
  | zero =>
    intro i m hi hm
    rw [List.drop_of_length_le (by omega)]
    exact ev_now (fun k => by simp (disch := omega) only [foretellref_DepthOf.l0, if_neg, wrap_id, List.foldl_nil]; rfl)
  | succ d ih =>
    intro i m hi hm
    have hlt : i < P.length := by omega
    have hg : rd_L2 P i = P[i] := getD_get _ _ _ hlt
    obtain ⟨h1, h2⟩ := hD P[i] (List.getElem_mem hlt)
    have h3 := deep_le P[i] P[i].length
    rw [List.drop_eq_getElem_cons hlt, List.foldl_cons]
    refine Ev.step (f := fun k => (foretellref_DepthOf.f k P[i]).bind fun bt195 => (if bt195.1 > (m : Int) then (foretellref_DepthOf.l0 k P bt195.1 ((i + 1 : Nat) : Int)) else (foretellref_DepthOf.l0 k P m ((i + 1 : Nat) : Int)))) (fun k => ?_) (ev_bind h2 ?_)
    · simp (disch := omega) only [foretellref_DepthOf.l0, if_pos, hg, wrap_id]
      rfl
    · by_cases c : (deep P[i] P[i].length : Int) > (m : Int)
      · simp only [if_pos c]
        rw [show max m (deep P[i] P[i].length) = deep P[i] P[i].length by omega]
        exact ih (i + 1) _ (by omega) (by omega)
      · simp only [if_neg c]
        rw [show max m (deep P[i] P[i].length) = m by omega]
        exact ih (i + 1) _ (by omega) (by omega)
theorem depthOf_ok : ∀ l, one l → l.length ≤ 60 → Ev (fun k => foretellref_DepthOf.f k l) ((deep l l.length : Int), 0) := by
  have key : ∀ l, one l → l.length ≤ 60 → (partsL l).length ≤ 60 → (∀ x ∈ partsL l, x.length ≤ 60 ∧ Ev (fun k => foretellref_DepthOf.f k x) ((deep x x.length : Int), 0)) → (partsL l).foldl (fun a x => max a (deep x x.length)) 0 + 1 = deep l l.length → Ev (fun k => foretellref_DepthOf.f k l) ((deep l l.length : Int), 0) := by
    intro l h1 hl hn hx he
    have h0 := depthOf_loop (partsL l) hn hx (partsL l).length 0 0 (by omega) (by omega)
    rw [List.drop_zero, he] at h0
    have hs : splitS l = (partsL l, 0) := by unfold splitS; rw [endsS_of_one h1 hl]; rfl
    refine Ev.step (f := fun k => (foretellref_SplitOf.f k l).bind fun bt190 => (if bt190.2 = 0 then (foretellref_DepthOf.l0 k bt190.1 0 0) else (some (0, bt190.2)))) (fun k => rfl) (ev_bind (ev_eq (splitOf_ev l) hs) ?_)
    simp only [if_true]
    exact h0
  refine one_ind ?_ ?_ ?_
  · intro o a hl
    refine key _ (one_leaf a) hl ?_ ?_ ?_ <;> rw [partsL_leaf a]
    · simp
    · simp
    · exact (deep_leaf a).symm
  · intro o p a hp ih hl
    simp at hl
    refine key _ (one_un a hp) (by simpa using hl) ?_ ?_ ?_ <;> rw [partsL_un a hp]
    · simp
    · simp only [List.mem_singleton]
      rintro x rfl
      exact ⟨by omega, ih (by omega)⟩
    · rw [List.length_cons, deep_un a hp _ (Nat.le_refl _)]
      simp; omega
  · intro o p q a hp hq ihp ihq hl
    simp at hl
    refine key _ (one_bin a hp hq) (by simpa using hl) ?_ ?_ ?_ <;> rw [partsL_bin a hp hq]
    · simp
    · simp only [List.mem_cons, List.not_mem_nil, or_false]
      rintro x (rfl | rfl)
      · exact ⟨by omega, ihp (by omega)⟩
      · exact ⟨by omega, ihq (by omega)⟩
    · rw [List.length_cons, List.length_append, deep_bin2 a hp hq _ (Nat.le_refl _)]
      simp; omega
theorem depthOf_ev (l : List POp) : Ev (fun k => foretellref_DepthOf.f k l) (depthS l) := by
  by_cases h : (endsS l).2 = 0
  · obtain ⟨h1, hl, he⟩ := endsS_ok h
    unfold depthS
    rw [if_pos h]
    exact depthOf_ok l h1 hl
  · have hs : splitS l = ([], (endsS l).2) := by unfold splitS; rw [if_neg h]
    refine Ev.step (f := fun k => (foretellref_SplitOf.f k l).bind fun bt190 => (if bt190.2 = 0 then (foretellref_DepthOf.l0 k bt190.1 0 0) else (some (0, bt190.2)))) (fun k => rfl) (ev_bind (ev_eq (splitOf_ev l) hs) ?_)
    simp only [if_neg h]
    unfold depthS
    rw [if_neg h]
    exact Ev.now _
theorem PolishDepths (x0 : List S63) (good0 : (x0.length * 16 ≤ 140737488351232 ∧ ∀ zx0 ∈ x0, G63 zx0)) : ∃ k, foretelllaw_PolishDepths.f k x0 = some true := by
  refine Ev.rounds (g := fun k => foretelllaw_PolishDepths.f k x0) ?_
  unfold foretelllaw_PolishDepths.f
  refine ev_call (ops_eq x0 good0.1) ?_
  refine ev_bind (depth_ev x0) (ev_bind (depthOf_ev x0) ?_)
  simp only [if_true, beq_self_eq_true]
  exact Ev.now _
end Go.Proofs.YtmlkkpkaaicobaaDoor.Pure
