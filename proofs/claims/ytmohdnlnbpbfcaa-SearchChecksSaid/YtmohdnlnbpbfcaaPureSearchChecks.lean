/- search.Check answers what P13.1 says, at every argument: foretelllaw.SearchChecks returns true, and its argument reads as before. No condition. -/
import Derived.Test.YtmohdnlnbpbfcaaQx11
import Derived.Test.YtmohdnlnbpbfcaaQo
import Derived.Test.YtmohdnlnbpbfcaaBase
namespace Go.Proofs.Ytmohdnlnbpbfcaa.Pure
open Go.RowKit Go.Proofs.Ytmohdnlnbpbfcaa.Q Go.Proofs.Ytmohdnlnbpbfcaa.Base Go.Proofs.YtmohdnlnbpbfcaaW.PrintWords Go.Proofs.YtmohdnlnbpbfcaaW.PrintLast Go.Proofs.YtmohdnlnbpbfcaaW.PrintMore
def movesSpec : List S65 → Int
  | [] => 0
  | m :: l => if m.f0 < 1 ∨ m.f0 > 4 then 13 else if m.f1 < 0 ∨ m.f1 > 2147483647 then 2 else movesSpec l
theorem search_loop (l : List S65) (hl : l.length ≤ 9223372036854775807) (d : Nat) : ∀ (i : Nat), i + d = l.length → Ev (fun k => search_Check.l0 k l (l.length : Int) i) (movesSpec (l.drop i)) := by
  induction d with
  | zero =>
    intro i hi
    rw [List.drop_of_length_le (by omega)]
    exact ev_now (fun k => by simp (disch := omega) only [search_Check.l0, if_neg, movesSpec])
  | succ d ih =>
    intro i hi
    have hlt : i < l.length := by omega
    have ih' := ih (i + 1) (by omega)
    have hg : rd_T65 l i = l[i] := getD_get _ _ _ hlt
    rw [List.drop_eq_getElem_cons hlt]
    obtain ⟨m, hm⟩ : ∃ m, m = l[i] := ⟨_, rfl⟩
    rw [← hm] at hg ⊢
    unfold movesSpec
    by_cases c1 : m.f0 < 1
    · rw [if_pos (.inl c1)]
      exact ev_nows 2 (fun k => by simp (disch := omega) only [search_Check.l0, if_pos, hg, search_Check.j1, if_true])
    by_cases c2 : m.f0 > 4
    · rw [if_pos (.inr c2)]
      exact ev_nows 2 (fun k => by simp (disch := omega) only [search_Check.l0, if_pos, if_neg, hg, search_Check.j1, decide_eq_true_eq])
    rw [if_neg (by omega)]
    by_cases c3 : m.f1 < 0
    · rw [if_pos (.inl c3)]
      exact ev_nows 2 (fun k => by simp (disch := omega) only [search_Check.l0, hg, search_Check.j1, decide_eq_true_eq, if_pos, if_neg])
    by_cases c4 : m.f1 > 2147483647
    · rw [if_pos (.inr c4)]
      exact ev_nows 2 (fun k => by simp (disch := omega) only [search_Check.l0, hg, search_Check.j1, decide_eq_true_eq, if_pos, if_neg])
    rw [if_neg (by omega)]
    refine ev_steps 2 (fun k => ?_) ih'
    simp (disch := omega) only [search_Check.l0, hg, search_Check.j1, decide_eq_true_eq, if_pos, if_neg, wrap_id]
    rfl
theorem faults_loop (l : List S65) (hl : l.length ≤ 9223372036854775807) (d : Nat) : ∀ (i : Nat), i + d = l.length → Ev (fun k => foretellref_MovesFault.l0 k l i) (movesSpec (l.drop i)) := by
  induction d with
  | zero =>
    intro i hi
    rw [List.drop_of_length_le (by omega)]
    exact ev_now (fun k => by simp (disch := omega) only [foretellref_MovesFault.l0, if_neg, movesSpec])
  | succ d ih =>
    intro i hi
    have hlt : i < l.length := by omega
    have ih' := ih (i + 1) (by omega)
    have hg : rd_T65 l i = l[i] := getD_get _ _ _ hlt
    rw [List.drop_eq_getElem_cons hlt]
    obtain ⟨m, hm⟩ : ∃ m, m = l[i] := ⟨_, rfl⟩
    rw [← hm] at hg ⊢
    unfold movesSpec
    by_cases c1 : m.f0 < 1 ∨ m.f0 > 4
    · rw [if_pos c1]
      refine ev_now (fun k => ?_)
      rcases c1 with c1 | c1 <;> simp (disch := omega) only [foretellref_MovesFault.l0, foretellref_In.f, hg, if_pos, if_neg, Option.bind_some, decide_eq_true_eq, Bool.false_eq_true, if_false]
    rw [if_neg c1]
    by_cases c3 : m.f1 < 0 ∨ m.f1 > 2147483647
    · rw [if_pos c3]
      refine ev_now (fun k => ?_)
      rcases c3 with c3 | c3 <;> simp (disch := omega) only [foretellref_MovesFault.l0, foretellref_In.f, hg, if_pos, if_neg, Option.bind_some, decide_eq_true_eq, Bool.false_eq_true, if_false]
    rw [if_neg c3]
    refine Ev.step (fun k => ?_) ih'
    simp (disch := omega) only [foretellref_MovesFault.l0, foretellref_In.f, hg, if_pos, Option.bind_some, decide_eq_true_eq, wrap_id]
    rfl
theorem SearchChecks (x0 : List S65) (good0 : (x0.length * 16 ≤ 140737488351232 ∧ ∀ zx0 ∈ x0, G65 zx0)) : ∃ k, foretelllaw_SearchChecks.f k x0 = some true := by
  obtain ⟨g1, g2⟩ := good0
  refine Ev.rounds (g := fun k => foretelllaw_SearchChecks.f k x0) ?_
  unfold foretelllaw_SearchChecks.f
  refine ev_call (a := x0) (by unfold foretelllaw_moves.f; rw [if_pos (by simp; omega)]; rfl) ?_
  obtain ⟨r, h1, h2⟩ : ∃ r, Ev (fun k => search_Check.f k x0) r ∧ Ev (fun k => foretellref_MovesFault.f k x0) r := by
    unfold search_Check.f foretellref_MovesFault.f
    by_cases c : (x0.length : Int) > 5000
    · exact ⟨1, ev_const (fun k => by rw [if_pos c]), ev_const (fun k => by rw [if_pos c])⟩
    · refine ⟨movesSpec x0, ?_, ?_⟩
      · simp only [if_neg c]; exact search_loop x0 (by omega) x0.length 0 (by omega)
      · simp only [if_neg c]; exact faults_loop x0 (by omega) x0.length 0 (by omega)
  refine ev_bind h1 (ev_bind h2 ?_)
  exact ev_const (fun k => by rw [beq_self_eq_true])
end Go.Proofs.Ytmohdnlnbpbfcaa.Pure
