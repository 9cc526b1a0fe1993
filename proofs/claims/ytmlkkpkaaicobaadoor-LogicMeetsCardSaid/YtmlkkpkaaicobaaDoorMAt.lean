/- Facts on ops that look ahead, for logic.Follows and logic.Meets. Plain Lean over the printed functions. -/
import Derived.Test.YtmlkkpkaaicobaaDoorLx4
import Derived.Test.YtmlkkpkaaicobaaDoorMTruths
import Derived.Test.YtmlkkpkaaicobaaDoorMEv
namespace Go.Proofs.YtmlkkpkaaicobaaDoor.Pure
open Go.RowKit Go.Proofs.YtmlkkpkaaicobaaDoor Go.Proofs.YtmlkkpkaaicobaaDoor.L Go.Proofs.YtmlkkpkaaicobaaDoor.Base Go.Proofs.YtmlkkpkaaicobaaDoorW.PrintWords Go.Proofs.YtmlkkpkaaicobaaDoorW.PrintLast Go.Proofs.YtmlkkpkaaicobaaDoorW.PrintMore
set_option linter.unusedVariables false
set_option linter.unusedSimpArgs false
theorem ahead_bind {β : Type} (a : Int) (F : Bool → Option β) : (logic_ahead.f a).bind F = F (ahd a) := by rw [ahead_eq]; rfl
theorem looks_bind {β : Type} (a : Int) (F : Bool → Option β) : (foretellref_looksAhead.f a).bind F = F (ahd a) := by rw [looksAhead_eq]; rfl
theorem ahd_facts {l : List POp} (h1 : one l) (hl : l.length ≤ 60) (i : Nat) (hi : i < l.length) (ha : ahd l[i].f0 = true) :
    i + 1 < l.length ∧ (l[i].f0 = 14 ∨ l[i].f0 = 17 ∨ l[i].f0 = 18 ∨ (l[i].f0 = 15 ∨ l[i].f0 = 16) ∧ 0 ≤ endAt l (i + 1) ∧ endAt l (i + 1) < (l.length : Int) ∧ Ev (fun k => foretellref_secondAt.f k l (i : Int)) (endAt l (i + 1))) := by
  have hk : 14 ≤ l[i].f0 ∧ l[i].f0 ≤ 18 := of_decide_eq_true ha
  have : l[i].f0 = 14 ∨ l[i].f0 = 17 ∨ l[i].f0 = 18 ∨ l[i].f0 = 15 ∨ l[i].f0 = 16 := by omega
  have two : arIs l[i] 2 → i + 1 < l.length ∧ 0 ≤ endAt l (i + 1) ∧ endAt l (i + 1) < (l.length : Int) ∧ Ev (fun k => foretellref_secondAt.f k l (i : Int)) (endAt l (i + 1)) := by
    intro h2
    obtain ⟨s1, s2, s3, s4⟩ := second_at h1 i hi h2
    exact ⟨s1, by omega, s3, ev_eq (secondAt_ev h1 hl i hi h2) (by omega)⟩
  rcases this with e | e | e | e | e
  · exact ⟨first_at h1 i hi 0 (by unfold arIs; rw [e]; decide), .inl e⟩
  · exact ⟨first_at h1 i hi 0 (by unfold arIs; rw [e]; decide), .inr (.inl e)⟩
  · exact ⟨first_at h1 i hi 0 (by unfold arIs; rw [e]; decide), .inr (.inr (.inl e))⟩
  · obtain ⟨a, b, c, d⟩ := two (by unfold arIs; rw [e]; decide)
    exact ⟨a, .inr (.inr (.inr ⟨.inl e, b, c, d⟩))⟩
  · obtain ⟨a, b, c, d⟩ := two (by unfold arIs; rw [e]; decide)
    exact ⟨a, .inr (.inr (.inr ⟨.inr e, b, c, d⟩))⟩
theorem truthsS_ok {l : List POp} {letter : List Bool} {claim : Int} (h : (truthsS l letter claim).2 = 0) : checkS l letter.length = 0 ∧ 0 ≤ claim ∧ claim < 2 ^ cA l ∧ (truthsS l letter claim).1 = trS letter claim l 0 := by
  unfold truthsS at h ⊢
  by_cases hc : checkS l letter.length = 0
  · rw [if_pos hc] at h ⊢
    split at h
    · rename_i h2
      rw [if_pos h2]
      exact ⟨hc, h2.1, h2.2, rfl⟩
    · cases h
  · rw [if_neg hc] at h; exact absurd h hc
theorem ends_of {l : List POp} {n : Int} (h : checkS l n = 0) : polish_Ends.f l = some ((List.range l.length).map (endAt l), 0) := by
  show some (endsS l) = _
  rw [(checkS_ok h).2.2.2]
end Go.Proofs.YtmlkkpkaaicobaaDoor.Pure
