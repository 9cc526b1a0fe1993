import Derived.Test.YthffpjkkmkjplaaDoorKWordHoldsG20
import Derived.Test.YthffpjkkmkjplaaDoorKWordHoldsG15
import Derived.Test.YthffpjkkmkjplaaDoorKWordHoldsG18
import Derived.Test.YthffpjkkmkjplaaDoorKWordHoldsG17
-- Cut by a program of this session (wip/prune.py) from a longer text: declarations that the law does not need are left out.
namespace Go.Proofs.YthffpjkkmkjplaaDoor.Pure
open Go.RowKit Go.Proofs.YthffpjkkmkjplaaDoor Go.Proofs.YthffpjkkmkjplaaDoor.Q Go.Proofs.YthffpjkkmkjplaaDoor.Base Go.Proofs.YthffpjkkmkjplaaDoorW.PrintWords Go.Proofs.YthffpjkkmkjplaaDoorW.PrintLast Go.Proofs.YthffpjkkmkjplaaDoorW.PrintMore
set_option linter.unusedVariables false
set_option linter.unusedSimpArgs false
set_option linter.unusedSectionVars false
section
variable (st lp : List (List Bool)) (n c : Nat) (hn : n = st.length + lp.length) (hc : c = lp.length) (hs : st.length ≤ 12) (h0 : 0 < c) (hl : c ≤ 12)
include hn hc hs h0 hl
theorem said_eq (l : List POp) (h1 : one l) (h60 : l.length ≤ 60) (pn : Nat) (hf : ∀ o ∈ l, fit (pn : Int) o = 0) (hw : ∀ x ∈ st ++ lp, x.length = pn) (rows : List (List Bool)) (at_ : Nat) (hat : at_ < l.length) (hrl : rows.length = l.length)
    (hrow : ∀ j, at_ < j → j < l.length → rows.getD j [] = (rowsS n c (st ++ lp) l).getD j []) (i : Nat) (hi : i < n) :
    foretellref_said.f l st lp rows (at_ : Int) (i : Int) = some (((rowsS n c (st ++ lp) l).getD at_ []).getD i false) := by
  have hNL : (st ++ lp).length = n := by rw [List.length_append]; omega
  have hSl := rowsS_len n c (st ++ lp) l
  have hall : ∀ j, at_ < j → rows.getD j [] = (rowsS n c (st ++ lp) l).getD j [] := by
    intro j hj
    by_cases h : j < l.length
    · exact hrow j hj h
    · rw [List.getD_eq_getElem?_getD, List.getD_eq_getElem?_getD, List.getElem?_eq_none (by omega), List.getElem?_eq_none (by omega)]
  have hp0 : ((st ++ lp).getD 0 []).length = pn := by
    rw [List.getD_eq_getElem?_getD, List.getElem?_eq_getElem (by omega)]
    exact hw _ (List.getElem_mem _)
  have hg : rd_T65 l (at_ : Int) = l[at_] := getD_get _ _ _ hat
  have hB : saidB l st lp rows (at_ : Int) (i : Int) = true := by
    simp only [saidB, Bool.and_eq_true, decide_eq_true_eq, List.all_eq_true, hp0, hNL, Int.toNat_natCast]
    refine ⟨⟨⟨⟨?_, h60, hs, by omega, by omega, Int.natCast_nonneg _, by omega, Int.natCast_nonneg _, by omega, hrl⟩, hf⟩, hw⟩, fun x hx => ?_⟩
    · have h1' : scan l 1 = .ok [] := h1
      rw [h1']
      rfl
    · obtain ⟨q, hq, rfl⟩ := List.mem_iff_getElem.1 hx
      rw [List.length_drop] at hq
      rw [List.getElem_drop]
      have hr := hrow (at_ + 1 + q) (by omega) (by omega)
      rw [List.getD_eq_getElem?_getD, List.getElem?_eq_getElem (by omega)] at hr
      rw [show rows[at_ + 1 + q] = (rowsS n c (st ++ lp) l).getD (at_ + 1 + q) [] from hr]
      exact rowsS_in n c (st ++ lp) l _ (by omega)
  unfold foretellref_said.f
  rw [if_pos hB]
  unfold saidV
  rw [hg, Int.toNat_natCast, Int.toNat_natCast, hNL, rowsS_at n c (st ++ lp) l at_ hat, hall (at_ + 1) (by omega), hall (at_ + 1 + _) (by omega), hc]
theorem rows_l1 (l : List POp) (h1 : one l) (h60 : l.length ≤ 60) (pn : Nat) (hf : ∀ o ∈ l, fit (pn : Int) o = 0) (hw : ∀ x ∈ st ++ lp, x.length = pn) (rows : List (List Bool)) (at_ : Nat) (hat : at_ < l.length) (hrl : rows.length = l.length)
    (hrow : ∀ j, at_ < j → j < l.length → rows.getD j [] = (rowsS n c (st ++ lp) l).getD j []) (r : List (List Bool))
    (hnext : Ev (fun k => foretellref_rowsOf.l0 k l (n : Int) (rows.set at_ ((rowsS n c (st ++ lp) l).getD at_ [])) ((at_ : Int) - 1) st lp) r) (d : Nat) :
    ∀ (i : Nat) (acc : List Bool), i + d = n → acc.length = i → acc = ((rowsS n c (st ++ lp) l).getD at_ []).take i → Ev (fun k => foretellref_rowsOf.l1 k l (n : Int) rows (at_ : Int) acc (i : Int) st lp) r := by
  have hlen := rowsS_in n c (st ++ lp) l at_ hat
  have c1 : (0 : Int) ≤ (at_ : Int) := Int.natCast_nonneg _
  have c2 : (at_ : Int) < (rows.length : Int) := by omega
  have w1 : wrap64 ((at_ : Int) - 1) = (at_ : Int) - 1 := wrap_id (by omega) (by omega)
  induction d with
  | zero =>
    intro i acc hi hl1 ha
    obtain rfl : i = n := by omega
    rw [List.take_of_length_le (by omega)] at ha
    subst ha
    refine ev_succ ?_
    have c3 : ¬ (i : Int) < (i : Int) := by omega
    simp only [foretellref_rowsOf.l1, ↓reduceIte, c3, c1, c2, w1, Int.toNat_natCast]
    exact hnext
  | succ d ih =>
    intro i acc hi hl1 ha
    have c3 : (i : Int) < (n : Int) := by omega
    have c4 : acc.length < 140737488355328 := by omega
    have w2 : wrap64 ((i : Int) + 1) = ((i + 1 : Nat) : Int) := by rw [wrap_id (by omega) (by omega)]; omega
    have hsd := said_eq st lp n c hn hc hs h0 hl l h1 h60 pn hf hw rows at_ hat hrl hrow i (by omega)
    refine ev_succ ?_
    simp only [foretellref_rowsOf.l1, ↓reduceIte, c3, c4, w2, hsd, Option.bind_some]
    refine ih (i + 1) _ (by omega) (by rw [List.length_append, List.length_singleton]; omega) ?_
    have hlt : i < ((rowsS n c (st ++ lp) l).getD at_ []).length := by omega
    rw [List.take_succ_eq_append_getElem hlt, ← ha]
    congr 2
    rw [List.getD_eq_getElem?_getD, List.getElem?_eq_getElem hlt]
    rfl
theorem rows_l0 (l : List POp) (h1 : one l) (h60 : l.length ≤ 60) (pn : Nat) (hf : ∀ o ∈ l, fit (pn : Int) o = 0) (hw : ∀ x ∈ st ++ lp, x.length = pn) (i : Nat) :
    ∀ (rows : List (List Bool)), i ≤ l.length → rows.length = l.length → (∀ j, i ≤ j → j < l.length → rows.getD j [] = (rowsS n c (st ++ lp) l).getD j []) → Ev (fun k => foretellref_rowsOf.l0 k l (n : Int) rows ((i : Int) - 1) st lp) (rowsS n c (st ++ lp) l) := by
  have hSl := rowsS_len n c (st ++ lp) l
  induction i with
  | zero =>
    intro rows hi hrl hrow
    have c1 : ¬ (((0 : Nat) : Int) - 1 ≥ 0) := by omega
    refine ev_succ ?_
    simp only [foretellref_rowsOf.l0, ↓reduceIte, c1]
    refine ev_eq (Ev.now _) (List.ext_getElem (by omega) fun j h2 h3 => ?_)
    have := hrow j (Nat.zero_le _) (by omega)
    rw [List.getD_eq_getElem?_getD, List.getD_eq_getElem?_getD, List.getElem?_eq_getElem h2, List.getElem?_eq_getElem h3] at this
    exact this
  | succ i ih =>
    intro rows hi hrl hrow
    rw [show ((i + 1 : Nat) : Int) - 1 = (i : Int) by omega]
    have c1 : (i : Int) ≥ 0 := by omega
    refine ev_succ ?_
    simp only [foretellref_rowsOf.l0, ↓reduceIte, c1]
    refine rows_l1 st lp n c hn hc hs h0 hl l h1 h60 pn hf hw rows i (by omega) hrl (fun j h2 h3 => hrow j (by omega) h3) _ (ih _ (by omega) (by rw [List.length_set]; exact hrl) fun j h2 h3 => ?_) n 0 [] (by omega) rfl (by simp)
    rw [List.getD_eq_getElem?_getD, List.getElem?_set]
    by_cases e : i = j
    · subst e
      rw [if_pos rfl, if_pos (by omega)]
      rfl
    · rw [if_neg e, ← List.getD_eq_getElem?_getD]
      exact hrow j (by omega) h3
theorem rowsOf_ev (l : List POp) (h1 : one l) (h60 : l.length ≤ 60) (pn : Nat) (hf : ∀ o ∈ l, fit (pn : Int) o = 0) (hw : ∀ x ∈ st ++ lp, x.length = pn) : Ev (fun k => foretellref_rowsOf.f k l st lp) (rowsS n c (st ++ lp) l) := by
  unfold foretellref_rowsOf.f
  have c1 : (0 : Int) ≤ (l.length : Int) := Int.natCast_nonneg _
  have c2 : ((l.length : Int)).toNat ≤ 11728124029610 := by omega
  have w0 : wrap64 ((st.length : Int) + lp.length) = (n : Int) := by rw [wrap_id (by omega) (by omega)]; omega
  have w1 : wrap64 ((l.length : Int) - 1) = (l.length : Int) - 1 := wrap_id (by omega) (by omega)
  simp only [c1, c2, ↓reduceIte, w0, w1]
  exact rows_l0 st lp n c hn hc hs h0 hl l h1 h60 pn hf hw l.length _ (Nat.le_refl _) (by simp) (fun j h2 h3 => absurd h2 (by omega))
end
theorem openE_ok {l : List POp} {st lp : List (List Bool)} {pn : Int} (h : openE l st lp pn = 0) : ∃ m : Nat, pn = (m : Int) ∧ one l ∧ l.length ≤ 60 ∧ (∀ o ∈ l, fit pn o = 0) ∧ st.length ≤ 12 ∧ 0 < lp.length ∧ lp.length ≤ 12 ∧ ∀ x ∈ st ++ lp, x.length = m := by
  unfold openE at h
  by_cases hc : checkS l pn = 0
  · rw [if_pos hc] at h
    obtain ⟨q1, q2, q3, q4⟩ := checkS_ok hc
    obtain ⟨q5, q6⟩ := checkS_fit hc
    unfold wordS at h
    rw [if_neg (by omega)] at h
    split at h
    · cases h
    · rename_i g
      split at h
      · rename_i ga
        refine ⟨pn.toNat, by omega, q2, q3, q6, by omega, by omega, by omega, fun x hx => ?_⟩
        have := List.all_eq_true.1 ga x hx
        have := of_decide_eq_true this
        omega
      · cases h
  · rw [if_neg hc] at h; exact absurd h hc
theorem formulaAndWord_ev (l : List POp) (st lp : List (List Bool)) (pn : Int) (hs : st.length ≤ 9223372036854775807) (hl : lp.length ≤ 9223372036854775807) : Ev (fun k => foretellref_formulaAndWord.f k l st lp pn) (openE l st lp pn) := by
  unfold foretellref_formulaAndWord.f openE
  refine ev_bind (formulaFault_ev l pn) ?_
  by_cases hc : checkS l pn = 0
  · simp only [hc, ↓reduceIte]
    exact ev_bind (wordFault_ev st lp pn hs hl) (Ev.now _)
  · simp only [hc, ↓reduceIte]
    exact Ev.now _
theorem momentsOf_ev (l : List POp) (st lp : List (List Bool)) (pn : Int) (hs : st.length ≤ 9223372036854775807) (hl : lp.length ≤ 9223372036854775807) : Ev (fun k => foretellref_MomentsOf.f k l st lp pn) (momentsS l st lp pn) := by
  unfold foretellref_MomentsOf.f momentsS
  refine ev_bind (formulaAndWord_ev l st lp pn hs hl) ?_
  by_cases hc : openE l st lp pn = 0
  · simp only [hc, ↓reduceIte]
    obtain ⟨m, rfl, q1, q2, q3, q4, q5, q6, q7⟩ := openE_ok hc
    refine ev_bind (rowsOf_ev st lp (st ++ lp).length lp.length (by rw [List.length_append]) rfl q4 q5 q6 l q1 q2 m q3 q7) ?_
    have c1 : (0 : Int) < ((rowsS (st ++ lp).length lp.length (st ++ lp) l).length : Int) := by rw [rowsS_len]; have := one_pos q1; omega
    simp only [c1, ↓reduceIte]
    exact Ev.now _
  · simp only [hc, ↓reduceIte]
    exact Ev.now _
theorem momentsS_len (l : List POp) (st lp : List (List Bool)) (pn : Int) : (momentsS l st lp pn).1.length ≤ 24 ∧ ((momentsS l st lp pn).2 = 0 → 0 < (momentsS l st lp pn).1.length) := by
  unfold momentsS
  by_cases hc : openE l st lp pn = 0
  · obtain ⟨m, rfl, q1, q2, q3, q4, q5, q6, q7⟩ := openE_ok hc
    rw [if_pos hc]
    have := rowsS_in (st ++ lp).length lp.length (st ++ lp) l 0 (one_pos q1)
    have hL : (st ++ lp).length = st.length + lp.length := List.length_append
    show ((rowsS (st ++ lp).length lp.length (st ++ lp) l).getD 0 []).length ≤ 24 ∧ ((0 : Int) = 0 → 0 < ((rowsS (st ++ lp).length lp.length (st ++ lp) l).getD 0 []).length)
    rw [this]
    omega
  · rw [if_neg hc]
    exact ⟨Nat.zero_le _, fun h => absurd h hc⟩
end Go.Proofs.YthffpjkkmkjplaaDoor.Pure
-- Cut by a program of this session (wip/prune.py) from a longer text: declarations that the law does not need are left out.
namespace Go.Proofs.YthffpjkkmkjplaaDoor.Pure
open Go.RowKit Go.Proofs.YthffpjkkmkjplaaDoor Go.Proofs.YthffpjkkmkjplaaDoor.Q Go.Proofs.YthffpjkkmkjplaaDoor.Base Go.Proofs.YthffpjkkmkjplaaDoorW.PrintWords Go.Proofs.YthffpjkkmkjplaaDoorW.PrintLast Go.Proofs.YthffpjkkmkjplaaDoorW.PrintMore
set_option linter.unusedVariables false
def holdsS (l : List POp) (st lp : List (List Bool)) (pn : Int) : Bool × Int := if openE l st lp pn = 0 then ((momentsS l st lp pn).1.getD 0 false, 0) else (false, openE l st lp pn)
theorem momentsS_err {l : List POp} {st lp : List (List Bool)} {pn : Int} : (momentsS l st lp pn).2 = openE l st lp pn := by
  unfold momentsS
  by_cases h : openE l st lp pn = 0
  · rw [if_pos h, h]
  · rw [if_neg h]
theorem holds_eq (l : List POp) (st lp : List (List Bool)) (pn : Int) : word_Holds.f l st lp pn = some (holdsS l st lp pn) := by
  unfold word_Holds.f holdsS
  rw [show word_Moments.f l st lp pn = some (momentsS l st lp pn) from rfl, Option.bind_some, momentsS_err]
  by_cases h : openE l st lp pn = 0
  · have h2 := (momentsS_len l st lp pn).2 (momentsS_err.trans h)
    rw [if_pos h, if_pos h, if_pos (by omega)]
    rfl
  · rw [if_neg h, if_neg h]
theorem holdsOf_ev (l : List POp) (st lp : List (List Bool)) (pn : Int) (hs : st.length ≤ 9223372036854775807) (hl : lp.length ≤ 9223372036854775807) : Ev (fun k => foretellref_HoldsOf.f k l st lp pn) (holdsS l st lp pn) := by
  unfold foretellref_HoldsOf.f holdsS
  refine ev_bind (momentsOf_ev l st lp pn hs hl) ?_
  rw [momentsS_err]
  by_cases h : openE l st lp pn = 0
  · have h2 := (momentsS_len l st lp pn).2 (momentsS_err.trans h)
    have c1 : (0 : Int) < ((momentsS l st lp pn).1.length : Int) := by omega
    simp only [h, c1, ↓reduceIte]
    exact Ev.now _
  · simp only [h, ↓reduceIte]
    exact Ev.now _
end Go.Proofs.YthffpjkkmkjplaaDoor.Pure
-- Cut by a program of this session (wip/prune.py) from a longer text: declarations that the law does not need are left out.
namespace Go.Proofs.YthffpjkkmkjplaaDoor.Pure
open Go.RowKit Go.Proofs.YthffpjkkmkjplaaDoor Go.Proofs.YthffpjkkmkjplaaDoor.Q Go.Proofs.YthffpjkkmkjplaaDoor.Base Go.Proofs.YthffpjkkmkjplaaDoorW.PrintWords Go.Proofs.YthffpjkkmkjplaaDoorW.PrintLast Go.Proofs.YthffpjkkmkjplaaDoorW.PrintMore
set_option linter.unusedVariables false
theorem WordHolds (x0 : List (S65)) (x1 : S25) (a2 : Int) (good0 : (x0.length * 16 ≤ 140737488351232 ∧ ∀ zx0 ∈ x0, G65 zx0)) (good1 : G25 x1) (w2 : (Lit.int .i64 a2).wf = true) : ∃ k, foretelllaw_WordHolds.f k x0 x1.f0 x1.f1 a2 = some true := by
  refine Ev.rounds (g := fun k => foretelllaw_WordHolds.f k x0 x1.f0 x1.f1 a2) ?_
  unfold foretelllaw_WordHolds.f
  have h0 : x1.f0.length ≤ 9223372036854775806 := by have := good1.1.1; omega
  have h1 : x1.f1.length ≤ 9223372036854775806 := by have := good1.2.1; omega
  refine ev_call (ops_eq x0 good0.1) (ev_bind (words_ev x1 good1) (ev_call (holds_eq x0 x1.f0 x1.f1 a2) (ev_bind (holdsOf_ev x0 x1.f0 x1.f1 a2 (by omega) (by omega)) ?_)))
  have hb : ∀ b : Bool, (b == b) = true := fun b => by cases b <;> rfl
  have hi : ∀ b : Int, (b == b) = true := fun b => by simp
  simp only [hb, hi, if_true]
  exact Ev.now _
end Go.Proofs.YthffpjkkmkjplaaDoor.Pure
