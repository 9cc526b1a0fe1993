import Derived.Test.YthffpjkkmkjplaaDoorKWordClaimsG7
import Derived.Test.YthffpjkkmkjplaaDoorKWordClaimsG16
import Derived.Test.YthffpjkkmkjplaaDoorKWordClaimsG21
import Derived.Test.YthffpjkkmkjplaaDoorKWordClaimsG10
import Derived.Test.YthffpjkkmkjplaaDoorKWordClaimsG15
import Derived.Test.YthffpjkkmkjplaaDoorKWordClaimsG19
import Derived.Test.YthffpjkkmkjplaaDoorKWordClaimsG12
import Derived.Test.YthffpjkkmkjplaaDoorKWordClaimsG3
import Derived.Test.YthffpjkkmkjplaaDoorKWordClaimsG18
-- Cut by a program of this session (wip/prune.py) from a longer text: declarations that the law does not need are left out.
namespace Go.Proofs.YthffpjkkmkjplaaDoor.Pure
open Go.RowKit Go.Proofs.YthffpjkkmkjplaaDoor Go.Proofs.YthffpjkkmkjplaaDoor.Q Go.Proofs.YthffpjkkmkjplaaDoor.Base Go.Proofs.YthffpjkkmkjplaaDoorW.PrintWords Go.Proofs.YthffpjkkmkjplaaDoorW.PrintLast Go.Proofs.YthffpjkkmkjplaaDoorW.PrintMore
set_option linter.unusedVariables false
set_option linter.unusedSimpArgs false
set_option linter.unusedSectionVars false
section
variable (st lp : List (List Bool)) (n c : Nat) (hn : n = st.length + lp.length) (hc : c = lp.length) (hs : st.length ≤ 12) (h0 : 0 < c) (hl : c ≤ 12)
include hn hc hs h0 hl
theorem said_eq (l : List POp) (h1 : one l) (h60 : l.length ≤ 60) (pn : Nat) (hf : ∀ o ∈ l, fit (pn : Int) o = 0) (hw : ∀ x ∈ st ++ lp, x.length = pn) (rows : List (List Bool)) (at_ : Nat) (hat : at_ < l.length) (hrl : rows.length = l.length)
    (hrow : ∀ j, at_ < j → j < l.length → rows.getD j [] = (rowsS n c (st ++ lp) l).getD j []) (i : Nat) (hi : i < n) :
    foretellref_said.f l st lp rows (at_ : Int) (i : Int) = some (((rowsS n c (st ++ lp) l).getD at_ []).getD i false) := by
  have hNL : (st ++ lp).length = n := by rw [List.length_append]; omega
  have hSl := rowsS_len n c (st ++ lp) l
  have hall : ∀ j, at_ < j → rows.getD j [] = (rowsS n c (st ++ lp) l).getD j [] := by
    intro j hj
    by_cases h : j < l.length
    · exact hrow j hj h
    · rw [List.getD_eq_getElem?_getD, List.getD_eq_getElem?_getD, List.getElem?_eq_none (by omega), List.getElem?_eq_none (by omega)]
  have hp0 : ((st ++ lp).getD 0 []).length = pn := by
    rw [List.getD_eq_getElem?_getD, List.getElem?_eq_getElem (by omega)]
    exact hw _ (List.getElem_mem _)
  have hg : rd_T65 l (at_ : Int) = l[at_] := getD_get _ _ _ hat
  have hB : saidB l st lp rows (at_ : Int) (i : Int) = true := by
    simp only [saidB, Bool.and_eq_true, decide_eq_true_eq, List.all_eq_true, hp0, hNL, Int.toNat_natCast]
    refine ⟨⟨⟨⟨?_, h60, hs, by omega, by omega, Int.natCast_nonneg _, by omega, Int.natCast_nonneg _, by omega, hrl⟩, hf⟩, hw⟩, fun x hx => ?_⟩
    · have h1' : scan l 1 = .ok [] := h1
      rw [h1']
      rfl
    · obtain ⟨q, hq, rfl⟩ := List.mem_iff_getElem.1 hx
      rw [List.length_drop] at hq
      rw [List.getElem_drop]
      have hr := hrow (at_ + 1 + q) (by omega) (by omega)
      rw [List.getD_eq_getElem?_getD, List.getElem?_eq_getElem (by omega)] at hr
      rw [show rows[at_ + 1 + q] = (rowsS n c (st ++ lp) l).getD (at_ + 1 + q) [] from hr]
      exact rowsS_in n c (st ++ lp) l _ (by omega)
  unfold foretellref_said.f
  rw [if_pos hB]
  unfold saidV
  rw [hg, Int.toNat_natCast, Int.toNat_natCast, hNL, rowsS_at n c (st ++ lp) l at_ hat, hall (at_ + 1) (by omega), hall (at_ + 1 + _) (by omega), hc]
theorem rows_l1 (l : List POp) (h1 : one l) (h60 : l.length ≤ 60) (pn : Nat) (hf : ∀ o ∈ l, fit (pn : Int) o = 0) (hw : ∀ x ∈ st ++ lp, x.length = pn) (rows : List (List Bool)) (at_ : Nat) (hat : at_ < l.length) (hrl : rows.length = l.length)
    (hrow : ∀ j, at_ < j → j < l.length → rows.getD j [] = (rowsS n c (st ++ lp) l).getD j []) (r : List (List Bool))
    (hnext : Ev (fun k => foretellref_rowsOf.l0 k l (n : Int) (rows.set at_ ((rowsS n c (st ++ lp) l).getD at_ [])) ((at_ : Int) - 1) st lp) r) (d : Nat) :
    ∀ (i : Nat) (acc : List Bool), i + d = n → acc.length = i → acc = ((rowsS n c (st ++ lp) l).getD at_ []).take i → Ev (fun k => foretellref_rowsOf.l1 k l (n : Int) rows (at_ : Int) acc (i : Int) st lp) r := by
  have hlen := rowsS_in n c (st ++ lp) l at_ hat
  have c1 : (0 : Int) ≤ (at_ : Int) := Int.natCast_nonneg _
  have c2 : (at_ : Int) < (rows.length : Int) := by omega
  have w1 : wrap64 ((at_ : Int) - 1) = (at_ : Int) - 1 := wrap_id (by omega) (by omega)
  induction d with
  | zero =>
    intro i acc hi hl1 ha
    obtain rfl : i = n := by omega
    rw [List.take_of_length_le (by omega)] at ha
    subst ha
    refine ev_succ ?_
    have c3 : ¬ (i : Int) < (i : Int) := by omega
    simp only [foretellref_rowsOf.l1, ↓reduceIte, c3, c1, c2, w1, Int.toNat_natCast]
    exact hnext
  | succ d ih =>
    intro i acc hi hl1 ha
    have c3 : (i : Int) < (n : Int) := by omega
    have c4 : acc.length < 140737488355328 := by omega
    have w2 : wrap64 ((i : Int) + 1) = ((i + 1 : Nat) : Int) := by rw [wrap_id (by omega) (by omega)]; omega
    have hsd := said_eq st lp n c hn hc hs h0 hl l h1 h60 pn hf hw rows at_ hat hrl hrow i (by omega)
    refine ev_succ ?_
    simp only [foretellref_rowsOf.l1, ↓reduceIte, c3, c4, w2, hsd, Option.bind_some]
    refine ih (i + 1) _ (by omega) (by rw [List.length_append, List.length_singleton]; omega) ?_
    have hlt : i < ((rowsS n c (st ++ lp) l).getD at_ []).length := by omega
    rw [List.take_succ_eq_append_getElem hlt, ← ha]
    congr 2
    rw [List.getD_eq_getElem?_getD, List.getElem?_eq_getElem hlt]
    rfl
theorem rows_l0 (l : List POp) (h1 : one l) (h60 : l.length ≤ 60) (pn : Nat) (hf : ∀ o ∈ l, fit (pn : Int) o = 0) (hw : ∀ x ∈ st ++ lp, x.length = pn) (i : Nat) :
    ∀ (rows : List (List Bool)), i ≤ l.length → rows.length = l.length → (∀ j, i ≤ j → j < l.length → rows.getD j [] = (rowsS n c (st ++ lp) l).getD j []) → Ev (fun k => foretellref_rowsOf.l0 k l (n : Int) rows ((i : Int) - 1) st lp) (rowsS n c (st ++ lp) l) := by
  have hSl := rowsS_len n c (st ++ lp) l
  induction i with
  | zero =>
    intro rows hi hrl hrow
    have c1 : ¬ (((0 : Nat) : Int) - 1 ≥ 0) := by omega
    refine ev_succ ?_
    simp only [foretellref_rowsOf.l0, ↓reduceIte, c1]
    refine ev_eq (Ev.now _) (List.ext_getElem (by omega) fun j h2 h3 => ?_)
    have := hrow j (Nat.zero_le _) (by omega)
    rw [List.getD_eq_getElem?_getD, List.getD_eq_getElem?_getD, List.getElem?_eq_getElem h2, List.getElem?_eq_getElem h3] at this
    exact this
  | succ i ih =>
    intro rows hi hrl hrow
    rw [show ((i + 1 : Nat) : Int) - 1 = (i : Int) by omega]
    have c1 : (i : Int) ≥ 0 := by omega
    refine ev_succ ?_
    simp only [foretellref_rowsOf.l0, ↓reduceIte, c1]
    refine rows_l1 st lp n c hn hc hs h0 hl l h1 h60 pn hf hw rows i (by omega) hrl (fun j h2 h3 => hrow j (by omega) h3) _ (ih _ (by omega) (by rw [List.length_set]; exact hrl) fun j h2 h3 => ?_) n 0 [] (by omega) rfl (by simp)
    rw [List.getD_eq_getElem?_getD, List.getElem?_set]
    by_cases e : i = j
    · subst e
      rw [if_pos rfl, if_pos (by omega)]
      rfl
    · rw [if_neg e, ← List.getD_eq_getElem?_getD]
      exact hrow j (by omega) h3
theorem rowsOf_ev (l : List POp) (h1 : one l) (h60 : l.length ≤ 60) (pn : Nat) (hf : ∀ o ∈ l, fit (pn : Int) o = 0) (hw : ∀ x ∈ st ++ lp, x.length = pn) : Ev (fun k => foretellref_rowsOf.f k l st lp) (rowsS n c (st ++ lp) l) := by
  unfold foretellref_rowsOf.f
  have c1 : (0 : Int) ≤ (l.length : Int) := Int.natCast_nonneg _
  have c2 : ((l.length : Int)).toNat ≤ 11728124029610 := by omega
  have w0 : wrap64 ((st.length : Int) + lp.length) = (n : Int) := by rw [wrap_id (by omega) (by omega)]; omega
  have w1 : wrap64 ((l.length : Int) - 1) = (l.length : Int) - 1 := wrap_id (by omega) (by omega)
  simp only [c1, c2, ↓reduceIte, w0, w1]
  exact rows_l0 st lp n c hn hc hs h0 hl l h1 h60 pn hf hw l.length _ (Nat.le_refl _) (by simp) (fun j h2 h3 => absurd h2 (by omega))
end
theorem openE_ok {l : List POp} {st lp : List (List Bool)} {pn : Int} (h : openE l st lp pn = 0) : ∃ m : Nat, pn = (m : Int) ∧ one l ∧ l.length ≤ 60 ∧ (∀ o ∈ l, fit pn o = 0) ∧ st.length ≤ 12 ∧ 0 < lp.length ∧ lp.length ≤ 12 ∧ ∀ x ∈ st ++ lp, x.length = m := by
  unfold openE at h
  by_cases hc : checkS l pn = 0
  · rw [if_pos hc] at h
    obtain ⟨q1, q2, q3, q4⟩ := checkS_ok hc
    obtain ⟨q5, q6⟩ := checkS_fit hc
    unfold wordS at h
    rw [if_neg (by omega)] at h
    split at h
    · cases h
    · rename_i g
      split at h
      · rename_i ga
        refine ⟨pn.toNat, by omega, q2, q3, q6, by omega, by omega, by omega, fun x hx => ?_⟩
        have := List.all_eq_true.1 ga x hx
        have := of_decide_eq_true this
        omega
      · cases h
  · rw [if_neg hc] at h; exact absurd h hc
theorem formulaAndWord_ev (l : List POp) (st lp : List (List Bool)) (pn : Int) (hs : st.length ≤ 9223372036854775807) (hl : lp.length ≤ 9223372036854775807) : Ev (fun k => foretellref_formulaAndWord.f k l st lp pn) (openE l st lp pn) := by
  unfold foretellref_formulaAndWord.f openE
  refine ev_bind (formulaFault_ev l pn) ?_
  by_cases hc : checkS l pn = 0
  · simp only [hc, ↓reduceIte]
    exact ev_bind (wordFault_ev st lp pn hs hl) (Ev.now _)
  · simp only [hc, ↓reduceIte]
    exact Ev.now _
end Go.Proofs.YthffpjkkmkjplaaDoor.Pure
-- Cut by a program of this session (wip/prune.py) from a longer text: declarations that the law does not need are left out.
namespace Go.Proofs.YthffpjkkmkjplaaDoor.Pure
open Go.RowKit Go.Proofs.YthffpjkkmkjplaaDoor Go.Proofs.YthffpjkkmkjplaaDoor.Q Go.Proofs.YthffpjkkmkjplaaDoor.Base Go.Proofs.YthffpjkkmkjplaaDoorW.PrintWords Go.Proofs.YthffpjkkmkjplaaDoorW.PrintLast Go.Proofs.YthffpjkkmkjplaaDoorW.PrintMore
set_option linter.unusedVariables false
set_option linter.unusedSimpArgs false
theorem claims_l1 (l : List POp) (h60 : l.length ≤ 60) (hcA : cA l ≤ 6) (RW : List (List Bool)) (hRl : RW.length = l.length) (n : Nat) (hRn : ∀ j, j < l.length → (RW.getD j []).length = n) (hn : n ≤ 24) (i : Nat) (hi : i < n) (acc : List Int) (ha : acc.length ≤ 24) (r : List Int × Int)
    (hnext : Ev (fun k => foretellref_ClaimsOf.l0 k l RW (acc ++ [cIn RW (aheadL l 0) i (cA l)]) ((i + 1 : Nat) : Int)) r) (d : Nat) :
    ∀ at_ : Nat, at_ + d = l.length → Ev (fun k => foretellref_ClaimsOf.l1 k l RW acc (i : Int) (cIn RW (aheadL l 0) i (cA (l.take at_))) (pw (cA (l.take at_))) (at_ : Int)) r := by
  induction d with
  | zero =>
    intro at_ hd
    obtain rfl : at_ = l.length := by omega
    have c1 : ¬ ((l.length : Nat) : Int) < (l.length : Int) := by omega
    have c2 : acc.length < 17592186044416 := by omega
    have w1 : wrap64 ((i : Int) + 1) = ((i + 1 : Nat) : Int) := by rw [wrap_id (by omega) (by omega)]; omega
    refine ev_succ ?_
    simp only [foretellref_ClaimsOf.l1, ↓reduceIte, c1, c2, w1]
    rw [List.take_length]
    exact hnext
  | succ d ih =>
    intro at_ hd
    have hlt : at_ < l.length := by omega
    have hg : rd_T65 l (at_ : Int) = l[at_] := getD_get _ _ _ hlt
    have c1 : (at_ : Int) < (l.length : Int) := by omega
    have c2 : (0 : Int) ≤ (at_ : Int) := Int.natCast_nonneg _
    have w2 : wrap64 ((at_ : Int) + 1) = ((at_ + 1 : Nat) : Int) := by rw [wrap_id (by omega) (by omega)]; omega
    have hstep := cA_take l at_ hlt
    have hle : cA (l.take (at_ + 1)) ≤ cA l := by
      have := cA_append (l.take (at_ + 1)) (l.drop (at_ + 1))
      rw [List.take_append_drop] at this
      omega
    refine ev_succ ?_
    simp only [foretellref_ClaimsOf.l1, ↓reduceIte, c1, c2, hg, looksAhead_eq, Option.bind_some, w2]
    by_cases hA : ahd l[at_].f0 = true
    · rw [if_pos hA] at hstep
      have hget := aheadL_get l at_ 0 hlt hA
      rw [Nat.zero_add] at hget
      obtain ⟨b, hb⟩ : ∃ b, b = cA (l.take at_) := ⟨_, rfl⟩
      rw [← hb] at hstep hget ⊢
      have hbd := cIn_bd RW (aheadL l 0) i b (by omega)
      have hp := pw_bd (show b ≤ 6 by omega)
      have hbit : bitAt RW (aheadL l 0) i b = (RW.getD at_ []).getD i false := by
        unfold bitAt
        rw [List.getD_eq_getElem?_getD (l := aheadL l 0), hget]
        rfl
      have c3 : (at_ : Int) < (RW.length : Int) := by omega
      have c4 : (0 : Int) ≤ (i : Int) := Int.natCast_nonneg _
      have hrow : rd_L3 RW (at_ : Int) = RW.getD at_ [] := rfl
      have c5 : (i : Int) < ((RW.getD at_ []).length : Int) := by rw [hRn at_ hlt]; omega
      have hbi : rdOf false (RW.getD at_ []) (i : Int) = bitAt RW (aheadL l 0) i b := hbit.symm
      have w3 : wrap64 (pw b * 2) = pw (b + 1) := by rw [pw_succ, wrap_id (by omega) (by omega)]
      have w4 : wrap64 (cIn RW (aheadL l 0) i b + pw b) = cIn RW (aheadL l 0) i b + pw b := wrap_id (by omega) (by omega)
      have ih' := ih (at_ + 1) (by omega)
      rw [hstep, cIn] at ih'
      simp only [hA, ↓reduceIte, c3, c4, hrow, c5, hbi, w3, w4]
      cases hq : bitAt RW (aheadL l 0) i b
      · rw [hq] at ih'
        simp only [Bool.false_eq_true, ↓reduceIte, Int.add_zero] at ih' ⊢
        exact ih'
      · rw [hq] at ih'
        simp only [↓reduceIte] at ih' ⊢
        exact ih'
    · rw [if_neg hA, Nat.add_zero] at hstep
      have ih' := ih (at_ + 1) (by omega)
      rw [hstep] at ih'
      simp only [hA, Bool.false_eq_true, ↓reduceIte]
      exact ih'
theorem claims_l0 (l : List POp) (h60 : l.length ≤ 60) (hpos : 0 < l.length) (hcA : cA l ≤ 6) (RW : List (List Bool)) (hRl : RW.length = l.length) (n : Nat) (hRn : ∀ j, j < l.length → (RW.getD j []).length = n) (hn : n ≤ 24) (d : Nat) :
    ∀ (i : Nat) (acc : List Int), i + d = n → acc = (outS RW (aheadL l 0) n (cA l)).take i → Ev (fun k => foretellref_ClaimsOf.l0 k l RW acc (i : Int)) (outS RW (aheadL l 0) n (cA l), 0) := by
  have c0 : (0 : Int) < (RW.length : Int) := by omega
  have h0 : rd_L3 RW 0 = RW.getD 0 [] := rfl
  have hl0 := hRn 0 hpos
  have hol := outS_len RW (aheadL l 0) n (cA l)
  induction d with
  | zero =>
    intro i acc hi ha
    have c1 : ¬ (i : Int) < ((RW.getD 0 []).length : Int) := by rw [hl0]; omega
    refine ev_succ ?_
    simp only [foretellref_ClaimsOf.l0, ↓reduceIte, c0, h0, c1]
    rw [List.take_of_length_le (by omega)] at ha
    rw [ha]
    exact Ev.now _
  | succ d ih =>
    intro i acc hi ha
    have c1 : (i : Int) < ((RW.getD 0 []).length : Int) := by rw [hl0]; omega
    have hal : acc.length = i := by rw [ha, List.length_take]; omega
    refine ev_succ ?_
    simp only [foretellref_ClaimsOf.l0, ↓reduceIte, c0, h0, c1]
    refine claims_l1 l h60 hcA RW hRl n hRn hn i (by omega) acc (by omega) _ (ih (i + 1) _ (by omega) ?_) l.length 0 (by omega)
    have hlt : i < (outS RW (aheadL l 0) n (cA l)).length := by omega
    rw [List.take_succ_eq_append_getElem hlt, ← ha]
    congr 2
    simp [outS]
theorem claimsOf_ev (l : List POp) (st lp : List (List Bool)) (pn : Int) (hs : st.length ≤ 9223372036854775807) (hl : lp.length ≤ 9223372036854775807) : Ev (fun k => foretellref_ClaimsOf.f k l st lp pn) (claimsS l st lp pn) := by
  unfold foretellref_ClaimsOf.f claimsS
  refine ev_bind (formulaAndWord_ev l st lp pn hs hl) ?_
  by_cases hc : openE l st lp pn = 0
  · simp only [hc, ↓reduceIte]
    obtain ⟨m, rfl, q1, q2, q3, q4, q5, q6, q7⟩ := openE_ok hc
    have hck : checkS l (m : Int) = 0 := by
      unfold openE at hc
      by_cases h : checkS l (m : Int) = 0
      · exact h
      · rw [if_neg h] at hc; exact absurd hc h
    refine ev_bind (rowsOf_ev st lp (st ++ lp).length lp.length (by rw [List.length_append]) rfl q4 q5 q6 l q1 q2 m q3 q7) ?_
    rw [aheadL_cA]
    exact claims_l0 l q2 (one_pos q1) (checkS_fit hck).1 _ (rowsS_len _ _ _ _) _ (fun j hj => rowsS_in _ _ _ _ j hj) (by rw [List.length_append]; omega) (st ++ lp).length 0 [] (by omega) (by simp)
  · simp only [hc, ↓reduceIte]
    exact Ev.now _
theorem claimsS_len (l : List POp) (st lp : List (List Bool)) (pn : Int) : (claimsS l st lp pn).1.length ≤ 24 := by
  unfold claimsS
  by_cases hc : openE l st lp pn = 0
  · obtain ⟨m, rfl, q1, q2, q3, q4, q5, q6, q7⟩ := openE_ok hc
    rw [if_pos hc]
    show (outS _ _ _ _).length ≤ 24
    rw [outS_len, List.length_append]
    omega
  · rw [if_neg hc]
    exact Nat.zero_le _
end Go.Proofs.YthffpjkkmkjplaaDoor.Pure
-- Cut by a program of this session (wip/prune.py) from a longer text: declarations that the law does not need are left out.
namespace Go.Proofs.YthffpjkkmkjplaaDoor.Pure
open Go.RowKit Go.Proofs.YthffpjkkmkjplaaDoor Go.Proofs.YthffpjkkmkjplaaDoor.Q Go.Proofs.YthffpjkkmkjplaaDoor.Base Go.Proofs.YthffpjkkmkjplaaDoorW.PrintWords Go.Proofs.YthffpjkkmkjplaaDoorW.PrintLast Go.Proofs.YthffpjkkmkjplaaDoorW.PrintMore
set_option linter.unusedVariables false
theorem sameInts_loop (l : List Int) (hl : l.length ≤ 9223372036854775807) (d : Nat) : ∀ i : Nat, i + d = l.length → Ev (fun k => foretelllaw_sameInts.l0 k l l i) true := by
  induction d with
  | zero => exact fun i hi => ev_now (fun k => by simp (disch := omega) only [foretelllaw_sameInts.l0, if_neg])
  | succ d ih =>
    intro i hi
    refine Ev.step (fun k => ?_) (ih (i + 1) (by omega))
    simp (disch := omega) only [foretelllaw_sameInts.l0, if_pos, if_true, wrap_id]
    rfl
theorem sameInts_refl (l : List Int) (hl : l.length ≤ 9223372036854775807) : Ev (fun k => foretelllaw_sameInts.f k l l) true := by
  unfold foretelllaw_sameInts.f
  simp only [if_true]
  exact sameInts_loop l hl l.length 0 (by omega)
end Go.Proofs.YthffpjkkmkjplaaDoor.Pure
-- Cut by a program of this session (wip/prune.py) from a longer text: declarations that the law does not need are left out.
namespace Go.Proofs.YthffpjkkmkjplaaDoor.Pure
open Go.RowKit Go.Proofs.YthffpjkkmkjplaaDoor Go.Proofs.YthffpjkkmkjplaaDoor.Q Go.Proofs.YthffpjkkmkjplaaDoor.Base Go.Proofs.YthffpjkkmkjplaaDoorW.PrintWords Go.Proofs.YthffpjkkmkjplaaDoorW.PrintLast Go.Proofs.YthffpjkkmkjplaaDoorW.PrintMore
set_option linter.unusedVariables false
theorem WordClaims (x0 : List (S65)) (x1 : S25) (a2 : Int) (good0 : (x0.length * 16 ≤ 140737488351232 ∧ ∀ zx0 ∈ x0, G65 zx0)) (good1 : G25 x1) (w2 : (Lit.int .i64 a2).wf = true) : ∃ k, foretelllaw_WordClaims.f k x0 x1.f0 x1.f1 a2 = some true := by
  refine Ev.rounds (g := fun k => foretelllaw_WordClaims.f k x0 x1.f0 x1.f1 a2) ?_
  unfold foretelllaw_WordClaims.f
  have h0 : x1.f0.length ≤ 9223372036854775806 := by have := good1.1.1; omega
  have h1 : x1.f1.length ≤ 9223372036854775806 := by have := good1.2.1; omega
  have h2 := claimsS_len x0 x1.f0 x1.f1 a2
  refine ev_call (ops_eq x0 good0.1) (ev_bind (words_ev x1 good1) (ev_call (a := claimsS x0 x1.f0 x1.f1 a2) rfl (ev_bind (claimsOf_ev x0 x1.f0 x1.f1 a2 (by omega) (by omega)) ?_)))
  simp only [if_true]
  exact ev_bind (sameInts_refl _ (by omega)) (Ev.now _)
end Go.Proofs.YthffpjkkmkjplaaDoor.Pure
