/- Words: the laws' own copies, letters by moments, and the test of a word. Plain Lean over the printed functions. -/
import Derived.Test.YtkakmghadhafjaaWx2
import Derived.Test.YtkakmghadhafjaaWx2
import Derived.Test.YtkakmghadhafjaaWx2
import Derived.Test.YtkakmghadhafjaaWo
import Derived.Test.YtkakmghadhafjaaMEv
namespace Go.Proofs.Ytkakmghadhafjaa.Pure
open Go.RowKit Go.Proofs.Ytkakmghadhafjaa Go.Proofs.Ytkakmghadhafjaa.W Go.Proofs.Ytkakmghadhafjaa.Base Go.Proofs.YtkakmghadhafjaaW.PrintWords Go.Proofs.YtkakmghadhafjaaW.PrintLast Go.Proofs.YtkakmghadhafjaaW.PrintMore
set_option linter.unusedVariables false
set_option linter.unusedSimpArgs false
theorem truthsW_eq (l : List Bool) (h : l.length * 1 ≤ 140737488351232) : foretelllaw_truths.f l = some l := by
  unfold foretelllaw_truths.f
  rw [if_pos (by simp; omega), List.nil_append]
theorem letters_loop (l : List (List Bool)) (hl : l.length * 24 ≤ 140737488351232) (hb : ∀ x ∈ l, x.length * 1 ≤ 140737488351232) (d : Nat) : ∀ (i : Nat) (acc : List (List Bool)), i + d = l.length → acc.length = i → Ev (fun k => foretelllaw_letters.l0 k l acc i) (acc ++ l.drop i) := by
  induction d with
  | zero =>
    intro i acc hi ha
    rw [List.drop_of_length_le (by omega), List.append_nil]
    exact ev_now (fun k => by simp (disch := omega) only [foretelllaw_letters.l0, if_neg])
  | succ d ih =>
    intro i acc hi ha
    have hlt : i < l.length := by omega
    have hg : rd_L1 l i = l[i] := getD_get _ _ _ hlt
    have ht := truthsW_eq l[i] (hb _ (List.getElem_mem hlt))
    have hlen : acc.length < 5864062014805 := Nat.lt_of_le_of_lt (show acc.length ≤ 5864062014634 by omega) (by decide)
    have c1 : (i : Int) < l.length := by omega
    have c2 : (0 : Int) ≤ (i : Int) := by omega
    have w1 : wrap64 ((i : Int) + 1) = (i : Int) + 1 := wrap_id (by omega) (by omega)
    refine ev_succ ?_
    simp only [foretelllaw_letters.l0, ↓reduceIte, c1, c2, hg, ht, Option.bind_some, hlen, w1]
    refine ev_eq (ih (i + 1) (acc ++ [l[i]]) (by omega) (by simp; omega)) ?_
    rw [List.drop_eq_getElem_cons hlt, List.append_assoc]
    rfl
theorem letters_ev (l : List (List Bool)) (hl : l.length * 24 ≤ 140737488351232) (hb : ∀ x ∈ l, x.length * 1 ≤ 140737488351232) : Ev (fun k => foretelllaw_letters.f k l) l := by
  unfold foretelllaw_letters.f
  have := letters_loop l hl hb l.length 0 [] (by omega) rfl
  simpa using this
theorem words_ev (w : S24) (h : G24 w) : Ev (fun k => foretelllaw_words.f k w.f0 w.f1) (w.f0, w.f1) := by
  unfold G24 at h
  unfold foretelllaw_words.f
  exact ev_bind (letters_ev w.f0 h.1.1 (fun x hx => (h.1.2 x hx).1)) (ev_bind (letters_ev w.f1 h.2.1 (fun x hx => (h.2.2 x hx).1)) (Ev.now _))
theorem inW_eq (a b c : Int) : foretellref_In.f a b c = some (decide (b ≤ a ∧ a ≤ c)) := by
  unfold foretellref_In.f
  by_cases h : a ≥ b
  · rw [if_pos h]
    congr 1
    simp only [decide_eq_decide]
    omega
  · rw [if_neg h]
    congr 1
    exact (decide_eq_false (by omega)).symm
theorem moment_small (st lp : List (List Bool)) (i : Nat) (h : i < st.length + lp.length) (hs : st.length ≤ 1000000) (hl : lp.length ≤ 1000000) : Ev (fun k => foretellref_momentOf.f k st lp i) (i : Int) := by
  unfold foretellref_momentOf.f
  refine ev_now (fun k => ?_)
  simp (disch := omega) only [foretellref_momentOf.l0, if_neg, wrap_id]
theorem letterAt_small (st lp : List (List Bool)) (i : Nat) (h : i < st.length + lp.length) (hs : st.length ≤ 1000000) (hl : lp.length ≤ 1000000) : Ev (fun k => foretellref_letterAt.f k st lp i) ((st ++ lp).getD i []) := by
  unfold foretellref_letterAt.f
  refine ev_bind (moment_small st lp i h hs hl) ?_
  by_cases c : i < st.length
  · have c1 : (i : Int) < st.length := by omega
    have c2 : (0 : Int) ≤ (i : Int) := by omega
    simp only [↓reduceIte, c1, c2]
    refine ev_eq (Ev.now _) ?_
    rw [show rd_L1 st i = st[i] from getD_get _ _ _ c]
    rw [List.getD_eq_getElem?_getD, List.getElem?_append_left c, List.getElem?_eq_getElem c]
    rfl
  · have c1 : ¬ (i : Int) < st.length := by omega
    have w1 : wrap64 ((i : Int) - st.length) = ((i - st.length : Nat) : Int) := by rw [wrap_id (by omega) (by omega)]; omega
    have c2 : (0 : Int) ≤ ((i - st.length : Nat) : Int) := Int.natCast_nonneg _
    have c3 : ((i - st.length : Nat) : Int) < lp.length := by omega
    simp only [↓reduceIte, c1, w1, c2, c3]
    refine ev_eq (Ev.now _) ?_
    rw [show rd_L1 lp ((i - st.length : Nat) : Int) = lp[i - st.length]'(by omega) from getD_get _ _ _ (by omega)]
    rw [List.getD_eq_getElem?_getD, List.getElem?_append_right (by omega), List.getElem?_eq_getElem (by omega)]
    rfl
theorem wordFault_loop (st lp : List (List Bool)) (n : Int) (hs : st.length ≤ 12) (hl : lp.length ≤ 12) (d : Nat) : ∀ i : Nat, i + d = st.length + lp.length → Ev (fun k => foretellref_WordFault.l0 k n i st lp) (if ((st ++ lp).drop i).all (fun x => decide ((x.length : Int) = n)) = true then 0 else 3) := by
  have w0 : wrap64 ((st.length : Int) + lp.length) = (st.length : Int) + lp.length := wrap_id (by omega) (by omega)
  induction d with
  | zero =>
    intro i hi
    rw [List.drop_of_length_le (by rw [List.length_append]; omega)]
    have c1 : ¬ (i : Int) < (st.length : Int) + lp.length := by omega
    refine ev_succ ?_
    simp only [foretellref_WordFault.l0, ↓reduceIte, w0, c1, List.all_nil]
    exact Ev.now _
  | succ d ih =>
    intro i hi
    have hlt : i < (st ++ lp).length := by rw [List.length_append]; omega
    have c1 : (i : Int) < (st.length : Int) + lp.length := by omega
    have w1 : wrap64 ((i : Int) + 1) = (i : Int) + 1 := wrap_id (by omega) (by omega)
    refine ev_succ ?_
    simp only [foretellref_WordFault.l0, ↓reduceIte, w0, c1, w1]
    refine ev_bind (letterAt_small st lp i (by omega) (by omega) (by omega)) ?_
    rw [List.drop_eq_getElem_cons hlt, List.all_cons, show (st ++ lp).getD i [] = (st ++ lp)[i] by rw [List.getD_eq_getElem?_getD, List.getElem?_eq_getElem hlt]; rfl]
    by_cases c : (((st ++ lp)[i].length : Nat) : Int) = n
    · simp only [c, ↓reduceIte, decide_true, Bool.true_and]
      exact ih (i + 1) (by omega)
    · simp only [c, ↓reduceIte, decide_false, Bool.false_and, Bool.false_eq_true]
      exact Ev.now _
theorem wordFault_ev (st lp : List (List Bool)) (n : Int) (hs : st.length ≤ 9223372036854775807) (hl : lp.length ≤ 9223372036854775807) : Ev (fun k => foretellref_WordFault.f k st lp n) (wordS st lp n) := by
  unfold foretellref_WordFault.f wordS
  refine ev_call (inW_eq _ _ _) ?_
  by_cases c0 : 0 ≤ n ∧ n ≤ 6
  · rw [decide_eq_true c0, if_neg (by omega)]
    simp only [↓reduceIte]
    have ff : ((false : Bool) = true) = False := by simp
    by_cases c1 : 12 < st.length
    · have c1' : (st.length : Int) > 12 := by omega
      rw [if_pos (.inl c1)]
      simp only [↓reduceIte, c1']
      refine ev_succ ?_
      simp only [foretellref_WordFault.j0, ↓reduceIte]
      exact Ev.now _
    · have c1' : ¬ (st.length : Int) > 12 := by omega
      simp only [↓reduceIte, c1']
      refine ev_call (inW_eq _ _ _) ?_
      by_cases c2 : 1 ≤ (lp.length : Int) ∧ (lp.length : Int) ≤ 12
      · rw [decide_eq_true c2, if_neg (by omega)]
        refine ev_succ ?_
        simp only [Bool.not_true, foretellref_WordFault.j0, ff, ↓reduceIte]
        exact wordFault_loop st lp n (by omega) (by omega) (st.length + lp.length) 0 (by omega)
      · rw [decide_eq_false c2, if_pos (by omega)]
        refine ev_succ ?_
        simp only [Bool.not_false, foretellref_WordFault.j0, ↓reduceIte]
        exact Ev.now _
  · rw [decide_eq_false c0, if_pos (by omega)]
    exact Ev.now _
end Go.Proofs.Ytkakmghadhafjaa.Pure
