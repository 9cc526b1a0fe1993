import Derived.Test.YthffpjkkmkjplaaDoorKWordClaimsG8
import Derived.Test.YthffpjkkmkjplaaDoorKWordClaimsG16
import Derived.Test.YthffpjkkmkjplaaDoorKWordClaimsG14
import Derived.Test.YthffpjkkmkjplaaDoorKWordClaimsG18
import Derived.Test.YthffpjkkmkjplaaDoorKWordClaimsG17
import Derived.Test.YthffpjkkmkjplaaDoorKWordClaimsG12
-- Cut by a program of this session (wip/prune.py) from a longer text: declarations that the law does not need are left out.
namespace Go.Proofs.YthffpjkkmkjplaaDoor.Pure
open Go.RowKit Go.Proofs.YthffpjkkmkjplaaDoor Go.Proofs.YthffpjkkmkjplaaDoor.Q Go.Proofs.YthffpjkkmkjplaaDoor.Base Go.Proofs.YthffpjkkmkjplaaDoorW.PrintWords Go.Proofs.YthffpjkkmkjplaaDoorW.PrintLast Go.Proofs.YthffpjkkmkjplaaDoorW.PrintMore
set_option linter.unusedVariables false
set_option linter.unusedSimpArgs false
theorem truthsW_eq (l : List Bool) (h : l.length * 1 ≤ 140737488351232) : foretelllaw_truths.f l = some l := by
  unfold foretelllaw_truths.f
  rw [if_pos (by simp; omega), List.nil_append]
theorem letters_loop (l : List (List Bool)) (hl : l.length * 24 ≤ 140737488351232) (hb : ∀ x ∈ l, x.length * 1 ≤ 140737488351232) (d : Nat) : ∀ (i : Nat) (acc : List (List Bool)), i + d = l.length → acc.length = i → Ev (fun k => foretelllaw_letters.l0 k l acc i) (acc ++ l.drop i) := by
  induction d with
  | zero =>
    intro i acc hi ha
    rw [List.drop_of_length_le (by omega), List.append_nil]
    exact ev_now (fun k => by simp (disch := omega) only [foretelllaw_letters.l0, if_neg])
  | succ d ih =>
    intro i acc hi ha
    have hlt : i < l.length := by omega
    have hg : rd_L3 l i = l[i] := getD_get _ _ _ hlt
    have ht := truthsW_eq l[i] (hb _ (List.getElem_mem hlt))
    have hlen : acc.length < 5864062014805 := Nat.lt_of_le_of_lt (show acc.length ≤ 5864062014634 by omega) (by decide)
    have c1 : (i : Int) < l.length := by omega
    have c2 : (0 : Int) ≤ (i : Int) := by omega
    have w1 : wrap64 ((i : Int) + 1) = (i : Int) + 1 := wrap_id (by omega) (by omega)
    refine ev_succ ?_
    simp only [foretelllaw_letters.l0, ↓reduceIte, c1, c2, hg, ht, Option.bind_some, hlen, w1]
    refine ev_eq (ih (i + 1) (acc ++ [l[i]]) (by omega) (by simp; omega)) ?_
    rw [List.drop_eq_getElem_cons hlt, List.append_assoc]
    rfl
theorem letters_ev (l : List (List Bool)) (hl : l.length * 24 ≤ 140737488351232) (hb : ∀ x ∈ l, x.length * 1 ≤ 140737488351232) : Ev (fun k => foretelllaw_letters.f k l) l := by
  unfold foretelllaw_letters.f
  have := letters_loop l hl hb l.length 0 [] (by omega) rfl
  simpa using this
theorem words_ev (w : S25) (h : G25 w) : Ev (fun k => foretelllaw_words.f k w.f0 w.f1) (w.f0, w.f1) := by
  unfold G25 at h
  unfold foretelllaw_words.f
  exact ev_bind (letters_ev w.f0 h.1.1 (fun x hx => (h.1.2 x hx).1)) (ev_bind (letters_ev w.f1 h.2.1 (fun x hx => (h.2.2 x hx).1)) (Ev.now _))
theorem inW_eq (a b c : Int) : foretellref_In.f a b c = some (decide (b ≤ a ∧ a ≤ c)) := by
  unfold foretellref_In.f
  by_cases h : a ≥ b
  · rw [if_pos h]
    congr 1
    simp only [decide_eq_decide]
    omega
  · rw [if_neg h]
    congr 1
    exact (decide_eq_false (by omega)).symm
theorem moment_small (st lp : List (List Bool)) (i : Nat) (h : i < st.length + lp.length) (hs : st.length ≤ 1000000) (hl : lp.length ≤ 1000000) : Ev (fun k => foretellref_momentOf.f k st lp i) (i : Int) := by
  unfold foretellref_momentOf.f
  refine ev_now (fun k => ?_)
  simp (disch := omega) only [foretellref_momentOf.l0, if_neg, wrap_id]
theorem letterAt_small (st lp : List (List Bool)) (i : Nat) (h : i < st.length + lp.length) (hs : st.length ≤ 1000000) (hl : lp.length ≤ 1000000) : Ev (fun k => foretellref_letterAt.f k st lp i) ((st ++ lp).getD i []) := by
  unfold foretellref_letterAt.f
  refine ev_bind (moment_small st lp i h hs hl) ?_
  by_cases c : i < st.length
  · have c1 : (i : Int) < st.length := by omega
    have c2 : (0 : Int) ≤ (i : Int) := by omega
    simp only [↓reduceIte, c1, c2]
    refine ev_eq (Ev.now _) ?_
    rw [show rd_L3 st i = st[i] from getD_get _ _ _ c]
    rw [List.getD_eq_getElem?_getD, List.getElem?_append_left c, List.getElem?_eq_getElem c]
    rfl
  · have c1 : ¬ (i : Int) < st.length := by omega
    have w1 : wrap64 ((i : Int) - st.length) = ((i - st.length : Nat) : Int) := by rw [wrap_id (by omega) (by omega)]; omega
    have c2 : (0 : Int) ≤ ((i - st.length : Nat) : Int) := Int.natCast_nonneg _
    have c3 : ((i - st.length : Nat) : Int) < lp.length := by omega
    simp only [↓reduceIte, c1, w1, c2, c3]
    refine ev_eq (Ev.now _) ?_
    rw [show rd_L3 lp ((i - st.length : Nat) : Int) = lp[i - st.length]'(by omega) from getD_get _ _ _ (by omega)]
    rw [List.getD_eq_getElem?_getD, List.getElem?_append_right (by omega), List.getElem?_eq_getElem (by omega)]
    rfl
theorem wordFault_loop (st lp : List (List Bool)) (n : Int) (hs : st.length ≤ 12) (hl : lp.length ≤ 12) (d : Nat) : ∀ i : Nat, i + d = st.length + lp.length → Ev (fun k => foretellref_WordFault.l0 k n i st lp) (if ((st ++ lp).drop i).all (fun x => decide ((x.length : Int) = n)) = true then 0 else 3) := by
  have w0 : wrap64 ((st.length : Int) + lp.length) = (st.length : Int) + lp.length := wrap_id (by omega) (by omega)
  induction d with
  | zero =>
    intro i hi
    rw [List.drop_of_length_le (by rw [List.length_append]; omega)]
    have c1 : ¬ (i : Int) < (st.length : Int) + lp.length := by omega
    refine ev_succ ?_
    simp only [foretellref_WordFault.l0, ↓reduceIte, w0, c1, List.all_nil]
    exact Ev.now _
  | succ d ih =>
    intro i hi
    have hlt : i < (st ++ lp).length := by rw [List.length_append]; omega
    have c1 : (i : Int) < (st.length : Int) + lp.length := by omega
    have w1 : wrap64 ((i : Int) + 1) = (i : Int) + 1 := wrap_id (by omega) (by omega)
    refine ev_succ ?_
    simp only [foretellref_WordFault.l0, ↓reduceIte, w0, c1, w1]
    refine ev_bind (letterAt_small st lp i (by omega) (by omega) (by omega)) ?_
    rw [List.drop_eq_getElem_cons hlt, List.all_cons, show (st ++ lp).getD i [] = (st ++ lp)[i] by rw [List.getD_eq_getElem?_getD, List.getElem?_eq_getElem hlt]; rfl]
    by_cases c : (((st ++ lp)[i].length : Nat) : Int) = n
    · simp only [c, ↓reduceIte, decide_true, Bool.true_and]
      exact ih (i + 1) (by omega)
    · simp only [c, ↓reduceIte, decide_false, Bool.false_and, Bool.false_eq_true]
      exact Ev.now _
theorem wordFault_ev (st lp : List (List Bool)) (n : Int) (hs : st.length ≤ 9223372036854775807) (hl : lp.length ≤ 9223372036854775807) : Ev (fun k => foretellref_WordFault.f k st lp n) (wordS st lp n) := by
  unfold foretellref_WordFault.f wordS
  refine ev_call (inW_eq _ _ _) ?_
  by_cases c0 : 0 ≤ n ∧ n ≤ 6
  · rw [decide_eq_true c0, if_neg (by omega)]
    simp only [↓reduceIte]
    have ff : ((false : Bool) = true) = False := by simp
    by_cases c1 : 12 < st.length
    · have c1' : (st.length : Int) > 12 := by omega
      rw [if_pos (.inl c1)]
      simp only [↓reduceIte, c1']
      refine ev_succ ?_
      simp only [foretellref_WordFault.j0, ↓reduceIte]
      exact Ev.now _
    · have c1' : ¬ (st.length : Int) > 12 := by omega
      simp only [↓reduceIte, c1']
      refine ev_call (inW_eq _ _ _) ?_
      by_cases c2 : 1 ≤ (lp.length : Int) ∧ (lp.length : Int) ≤ 12
      · rw [decide_eq_true c2, if_neg (by omega)]
        refine ev_succ ?_
        simp only [Bool.not_true, foretellref_WordFault.j0, ff, ↓reduceIte]
        exact wordFault_loop st lp n (by omega) (by omega) (st.length + lp.length) 0 (by omega)
      · rw [decide_eq_false c2, if_pos (by omega)]
        refine ev_succ ?_
        simp only [Bool.not_false, foretellref_WordFault.j0, ↓reduceIte]
        exact Ev.now _
  · rw [decide_eq_false c0, if_pos (by omega)]
    exact Ev.now _
end Go.Proofs.YthffpjkkmkjplaaDoor.Pure
-- Cut by a program of this session (wip/prune.py) from a longer text: declarations that the law does not need are left out.
namespace Go.Proofs.YthffpjkkmkjplaaDoor.Pure
open Go.RowKit Go.Proofs.YthffpjkkmkjplaaDoor Go.Proofs.YthffpjkkmkjplaaDoor.Q Go.Proofs.YthffpjkkmkjplaaDoor.Base Go.Proofs.YthffpjkkmkjplaaDoorW.PrintWords Go.Proofs.YthffpjkkmkjplaaDoorW.PrintLast Go.Proofs.YthffpjkkmkjplaaDoorW.PrintMore
set_option linter.unusedVariables false
set_option linter.unusedSimpArgs false
theorem momentOf_ev (st lp : List (List Bool)) (n c : Nat) (hn : n = st.length + lp.length) (hc : c = lp.length) (hs : st.length ≤ 12) (h0 : 0 < c) (hl : c ≤ 12) : ∀ m : Nat, m ≤ 1000 → Ev (fun k => foretellref_momentOf.f k st lp (m : Int)) ((pS n c m : Nat) : Int) := by
  have w0 : wrap64 ((st.length : Int) + lp.length) = (n : Int) := by rw [wrap_id (by omega) (by omega)]; omega
  intro m
  unfold foretellref_momentOf.f
  induction m using Nat.strongRecOn with
  | ind m ih =>
    intro hm
    rcases Nat.lt_or_ge m n with h | h
    · rw [pS_lt h]
      refine ev_succ ?_
      have c1 : ¬ (m : Int) ≥ (n : Int) := by omega
      simp only [foretellref_momentOf.l0, w0, c1, ↓reduceIte]
      exact Ev.now _
    · rw [pS_ge h h0 (by omega)]
      have c1 : (m : Int) ≥ (n : Int) := by omega
      have w1 : wrap64 ((m : Int) - lp.length) = ((m - c : Nat) : Int) := by rw [wrap_id (by omega) (by omega)]; omega
      refine ev_succ ?_
      simp only [foretellref_momentOf.l0, w0, c1, ↓reduceIte, w1]
      exact ih (m - c) (by omega) (by omega)
def uE (n c : Nat) (A B : Nat → Bool) : Nat → Nat → Bool
  | 0, _ => false
  | d + 1, m => uA n c A B d m
theorem uE_succ (n c : Nat) (A B : Nat → Bool) (d m : Nat) : uE n c A B (d + 1) m = (B (pS n c m) || (A (pS n c m) && uE n c A B d (m + 1))) := by
  cases d with
  | zero => simp [uE, uA]
  | succ d => rfl
theorem rdN (xs : List Bool) (p : Nat) : rdOf false xs (p : Int) = xs.getD p false := rfl
theorem rowS_get {n c : Nat} {L : List (List Bool)} {o : POp} {a b : List Bool} {i : Nat} (h : o.f0 ≤ 14) (hi : i < n) : (rowS n c L o a b).getD i false = oneS n c L o a b i := by
  unfold rowS
  rw [if_neg (by omega), if_neg (by omega), if_neg (by omega), if_neg (by omega)]
  simp [List.getD_eq_getElem?_getD, hi]
theorem oneS_8 {n c : Nat} {L : List (List Bool)} {o : POp} {a b : List Bool} {i : Nat} (e : o.f0 = 8) : oneS n c L o a b i = (a.getD i false && b.getD i false) := by
  unfold oneS
  rw [if_neg (by omega), if_neg (by omega), if_neg (by omega), if_pos e]
theorem oneS_9 {n c : Nat} {L : List (List Bool)} {o : POp} {a b : List Bool} {i : Nat} (e : o.f0 = 9) : oneS n c L o a b i = (a.getD i false || b.getD i false) := by
  unfold oneS
  rw [if_neg (by omega), if_neg (by omega), if_neg (by omega), if_neg (by omega), if_pos e]
end Go.Proofs.YthffpjkkmkjplaaDoor.Pure
