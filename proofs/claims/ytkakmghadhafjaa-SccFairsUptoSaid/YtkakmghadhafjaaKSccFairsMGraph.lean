-- Cut by a program of this session (wip/prune.py) from a longer text: declarations that the law does not need are left out.
import Derived.Test.YtkakmghadhafjaaKSccFairsQx2
import Derived.Test.YtkakmghadhafjaaKSccFairsQx8
import Derived.Test.YtkakmghadhafjaaKSccFairsQx6
import Derived.Test.YtkakmghadhafjaaKSccFairsQo
import Derived.Test.YtkakmghadhafjaaKSccFairsBase
namespace Go.Proofs.Ytkakmghadhafjaa.Pure
open Go.RowKit Go.Proofs.Ytkakmghadhafjaa.Q Go.Proofs.Ytkakmghadhafjaa.Base Go.Proofs.YtkakmghadhafjaaW.PrintWords Go.Proofs.YtkakmghadhafjaaW.PrintLast Go.Proofs.YtkakmghadhafjaaW.PrintMore
set_option linter.unusedVariables false
def rowIn (n : Int) (l : List Int) : Bool := l.all fun k => decide (0 ≤ k ∧ k < n)
theorem rowIn_bad {n x : Int} {l : List Int} (h : x < 0 ∨ n ≤ x) : rowIn n (x :: l) = false := by
  simp only [rowIn, List.all_cons]
  rw [decide_eq_false (by omega)]; rfl
theorem rowIn_ok {n x : Int} {l : List Int} (h0 : 0 ≤ x) (h1 : x < n) : rowIn n (x :: l) = rowIn n l := by
  simp only [rowIn, List.all_cons]
  rw [decide_eq_true (by omega)]; rfl
theorem ite_and (a b : Bool) : (if a = true then (if b = true then (0 : Int) else 9) else 9) = if (a && b) = true then 0 else 9 := by cases a <;> cases b <;> rfl
def restIn (n p : Int) : List (List Int) → List Int → Bool
  | l :: ls, s :: ss => rowIn n l && decide (0 ≤ s ∧ s < p) && restIn n p ls ss
  | _, _ => true
def pow2 (m : Int) : Int := 2 ^ m.toNat
theorem pow2_cases {m : Int} (h0 : 0 ≤ m) (h1 : m ≤ 6) : (m = 0 ∧ pow2 m = 1) ∨ (m = 1 ∧ pow2 m = 2) ∨ (m = 2 ∧ pow2 m = 4) ∨ (m = 3 ∧ pow2 m = 8) ∨ (m = 4 ∧ pow2 m = 16) ∨ (m = 5 ∧ pow2 m = 32) ∨ (m = 6 ∧ pow2 m = 64) := by
  have : m = 0 ∨ m = 1 ∨ m = 2 ∨ m = 3 ∨ m = 4 ∨ m = 5 ∨ m = 6 := by omega
  rcases this with rfl | rfl | rfl | rfl | rfl | rfl | rfl <;> simp [pow2]
theorem shl_pow2 {m : Int} (h0 : 0 ≤ m) (h1 : m ≤ 6) : shl .i64 1 m = pow2 m := by
  have : m = 0 ∨ m = 1 ∨ m = 2 ∨ m = 3 ∨ m = 4 ∨ m = 5 ∨ m = 6 := by omega
  rcases this with rfl | rfl | rfl | rfl | rfl | rfl | rfl <;> decide
theorem pow2_bd {m : Int} (h0 : 0 ≤ m) (h1 : m ≤ 6) : 1 ≤ pow2 m ∧ pow2 m ≤ 64 := by
  rcases pow2_cases h0 h1 with h | h | h | h | h | h | h <;> omega
def graphOK (n init : Int) (next : List (List Int)) (sets : List Int) (many : Int) : Bool :=
  decide (n ≤ 20000 ∧ (next.length : Int) = n ∧ (sets.length : Int) = n ∧ 0 ≤ init ∧ init ≤ n ∧ 0 ≤ many ∧ many ≤ 6) && restIn n (pow2 many) next sets
def okErr (b : Bool) : Int := if b then 0 else 9
section
variable (spots : List S98) (init : Int) (next : List (List Int)) (sets : List Int) (many : Int)
theorem scc_row (n : Int) (p : List (List Int)) (len x51 : Int) (i : Nat) (hi : i < sets.length) (hm0 : 0 ≤ many) (hm1 : many ≤ 6) (l : List Int) (hl : l.length ≤ 9223372036854775807) (r : Int)
    (hr : Ev (fun k => scc_Check.l0 k n p len (wrap64 (x51 + 1)) spots init next sets many) r) (d : Nat) : ∀ j : Nat, j + d = l.length →
    Ev (fun k => scc_Check.l1 k n i p len x51 l (l.length : Int) j spots init next sets many) (if rowIn n (l.drop j) && decide (0 ≤ sets[i] ∧ sets[i] < pow2 many) then r else 9) := by
  induction d with
  | zero =>
    intro j hj
    rw [List.drop_of_length_le (by omega)]
    have hs := shl_pow2 hm0 hm1
    by_cases c0 : sets[i] < 0
    · exact ev_now (fun k => by rw [if_neg (by simp [rowIn]; omega)]; simp (disch := omega) only [scc_Check.l1, if_neg, if_pos, rd_get])
    by_cases c1 : sets[i] ≥ pow2 many
    · exact ev_now (fun k => by rw [if_neg (by simp [rowIn]; omega)]; simp (disch := omega) only [scc_Check.l1, if_neg, if_pos, rd_get, hs])
    · rw [if_pos (by simp [rowIn]; omega)]
      exact Ev.step (fun k => by simp (disch := omega) only [scc_Check.l1, if_neg, if_pos, rd_get, hs]) hr
  | succ d ih =>
    intro j hj
    have hlt : j < l.length := by omega
    rw [List.drop_eq_getElem_cons hlt]
    by_cases c0 : l[j] < 0
    · exact ev_now (fun k => by rw [rowIn_bad (.inl c0)]; simp (disch := omega) only [scc_Check.l1, if_pos, rd_get, Bool.false_and, Bool.false_eq_true, if_false])
    by_cases c1 : l[j] ≥ n
    · exact ev_now (fun k => by rw [rowIn_bad (.inr c1)]; simp (disch := omega) only [scc_Check.l1, if_pos, if_neg, rd_get, Bool.false_and, Bool.false_eq_true, if_false])
    rw [rowIn_ok (by omega) (by omega)]
    refine Ev.step (fun k => ?_) (ih (j + 1) (by omega))
    simp (disch := omega) only [scc_Check.l1, if_pos, if_neg, rd_get, wrap_id]
    rfl
theorem scc_rest (hn : (next.length : Int) ≤ 20000) (hs : sets.length = next.length) (hm0 : 0 ≤ many) (hm1 : many ≤ 6) (hb : ∀ l ∈ next, l.length ≤ 9223372036854775807) (d : Nat) : ∀ i : Nat, i + d = next.length →
    Ev (fun k => scc_Check.l0 k (next.length : Int) next (next.length : Int) i spots init next sets many) (okErr (restIn (next.length : Int) (pow2 many) (next.drop i) (sets.drop i))) := by
  induction d with
  | zero =>
    intro i hi
    rw [List.drop_of_length_le (by omega)]
    exact ev_now (fun k => by simp (disch := omega) only [scc_Check.l0, if_neg, okErr, restIn, if_true])
  | succ d ih =>
    intro i hi
    have hlt : i < next.length := by omega
    have hlt2 : i < sets.length := by omega
    have hg : rd_L3 next i = next[i] := getD_get _ _ _ hlt
    have h1 := scc_row spots init next sets many (next.length : Int) next (next.length : Int) i i hlt2 hm0 hm1 next[i] (hb _ (List.getElem_mem hlt)) _ (by rw [wrap_id (by omega) (by omega)]; exact ih (i + 1) (by omega)) next[i].length 0 (by omega)
    refine Ev.step (f := fun k => scc_Check.l1 k (next.length : Int) i next (next.length : Int) i next[i] (next[i].length : Int) ((0 : Nat) : Int) spots init next sets many) (fun k => ?_) (ev_eq h1 ?_)
    · simp (disch := omega) only [scc_Check.l0, if_pos, hg]
      rfl
    · rw [List.drop_eq_getElem_cons hlt, List.drop_eq_getElem_cons hlt2, List.drop_zero]
      simp only [restIn, okErr]
      exact ite_and _ _
theorem check_ev (hb : ∀ l ∈ next, l.length ≤ 9223372036854775807) : Ev (fun k => scc_Check.f k spots init next sets many) (okErr (graphOK spots.length init next sets many)) := by
  unfold scc_Check.f
  have bad : ∀ b, b = true → Ev (fun k => scc_Check.j0 k (spots.length : Int) b spots init next sets many) 9 := fun b hb => ev_now (fun k => by simp only [scc_Check.j0, hb, if_true])
  have h9 : ∀ {c : Prop} [Decidable c], ¬ c → okErr (decide c && restIn (spots.length : Int) (pow2 many) next sets) = 9 := fun h => by simp [okErr, h]
  unfold graphOK
  by_cases c1 : (spots.length : Int) > 20000
  · simp only [if_pos c1]; rw [h9 (by omega)]; exact bad _ rfl
  simp only [if_neg c1]
  by_cases c2 : (next.length : Int) = (spots.length : Int)
  · simp only [if_pos c2]
    by_cases c3 : (sets.length : Int) = (spots.length : Int)
    · simp only [if_pos c3]
      by_cases c4 : init < 0
      · simp only [if_pos c4]; rw [h9 (by omega)]; exact bad _ rfl
      simp only [if_neg c4]
      by_cases c5 : init > (spots.length : Int)
      · simp only [if_pos c5]; rw [h9 (by omega)]; exact bad _ rfl
      simp only [if_neg c5]
      by_cases c6 : many < 0
      · simp only [if_pos c6]; rw [h9 (by omega)]; exact bad _ rfl
      simp only [if_neg c6]
      by_cases c7 : many > 6
      · rw [h9 (by omega)]; exact bad _ (decide_eq_true c7)
      · have e : ((spots.length : Int)) = (next.length : Int) := c2.symm
        have hr := scc_rest spots init next sets many (by omega) (by omega) (by omega) (by omega) hb next.length 0 (by omega)
        refine Ev.step (f := fun k => scc_Check.l0 k (next.length : Int) next (next.length : Int) ((0 : Nat) : Int) spots init next sets many) (fun k => ?_) (ev_eq hr ?_)
        · simp only [scc_Check.j0, decide_eq_true_eq, if_neg c7, e]; rfl
        · rw [decide_eq_true (by omega), e]; rfl
    · simp only [if_neg c3]; rw [h9 (by omega)]; exact bad _ rfl
  · simp only [if_neg c2]; rw [h9 (by omega)]; exact bad _ rfl
theorem fault_row (n p : Int) (i : Nat) (hi : i < next.length) (hn0 : 0 ≤ n) (hn1 : n ≤ 20000) (hl : next[i].length ≤ 9223372036854775807) (r : Int)
    (hr : Ev (fun k => foretellref_GraphFault.l1 k n p (wrap64 ((i : Int) + 1)) spots init next sets many) r) (d : Nat) : ∀ j : Nat, j + d = next[i].length →
    Ev (fun k => foretellref_GraphFault.l2 k n p i j spots init next sets many) (if rowIn n (next[i].drop j) then r else 9) := by
  have hg : rd_L3 next i = next[i] := getD_get _ _ _ hi
  induction d with
  | zero =>
    intro j hj
    rw [List.drop_of_length_le (by omega), if_pos (by simp [rowIn])]
    exact Ev.step (fun k => by simp (disch := omega) only [foretellref_GraphFault.l2, if_neg, if_pos, hg]) hr
  | succ d ih =>
    intro j hj
    have hlt : j < next[i].length := by omega
    rw [List.drop_eq_getElem_cons hlt]
    by_cases c0 : next[i][j] < 0
    · exact ev_now (fun k => by rw [rowIn_bad (.inl c0)]; simp (disch := omega) only [foretellref_GraphFault.l2, foretellref_In.f, if_pos, if_neg, rd_get, hg, Option.bind_some, Bool.false_eq_true, if_false])
    by_cases c1 : next[i][j] ≥ n
    · exact ev_now (fun k => by rw [rowIn_bad (.inr c1)]; simp (disch := omega) only [foretellref_GraphFault.l2, foretellref_In.f, if_pos, if_neg, rd_get, hg, Option.bind_some, wrap_id, decide_eq_true_eq, Bool.false_eq_true, if_false])
    rw [rowIn_ok (by omega) (by omega)]
    refine Ev.step (fun k => ?_) (ih (j + 1) (by omega))
    simp (disch := omega) only [foretellref_GraphFault.l2, foretellref_In.f, if_pos, rd_get, hg, Option.bind_some, wrap_id, decide_eq_true_eq]
    rfl
theorem fault_rest (p : Int) (hp0 : 1 ≤ p) (hp1 : p ≤ 64) (hn : (next.length : Int) ≤ 20000) (hs : sets.length = next.length) (hb : ∀ l ∈ next, l.length ≤ 9223372036854775807) (d : Nat) : ∀ i : Nat, i + d = next.length →
    Ev (fun k => foretellref_GraphFault.l1 k (next.length : Int) p i spots init next sets many) (okErr (restIn (next.length : Int) p (next.drop i) (sets.drop i))) := by
  induction d with
  | zero =>
    intro i hi
    rw [List.drop_of_length_le (by omega)]
    exact ev_now (fun k => by simp (disch := omega) only [foretellref_GraphFault.l1, if_neg, okErr, restIn, if_true])
  | succ d ih =>
    intro i hi
    have hlt : i < next.length := by omega
    have hlt2 : i < sets.length := by omega
    rw [List.drop_eq_getElem_cons hlt, List.drop_eq_getElem_cons hlt2]
    simp only [restIn]
    by_cases c0 : sets[i] < 0
    · exact ev_now (fun k => by simp (disch := omega) only [foretellref_GraphFault.l1, foretellref_In.f, if_pos, if_neg, rd_get, Option.bind_some, Bool.false_eq_true, if_false]; rw [decide_eq_false (by omega)]; simp [okErr])
    by_cases c1 : sets[i] ≥ p
    · exact ev_now (fun k => by simp (disch := omega) only [foretellref_GraphFault.l1, foretellref_In.f, if_pos, if_neg, rd_get, Option.bind_some, wrap_id, decide_eq_true_eq]; rw [decide_eq_false (by omega)]; simp [okErr])
    have h1 := fault_row spots init next sets many (next.length : Int) p i hlt (by omega) hn (hb _ (List.getElem_mem hlt)) _ (by rw [wrap_id (by omega) (by omega)]; exact ih (i + 1) (by omega)) next[i].length 0 (by omega)
    refine Ev.step (f := fun k => foretellref_GraphFault.l2 k (next.length : Int) p i ((0 : Nat) : Int) spots init next sets many) (fun k => ?_) (ev_eq h1 ?_)
    · simp (disch := omega) only [foretellref_GraphFault.l1, foretellref_In.f, if_pos, rd_get, Option.bind_some, wrap_id, decide_eq_true_eq]
      rfl
    · rw [List.drop_zero, decide_eq_true (by omega)]
      simp only [okErr, Bool.and_true]
      exact ite_and _ _
theorem fault_pow (n : Int) (hm0 : 0 ≤ many) (hm1 : many ≤ 6) (r : Int) (h : Ev (fun k => foretellref_GraphFault.l1 k n (pow2 many) 0 spots init next sets many) r) : Ev (fun k => foretellref_GraphFault.l0 k n 1 0 spots init next sets many) r := by
  rcases pow2_cases hm0 hm1 with ⟨rfl, e⟩ | ⟨rfl, e⟩ | ⟨rfl, e⟩ | ⟨rfl, e⟩ | ⟨rfl, e⟩ | ⟨rfl, e⟩ | ⟨rfl, e⟩ <;> rw [e] at h
  · exact ev_steps 1 (fun k => by simp [foretellref_GraphFault.l0]) h
  · exact ev_steps 2 (fun k => by simp [foretellref_GraphFault.l0, wrap64]) h
  · exact ev_steps 3 (fun k => by simp [foretellref_GraphFault.l0, wrap64]) h
  · exact ev_steps 4 (fun k => by simp [foretellref_GraphFault.l0, wrap64]) h
  · exact ev_steps 5 (fun k => by simp [foretellref_GraphFault.l0, wrap64]) h
  · exact ev_steps 6 (fun k => by simp [foretellref_GraphFault.l0, wrap64]) h
  · exact ev_steps 7 (fun k => by simp [foretellref_GraphFault.l0, wrap64]) h
theorem fault_ev (hb : ∀ l ∈ next, l.length ≤ 9223372036854775807) : Ev (fun k => foretellref_GraphFault.f k spots init next sets many) (okErr (graphOK spots.length init next sets many)) := by
  unfold foretellref_GraphFault.f
  have bad : ∀ b, b = true → Ev (fun k => foretellref_GraphFault.j0 k (spots.length : Int) b spots init next sets many) 9 := fun b hb => ev_now (fun k => by simp only [foretellref_GraphFault.j0, hb, if_true])
  have h9 : ∀ {c : Prop} [Decidable c], ¬ c → okErr (decide c && restIn (spots.length : Int) (pow2 many) next sets) = 9 := fun h => by simp [okErr, h]
  unfold graphOK
  by_cases c1 : (spots.length : Int) > 20000
  · simp only [if_pos c1]; rw [h9 (by omega)]; exact bad _ rfl
  simp only [if_neg c1]
  by_cases c2 : (next.length : Int) = (spots.length : Int)
  · simp only [if_pos c2]
    by_cases c3 : (sets.length : Int) = (spots.length : Int)
    · simp only [if_pos c3]
      by_cases c4 : 0 ≤ init ∧ init ≤ (spots.length : Int)
      · refine ev_call (a := true) (by unfold foretellref_In.f; rw [if_pos c4.1, decide_eq_true c4.2]) ?_
        simp only [if_true]
        by_cases c6 : 0 ≤ many ∧ many ≤ 6
        · refine ev_call (a := true) (by unfold foretellref_In.f; rw [if_pos c6.1, decide_eq_true c6.2]) ?_
          have e : ((spots.length : Int)) = (next.length : Int) := c2.symm
          obtain ⟨hp0, hp1⟩ := pow2_bd c6.1 c6.2
          have hr := fault_rest spots init next sets many (pow2 many) hp0 hp1 (by omega) (by omega) hb next.length 0 (by omega)
          refine Ev.step (f := fun k => foretellref_GraphFault.l0 k (next.length : Int) 1 0 spots init next sets many) (fun k => ?_) (fault_pow spots init next sets many _ c6.1 c6.2 _ (ev_eq hr ?_))
          · simp only [foretellref_GraphFault.j0, e]; rfl
          · rw [decide_eq_true (by omega), e]; rfl
        · refine ev_call (a := false) (by unfold foretellref_In.f; split; rw [decide_eq_false (by omega)]; rfl) ?_
          rw [h9 (by omega)]; exact bad _ rfl
      · refine ev_call (a := false) (by unfold foretellref_In.f; split; rw [decide_eq_false (by omega)]; rfl) ?_
        simp only [Bool.false_eq_true, if_false]
        rw [h9 (by omega)]; exact bad _ rfl
    · simp only [if_neg c3]; rw [h9 (by omega)]; exact bad _ rfl
  · simp only [if_neg c2]; rw [h9 (by omega)]; exact bad _ rfl
end
theorem lists_loop (l : List (List Int)) (hl : l.length * 24 ≤ 140737488351232) (hb : ∀ x ∈ l, x.length * 8 ≤ 140737488351232) (d : Nat) : ∀ (i : Nat) (acc : List (List Int)), i + d = l.length → acc.length = i → Ev (fun k => foretelllaw_lists.l0 k l acc i) (acc ++ l.drop i) := by
  induction d with
  | zero =>
    intro i acc hi _
    rw [List.drop_of_length_le (by omega), List.append_nil]
    exact ev_now (fun k => by simp (disch := omega) only [foretelllaw_lists.l0, if_neg])
  | succ d ih =>
    intro i acc hi ha
    have hlt : i < l.length := by omega
    have hg : rd_L3 l i = l[i] := getD_get _ _ _ hlt
    have h8 := hb _ (List.getElem_mem hlt)
    have hc : foretelllaw_ints.f l[i] = some l[i] := by unfold foretelllaw_ints.f; rw [if_pos (by simp; omega)]; rfl
    rw [List.drop_eq_getElem_cons hlt]
    refine Ev.step (f := fun k => foretelllaw_lists.l0 k l (acc ++ [l[i]]) ((i + 1 : Nat) : Int)) (fun k => ?_) (ev_eq (ih (i + 1) (acc ++ [l[i]]) (by omega) (by simp [ha])) (List.append_assoc _ _ _))
    simp (disch := omega) only [foretelllaw_lists.l0, if_pos, hg, hc, Option.bind_some, wrap_id]
    rfl
theorem graphs_ev (g : S33) (h : G33 g) : Ev (fun k => foretelllaw_graphs.f k g.f0 g.f1 g.f2 g.f3 g.f4) (g.f0, g.f1, g.f2, g.f3, g.f4) := by
  obtain ⟨⟨h0, _⟩, _, ⟨h2, h2'⟩, ⟨h3, _⟩, _⟩ := h
  unfold foretelllaw_graphs.f
  simp only [if_pos (show ([] : List S98).length + g.f0.length < 8796093022208 by simp; omega)]
  refine ev_bind (lists_loop g.f2 h2 (fun x hx => (h2' x hx).1) g.f2.length 0 [] (by omega) rfl) ?_
  refine ev_call (a := g.f3) (by unfold foretelllaw_ints.f; rw [if_pos (by simp; omega)]; rfl) ?_
  exact ev_const (fun k => rfl)
theorem graph_len {g : S33} (h : G33 g) : ∀ l ∈ g.f2, l.length ≤ 9223372036854775807 := fun l hl => by
  have := (h.2.2.1.2 l hl).1
  omega
end Go.Proofs.Ytkakmghadhafjaa.Pure
