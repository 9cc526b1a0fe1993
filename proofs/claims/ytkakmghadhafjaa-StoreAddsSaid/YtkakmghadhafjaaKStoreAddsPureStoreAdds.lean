-- Cut by a program of this session (wip/prune.py) from a longer text: declarations that the law does not need are left out.
import Derived.Test.YtkakmghadhafjaaKStoreAddsRx53
import Derived.Test.YtkakmghadhafjaaKStoreAddsMMerge
import Derived.Test.YtkakmghadhafjaaKStoreAddsMSameLists
namespace Go.Proofs.Ytkakmghadhafjaa.Pure
open Go.RowKit Go.Proofs.Ytkakmghadhafjaa.R Go.Proofs.Ytkakmghadhafjaa.Base Go.Proofs.YtkakmghadhafjaaW.PrintWords Go.Proofs.YtkakmghadhafjaaW.PrintLast Go.Proofs.YtkakmghadhafjaaW.PrintMore
set_option linter.unusedVariables false
set_option linter.unusedSimpArgs false
theorem own_loop (L : List Int) (runs : List (List Int)) (hr : runs.length ≤ 20000) (hb : ∀ r ∈ runs, r.length ≤ 20000) (d : Nat) : ∀ (i : Nat) (acc : List (List Int)), i + d = runs.length → acc.length = i → Ev (fun k => store_own.l0 k runs (runs.length : Int) i L acc) (L, acc ++ runs.drop i) := by
  induction d with
  | zero =>
    intro i acc hi ha
    have c1 : ¬ (i : Int) < (runs.length : Int) := by omega
    rw [List.drop_of_length_le (by omega), List.append_nil]
    refine ev_succ ?_
    simp only [store_own.l0, ↓reduceIte, c1]
    exact Ev.now _
  | succ d ih =>
    intro i acc hi ha
    have hlt : i < runs.length := by omega
    have hg : rd_L1 runs i = runs[i] := getD_get _ _ _ hlt
    have c1 : (i : Int) < (runs.length : Int) := by omega
    have c2 : (0 : Int) ≤ (i : Int) := by omega
    have c3 : acc.length < 5864062014805 := Nat.lt_of_le_of_lt (show acc.length ≤ 20000 by omega) (by decide)
    have c4 : runs[i].length < 17592186044416 := Nat.lt_of_le_of_lt (hb _ (List.getElem_mem hlt)) (by decide)
    have w1 : wrap64 ((i : Int) + 1) = ((i + 1 : Nat) : Int) := by rw [wrap_id (by omega) (by omega)]; rfl
    have := ih (i + 1) (acc ++ [runs[i]]) (by omega) (by simp; omega)
    refine ev_succ ?_
    simp only [store_own.l0, ↓reduceIte, c1, c2, hg, slices_Clone_int_int.f, c4, Option.bind_some, c3, w1]
    rw [List.drop_eq_getElem_cons hlt]
    rw [List.append_assoc] at this
    exact this
theorem own_ev (loose : List Int) (runs : List (List Int)) (hr : runs.length ≤ 20000) (hl : loose.length ≤ 20000) (hb : ∀ r ∈ runs, r.length ≤ 20000) : Ev (fun k => store_own.f k loose runs) (loose, runs) := by
  have c4 : loose.length < 17592186044416 := by omega
  unfold store_own.f
  simp only [slices_Clone_int_int.f, c4, ↓reduceIte, Option.bind_some]
  exact own_loop loose runs hr hb runs.length 0 [] (by omega) rfl
theorem count_loop (runs : List (List Int)) (hr : runs.length ≤ 20000) (d : Nat) : ∀ (i n : Nat), i + d = runs.length → n + (runs.drop i).flatten.length ≤ 40000 → Ev (fun k => store_keys.l0 k (n : Int) runs (runs.length : Int) i) ((n + (runs.drop i).flatten.length : Nat) : Int) := by
  induction d with
  | zero =>
    intro i n hi ha
    have c1 : ¬ (i : Int) < (runs.length : Int) := by omega
    rw [List.drop_of_length_le (by omega)]
    refine ev_succ ?_
    simp only [store_keys.l0, ↓reduceIte, c1]
    exact Ev.now _
  | succ d ih =>
    intro i n hi ha
    have hlt : i < runs.length := by omega
    have hg : rd_L1 runs i = runs[i] := getD_get _ _ _ hlt
    have c1 : (i : Int) < (runs.length : Int) := by omega
    have c2 : (0 : Int) ≤ (i : Int) := by omega
    have w1 : wrap64 ((i : Int) + 1) = ((i + 1 : Nat) : Int) := by rw [wrap_id (by omega) (by omega)]; rfl
    have hd : (runs.drop i).flatten.length = runs[i].length + (runs.drop (i + 1)).flatten.length := by rw [List.drop_eq_getElem_cons hlt, List.flatten_cons, List.length_append]
    rw [hd] at ha ⊢
    have w2 : wrap64 ((n : Int) + (runs[i].length : Int)) = ((n + runs[i].length : Nat) : Int) := by rw [wrap_id (by omega) (by omega)]; omega
    refine ev_succ ?_
    simp only [store_keys.l0, ↓reduceIte, c1, c2, hg, w1, w2]
    refine ev_eq (ih (i + 1) (n + runs[i].length) (by omega) (by omega)) (by omega)
theorem count_ev (loose : List Int) (runs : List (List Int)) (hr : runs.length ≤ 20000) (hn : (loose ++ runs.flatten).length ≤ 20000) : Ev (fun k => store_keys.f k loose runs) ((loose ++ runs.flatten).length : Int) := by
  rw [List.length_append] at hn ⊢
  unfold store_keys.f
  refine ev_eq (count_loop runs hr runs.length 0 loose.length (by omega) (by simp only [List.drop_zero]; omega)) ?_
  simp only [List.drop_zero]
theorem tail_loop (y last : List Int) (runs : List (List Int)) (m : Nat) (hm : m ≤ runs.length) (hr : runs.length ≤ 20000) (d : Nat) : ∀ (i : Nat) (acc : List (List Int)), i + d = m → acc = runs.take i → Ev (fun k => foretellref_KeyAdded.l1 k last (m : Int) acc i y runs) (([] : List Int), runs.take m ++ [last], true, 0) := by
  induction d with
  | zero =>
    intro i acc hi ha
    obtain rfl : i = m := by omega
    have c1 : ¬ (i : Int) < (i : Int) := by omega
    have c3 : acc.length < 5864062014805 := Nat.lt_of_le_of_lt (show acc.length ≤ 20000 by rw [ha, List.length_take]; omega) (by decide)
    refine ev_succ ?_
    simp only [foretellref_KeyAdded.l1, ↓reduceIte, c1, c3]
    rw [ha]
    exact Ev.now _
  | succ d ih =>
    intro i acc hi ha
    have hlt : i < runs.length := by omega
    have hg : rd_L1 runs i = runs[i] := getD_get _ _ _ hlt
    have c1 : (i : Int) < (m : Int) := by omega
    have c2 : (0 : Int) ≤ (i : Int) := by omega
    have c3 : (i : Int) < (runs.length : Int) := by omega
    have c4 : acc.length < 5864062014805 := Nat.lt_of_le_of_lt (show acc.length ≤ 20000 by rw [ha, List.length_take]; omega) (by decide)
    have w1 : wrap64 ((i : Int) + 1) = ((i + 1 : Nat) : Int) := by rw [wrap_id (by omega) (by omega)]; rfl
    have := ih (i + 1) (acc ++ [runs[i]]) (by omega) (by rw [ha, List.take_succ_eq_append_getElem hlt])
    refine ev_succ ?_
    simp only [foretellref_KeyAdded.l1, ↓reduceIte, c1, c2, c3, hg, c4, w1]
    exact this
theorem merge_both (y : List Int) (runs : List (List Int)) (hr : runs.length ≤ 20000) (hup : ∀ r ∈ runs, RowUp r 0) (m : Nat) : ∀ last : List Int, m ≤ runs.length → last.Pairwise (· ≤ ·) → last.length + (runs.take m).flatten.length ≤ 20001 →
    ∃ res : List (List Int), (res.length ≤ 20001 ∧ ∀ l ∈ res, l.length ≤ 20001) ∧ Ev (fun k => store_Add.l0 k ((m + 1 : Nat) : Int) (runs.take m ++ [last])) (([] : List Int), res, true, 0) ∧ Ev (fun k => foretellref_KeyAdded.l0 k last (m : Int) y runs) (([] : List Int), res, true, 0) := by
  have stay : ∀ (m : Nat) (last : List Int), m ≤ runs.length → last.length + (runs.take m).flatten.length ≤ 20001 → ((runs.take m ++ [last]).length ≤ 20001 ∧ ∀ l ∈ runs.take m ++ [last], l.length ≤ 20001) := by
    intro m last hm hl
    refine ⟨by rw [List.length_append, List.length_take]; simp; omega, fun l hl' => ?_⟩
    rcases List.mem_append.1 hl' with h | h
    · have := row_flat h; omega
    · obtain rfl : l = last := by simpa using h
      omega
  have refStay : ∀ (m : Nat) (last : List Int), m ≤ runs.length → Ev (fun k => foretellref_KeyAdded.j1 k last (m : Int) false y runs) (([] : List Int), runs.take m ++ [last], true, 0) := by
    intro m last hm
    refine ev_succ ?_
    simp only [foretellref_KeyAdded.j1, Bool.false_eq_true, ↓reduceIte]
    exact tail_loop y last runs m hm hr m 0 [] (by omega) (by simp)
  induction m with
  | zero =>
    intro last hm hs hl
    have c1 : ¬ (((0 + 1 : Nat)) : Int) > 1 := by decide
    have c2 : ¬ ((0 : Nat) : Int) > 0 := by decide
    refine ⟨runs.take 0 ++ [last], stay 0 last hm hl, ev_succ ?_, ev_succ ?_⟩
    · simp only [store_Add.l0, c1, ↓reduceIte]
      exact Ev.now _
    · simp only [foretellref_KeyAdded.l0, c2, ↓reduceIte]
      exact refStay 0 last hm
  | succ m ih =>
    intro last hm hs hl
    have hlt : m < runs.length := by omega
    have htk : runs.take (m + 1) = runs.take m ++ [runs[m]] := List.take_succ_eq_append_getElem hlt
    have hfl : (runs.take (m + 1)).flatten.length = (runs.take m).flatten.length + runs[m].length := by rw [htk]; simp only [List.flatten_append, List.flatten_cons, List.flatten_nil, List.append_nil, List.length_append]
    have hg : rd_L1 runs m = runs[m] := getD_get _ _ _ hlt
    obtain ⟨R, hR⟩ : ∃ R, R = runs.take (m + 1) ++ [last] := ⟨_, rfl⟩
    have hRl : R.length = m + 2 := by rw [hR, List.length_append, List.length_take]; simp; omega
    have hR1 : rd_L1 R ((m + 1 : Nat) : Int) = last := by
      unfold rd_L1
      have e : (runs.take (m + 1)).length = m + 1 := by rw [List.length_take]; omega
      rw [Int.toNat_natCast, hR, List.getD_eq_getElem?_getD, List.getElem?_append_right (by omega), e]
      simp
    have hR2 : rd_L1 R (m : Int) = runs[m] := by
      unfold rd_L1
      have e : (runs.take (m + 1)).length = m + 1 := by rw [List.length_take]; omega
      rw [Int.toNat_natCast, hR, List.getD_eq_getElem?_getD, List.getElem?_append_left (by omega), htk, List.getElem?_append_right (by rw [List.length_take]; omega), List.length_take, Nat.min_eq_left (by omega)]
      simp
    have hRt : R.take m = runs.take m := by
      rw [hR, htk, List.append_assoc, List.take_append_of_le_length (by rw [List.length_take]; omega), List.take_take]
      simp
    rw [← hR]
    have c1 : (((m + 1 + 1 : Nat)) : Int) > 1 := by omega
    have wa : wrap64 ((((m + 1 + 1 : Nat)) : Int) - 1) = ((m + 1 : Nat) : Int) := by rw [wrap_id (by omega) (by omega)]; omega
    have wb : wrap64 ((((m + 1 + 1 : Nat)) : Int) - 2) = (m : Int) := by rw [wrap_id (by omega) (by omega)]; omega
    have c2 : (0 : Int) ≤ ((m + 1 : Nat) : Int) := by omega
    have c3 : ((m + 1 : Nat) : Int) < (R.length : Int) := by omega
    have c4 : (0 : Int) ≤ (m : Int) := by omega
    have c5 : (m : Int) < (R.length : Int) := by omega
    have c5' : (m : Int) ≤ (R.length : Int) := by omega
    have d1 : ((m + 1 : Nat) : Int) > 0 := by omega
    have wd : wrap64 (((m + 1 : Nat) : Int) - 1) = (m : Int) := by rw [wrap_id (by omega) (by omega)]; omega
    have d3 : (m : Int) < (runs.length : Int) := by omega
    by_cases c : (last.length : Int) ≥ (runs[m].length : Int)
    · have hmg := merge_eq (rowUp_sorted (hup _ (List.getElem_mem hlt))) hs (by omega)
      have hlen : ((runs[m] ++ last).mergeSort leI).length = runs[m].length + last.length := by rw [List.length_mergeSort, List.length_append]
      obtain ⟨res, hres, e1, e2⟩ := ih ((runs[m] ++ last).mergeSort leI) (by omega) (sorted_leI _) (by rw [hlen]; omega)
      have c6 : (runs.take m).length < 5864062014805 := Nat.lt_of_le_of_lt (show (runs.take m).length ≤ 20000 by rw [List.length_take]; omega) (by decide)
      refine ⟨res, hres, ev_succ ?_, ev_succ ?_⟩
      · simp only [store_Add.l0, c1, ↓reduceIte, wa, wb, c2, c3, c4, c5, hR1, hR2, c, hmg, Option.bind_some, c5', Int.toNat_natCast, hRt, c6]
        exact e1
      · have cd : decide ((last.length : Int) ≥ (runs[m].length : Int)) = true := decide_eq_true c
        have c7 : runs[m].length + last.length < 17592186044416 := by omega
        have hl3 : (runs[m] ++ last).length < 4611686018427387904 ∧ (runs[m] ++ last).length < 17592186044416 := by rw [List.length_append]; omega
        simp only [foretellref_KeyAdded.l0, d1, ↓reduceIte, wd, c4, d3, hg, cd]
        refine ev_succ ?_
        simp only [foretellref_KeyAdded.j1, ↓reduceIte, wd, c4, d3, hg]
        refine ev_bind (numbers_ev _ (by omega)) ?_
        simp only [c7, ↓reduceIte, foretellref_numbersUp.f, hl3, and_self, Option.bind_some]
        exact e2
    · have cd : decide ((last.length : Int) ≥ (runs[m].length : Int)) = false := decide_eq_false c
      refine ⟨R, by rw [hR]; exact stay (m + 1) last hm hl, ev_succ ?_, ev_succ ?_⟩
      · simp only [store_Add.l0, c1, ↓reduceIte, wa, wb, c2, c3, c4, c5, hR1, hR2, c]
        exact Ev.now _
      · simp only [foretellref_KeyAdded.l0, d1, ↓reduceIte, wd, c4, d3, hg, cd]
        rw [hR]
        exact refStay (m + 1) last hm
theorem same_stores (a : List Int) (b : List (List Int)) (h1 : a.length ≤ 9223372036854775806) (h2 : b.length ≤ 9223372036854775806) (h3 : ∀ l ∈ b, l.length ≤ 9223372036854775806) : Ev (fun k => foretelllaw_sameStore.f k a b a b) true := by
  unfold foretelllaw_sameStore.f
  refine ev_bind (same_ints _ h1) ?_
  simp only [↓reduceIte]
  exact ev_bind (same_lists _ h2 h3) (ev_const (fun k => rfl))
theorem StoreAdds (x0 : S52) (a1 : Int) (good0 : G52 x0) (w1 : (Lit.int .i64 a1).wf = true) : ∃ k, foretelllaw_StoreAdds.f k x0.f0 x0.f1 a1 = some true := by
  refine Ev.rounds (g := fun k => foretelllaw_StoreAdds.f k x0.f0 x0.f1 a1) ?_
  unfold foretelllaw_StoreAdds.f
  refine ev_bind (stores_ev good0) ?_
  have key : ∃ r : List Int × List (List Int) × Bool × Int, (r.1.length ≤ 20001 ∧ r.2.1.length ≤ 20001 ∧ ∀ l ∈ r.2.1, l.length ≤ 20001) ∧ Ev (fun k => store_Add.f k x0.f0 x0.f1 a1) r ∧ Ev (fun k => foretellref_KeyAdded.f k x0.f0 x0.f1 a1) r := by
    obtain ⟨r, e1, e2, h0, h9⟩ := has_both good0 a1
    obtain ⟨b, e⟩ := r
    by_cases he : e = 0
    · subst he
      obtain ⟨hs, _, _⟩ := h0 rfl
      have hn := hs.n
      have hn' := hs.n
      rw [List.length_append] at hn
      have hrl : x0.f1.length ≤ 20000 := by have := runs_flat hs.e; omega
      have hrow : ∀ l ∈ x0.f1, l.length ≤ 20000 := fun l hl => by have := row_flat hl; omega
      have eo := own_ev x0.f0 x0.f1 hrl (by omega) hrow
      have ec := copy_ev good0
      by_cases hb : b = true
      · subst hb
        refine ⟨(x0.f0, x0.f1, false, 0), ⟨by simp only; omega, by simp only; omega, fun l hl => by have := hrow l hl; omega⟩, ?_, ?_⟩
        · unfold store_Add.f
          refine ev_bind e1 ?_
          simp only [↓reduceIte]
          refine ev_bind eo ?_
          simp only [↓reduceIte]
          exact Ev.now _
        · unfold foretellref_KeyAdded.f
          refine ev_bind e2 ?_
          simp only [↓reduceIte]
          refine ev_bind ec ?_
          simp only [↓reduceIte]
          exact Ev.now _
      · have hbf : b = false := Bool.eq_false_iff.2 hb
        subst hbf
        have ek := keys_ev x0.f0 x0.f1 hrl (by omega) (by rw [List.length_append]; omega)
        have en := count_ev x0.f0 x0.f1 hrl hn'
        have hll : (x0.f1.flatten ++ x0.f0).length = (x0.f0 ++ x0.f1.flatten).length := by simp only [List.length_append]; omega
        have cl : x0.f0.length < 17592186044416 := by omega
        by_cases hf : (x0.f0 ++ x0.f1.flatten).length = 20000
        · have c1 : ((x0.f0 ++ x0.f1.flatten).length : Int) = 20000 := by omega
          have c2 : ((x0.f1.flatten ++ x0.f0).length : Int) ≥ 20000 := by rw [hll]; omega
          refine ⟨([], [], false, 12), ⟨by decide, by decide, fun l hl => by cases hl⟩, ?_, ?_⟩
          · unfold store_Add.f
            refine ev_bind e1 ?_
            simp only [↓reduceIte]
            refine ev_bind eo ?_
            simp only [↓reduceIte, Bool.false_eq_true]
            refine ev_bind en ?_
            simp only [c1, ↓reduceIte]
            exact Ev.now _
          · unfold foretellref_KeyAdded.f
            refine ev_bind e2 ?_
            simp only [↓reduceIte]
            refine ev_bind ec ?_
            simp only [↓reduceIte, Bool.false_eq_true]
            refine ev_bind ek ?_
            simp only [c2, ↓reduceIte]
            exact Ev.now _
        · have c1 : ¬ ((x0.f0 ++ x0.f1.flatten).length : Int) = 20000 := by omega
          have c2 : ¬ ((x0.f1.flatten ++ x0.f0).length : Int) ≥ 20000 := by rw [hll]; omega
          obtain ⟨y, hy⟩ : ∃ y, y = x0.f0 ++ [a1] := ⟨_, rfl⟩
          have hyl : y.length = x0.f0.length + 1 := by rw [hy]; simp
          by_cases h8 : (y.length : Int) < 8
          · refine ⟨(y, x0.f1, true, 0), ⟨by simp only; omega, by simp only; omega, fun l hl => by have := hrow l hl; omega⟩, ?_, ?_⟩
            · unfold store_Add.f
              refine ev_bind e1 ?_
              simp only [↓reduceIte]
              refine ev_bind eo ?_
              simp only [↓reduceIte, Bool.false_eq_true]
              refine ev_bind en ?_
              simp only [c1, ↓reduceIte, cl, ← hy, Option.bind_some, h8]
              exact Ev.now _
            · unfold foretellref_KeyAdded.f
              refine ev_bind e2 ?_
              simp only [↓reduceIte]
              refine ev_bind ec ?_
              simp only [↓reduceIte, Bool.false_eq_true]
              refine ev_bind ek ?_
              simp only [c2, ↓reduceIte, cl, ← hy, Option.bind_some, h8]
              exact Ev.now _
          · have hms : (y.mergeSort fun x y => decide (x ≤ y)) = y.mergeSort leI := rfl
            have c3 : y.length < 4611686018427387904 := by omega
            have c3' : y.length < 17592186044416 := by omega
            have c4 : x0.f1.length < 5864062014805 := Nat.lt_of_le_of_lt hrl (by decide)
            obtain ⟨res, hres, f1, f2⟩ := merge_both y x0.f1 hrl hs.up x0.f1.length (y.mergeSort leI) (Nat.le_refl _) (sorted_leI _) (by rw [List.length_mergeSort, List.take_length]; omega)
            rw [List.take_length] at f1
            have hlr : (((x0.f1 ++ [y.mergeSort leI]).length : Nat) : Int) = ((x0.f1.length + 1 : Nat) : Int) := by rw [List.length_append]; rfl
            refine ⟨([], res, true, 0), ⟨by simp, hres.1, hres.2⟩, ?_, ?_⟩
            · unfold store_Add.f
              refine ev_bind e1 ?_
              simp only [↓reduceIte]
              refine ev_bind eo ?_
              simp only [↓reduceIte, Bool.false_eq_true]
              refine ev_bind en ?_
              simp only [c1, ↓reduceIte, cl, ← hy, Option.bind_some, h8, slices_Sort_int_int.f, c3, hms, c4, hlr]
              exact f1
            · unfold foretellref_KeyAdded.f
              refine ev_bind e2 ?_
              simp only [↓reduceIte]
              refine ev_bind ec ?_
              simp only [↓reduceIte, Bool.false_eq_true]
              refine ev_bind ek ?_
              simp only [c2, ↓reduceIte, cl, ← hy, Option.bind_some, h8, foretellref_numbersUp.f, c3, c3', and_self]
              exact f2
    · have hb : b = false := h9 he
      subst hb
      refine ⟨([], [], false, e), ⟨by simp, by simp, fun l hl => by cases hl⟩, ?_, ?_⟩
      · unfold store_Add.f
        refine ev_bind e1 ?_
        simp only [he, ↓reduceIte]
        exact Ev.now _
      · unfold foretellref_KeyAdded.f
        refine ev_bind e2 ?_
        simp only [he, ↓reduceIte]
        exact Ev.now _
  obtain ⟨r, ⟨r1, r2, r3⟩, e1, e2⟩ := key
  refine ev_bind e1 (ev_bind e2 ?_)
  simp only [beq_self_eq_true, ↓reduceIte]
  refine ev_bind (same_stores _ _ (by omega) (by omega) (fun l hl => by have := r3 l hl; omega)) ?_
  simp only [↓reduceIte]
  obtain ⟨⟨h0, _⟩, ⟨h1, h2⟩⟩ := good0
  exact ev_bind (same_stores _ _ (by omega) (by omega) (fun l hl => by have := (h2 l hl).1; omega)) (ev_const (fun k => rfl))
end Go.Proofs.Ytkakmghadhafjaa.Pure
