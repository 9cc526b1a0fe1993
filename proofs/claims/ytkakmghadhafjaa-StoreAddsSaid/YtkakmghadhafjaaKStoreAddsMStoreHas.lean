-- Cut by a program of this session (wip/prune.py) from a longer text: declarations that the law does not need are left out.
import Derived.Test.YtkakmghadhafjaaKStoreAddsRx46
import Derived.Test.YtkakmghadhafjaaKStoreAddsRx47
import Derived.Test.YtkakmghadhafjaaKStoreAddsMStore
namespace Go.Proofs.Ytkakmghadhafjaa.Pure
open Go.RowKit Go.Proofs.Ytkakmghadhafjaa.R Go.Proofs.Ytkakmghadhafjaa.Base Go.Proofs.YtkakmghadhafjaaW.PrintWords Go.Proofs.YtkakmghadhafjaaW.PrintLast Go.Proofs.YtkakmghadhafjaaW.PrintMore
set_option linter.unusedVariables false
set_option linter.unusedSimpArgs false
theorem rowUp_lt {row : List Int} (h : RowUp row 0) : ∀ (j i : Nat), i < j → j < row.length → rd row (i : Int) < rd row (j : Int)
  | 0, i, hi, _ => by omega
  | j + 1, i, hi, hj => by
    have h1 := h (j + 1) (Nat.zero_le _) hj (by omega)
    have e : (((j + 1 : Nat) : Int)) - 1 = (j : Int) := by omega
    rw [e] at h1
    by_cases c : i = j
    · rw [c]; exact h1
    · have := rowUp_lt h j i (by omega) (by omega)
      omega
theorem mem_rd {row : List Int} {v : Int} : v ∈ row ↔ ∃ k : Nat, k < row.length ∧ rd row (k : Int) = v := by
  rw [List.mem_iff_getElem]
  constructor
  · rintro ⟨k, hk, e⟩
    exact ⟨k, hk, by rw [rd_get _ _ hk]; exact e⟩
  · rintro ⟨k, hk, e⟩
    exact ⟨k, hk, by rw [← rd_get _ _ hk]; exact e⟩
theorem u64_id {x : Int} (h0 : 0 ≤ x) (h1 : x ≤ 9223372036854775807) : IntKind.u64.wrap x = x := by
  simp [IntKind.wrap, IntKind.signed, IntKind.bits]
  omega
theorem less_eq (a b : Int) : cmp_Less_int.f a b = some (decide (a < b)) := by
  simp [cmp_Less_int.f, cmp_isNaN_int.f]
theorem mid_eq (lo hi : Nat) (h : lo ≤ 20000) (h' : hi ≤ 20000) : wrap64 ((IntKind.u64.wrap (wrap64 ((lo : Int) + (hi : Int)))) / 2) = (((lo + hi) / 2 : Nat) : Int) := by
  rw [wrap_id (x := (lo : Int) + (hi : Int)) (by omega) (by omega), u64_id (by omega) (by omega), wrap_id (by omega) (by omega)]
  omega
theorem search_run (row : List Int) (v : Int) (hl : row.length ≤ 20000) (hup : RowUp row 0) (d : Nat) : ∀ lo hi : Nat, hi - lo ≤ d → lo ≤ hi → hi ≤ row.length → (∀ k : Nat, k < lo → rd row (k : Int) < v) → (∀ k : Nat, hi ≤ k → k < row.length → v ≤ rd row (k : Int)) →
    ∃ p : Int × Bool, (p.2 = true ↔ v ∈ row) ∧ Ev (fun k => slices_BinarySearch_int_int.l0 k row v (row.length : Int) lo hi) p := by
  have base : ∀ lo : Nat, lo ≤ row.length → (∀ k : Nat, k < lo → rd row (k : Int) < v) → (∀ k : Nat, lo ≤ k → k < row.length → v ≤ rd row (k : Int)) → ∃ p : Int × Bool, (p.2 = true ↔ v ∈ row) ∧ Ev (fun k => slices_BinarySearch_int_int.l0 k row v (row.length : Int) lo lo) p := by
    intro lo h1 hlo hhi
    have c0 : ¬ (lo : Int) < (lo : Int) := by omega
    by_cases c1 : (lo : Int) < (row.length : Int)
    · have c2 : (0 : Int) ≤ (lo : Int) := by omega
      by_cases e : rd row (lo : Int) = v
      · refine ⟨(lo, true), ⟨fun _ => mem_rd.2 ⟨lo, by omega, e⟩, fun _ => rfl⟩, ev_succ ?_⟩
        simp only [slices_BinarySearch_int_int.l0, ↓reduceIte, c0, c1, c2, e]
        exact Ev.now _
      · refine ⟨(lo, false), ⟨fun h => absurd h Bool.false_ne_true, fun h => ?_⟩, ev_succ ?_⟩
        · obtain ⟨k, hk, ek⟩ := mem_rd.1 h
          rcases Nat.lt_trichotomy k lo with c | c | c
          · have := hlo k c; omega
          · subst c; exact absurd ek e
          · have h2 := rowUp_lt hup k lo c hk
            have h3 := hhi lo (Nat.le_refl _) (by omega)
            omega
        · simp only [slices_BinarySearch_int_int.l0, ↓reduceIte, c0, c1, c2, e, slices_isNaN_int.f, bne_self_eq_false, Option.bind_some, Bool.false_eq_true]
          exact Ev.now _
    · refine ⟨(lo, false), ⟨fun h => absurd h Bool.false_ne_true, fun h => ?_⟩, ev_succ ?_⟩
      · obtain ⟨k, hk, ek⟩ := mem_rd.1 h
        have := hlo k (by omega); omega
      · simp only [slices_BinarySearch_int_int.l0, ↓reduceIte, c0, c1]
        exact Ev.now _
  induction d with
  | zero =>
    intro lo hi hd h1 h2 hlo hhi
    obtain rfl : lo = hi := by omega
    exact base lo h2 hlo hhi
  | succ d ih =>
    intro lo hi hd h1 h2 hlo hhi
    by_cases ce : lo = hi
    · subst ce; exact base lo h2 hlo hhi
    · obtain ⟨m, hm⟩ : ∃ m, m = (lo + hi) / 2 := ⟨_, rfl⟩
      have m0 : lo ≤ m := by omega
      have m1 : m < hi := by omega
      have c0 : (lo : Int) < (hi : Int) := by omega
      have wm := mid_eq lo hi (by omega) (by omega)
      rw [← hm] at wm
      have c1 : (0 : Int) ≤ (m : Int) := by omega
      have c2 : (m : Int) < (row.length : Int) := by omega
      have w1 : wrap64 ((m : Int) + 1) = ((m + 1 : Nat) : Int) := by rw [wrap_id (by omega) (by omega)]; rfl
      by_cases cl : rd row (m : Int) < v
      · obtain ⟨p, hp, he⟩ := ih (m + 1) hi (by omega) (by omega) h2 (fun k hk => by
          by_cases c : k = m
          · rw [c]; exact cl
          · have := rowUp_lt hup m k (by omega) (by omega)
            omega) hhi
        refine ⟨p, hp, ev_succ ?_⟩
        simp only [slices_BinarySearch_int_int.l0, ↓reduceIte, c0, wm, c1, c2, less_eq, Option.bind_some, decide_eq_true cl, w1]
        exact he
      · obtain ⟨p, hp, he⟩ := ih lo m (by omega) m0 (by omega) hlo (fun k k0 k1 => by
          by_cases c : k = m
          · rw [c]; omega
          · have := rowUp_lt hup k m (by omega) k1
            omega)
        refine ⟨p, hp, ev_succ ?_⟩
        simp only [slices_BinarySearch_int_int.l0, ↓reduceIte, c0, wm, c1, c2, less_eq, Option.bind_some, decide_eq_false cl, Bool.false_eq_true]
        exact he
theorem search_ev (row : List Int) (v : Int) (hl : row.length ≤ 20000) (hup : RowUp row 0) : ∃ p : Int × Bool, (p.2 = true ↔ v ∈ row) ∧ Ev (fun k => slices_BinarySearch_int_int.f k row v) p := by
  unfold slices_BinarySearch_int_int.f
  exact search_run row v hl hup row.length 0 row.length (by omega) (by omega) (by omega) (fun k hk => by omega) (fun k k0 k1 => by omega)
theorem index_run (l : List Int) (v : Int) (hl : l.length ≤ 20000) (d : Nat) : ∀ i : Nat, i + d = l.length → ∃ j : Int, (0 ≤ j ↔ v ∈ l.drop i) ∧ Ev (fun k => slices_Index_int_int.l0 k l v (l.length : Int) i) j := by
  induction d with
  | zero =>
    intro i hi
    have c1 : ¬ (i : Int) < (l.length : Int) := by omega
    refine ⟨-1, ⟨fun h => by omega, fun h => by rw [List.drop_of_length_le (by omega)] at h; cases h⟩, ev_succ ?_⟩
    simp only [slices_Index_int_int.l0, ↓reduceIte, c1]
    exact Ev.now _
  | succ d ih =>
    intro i hi
    have hlt : i < l.length := by omega
    have c1 : (i : Int) < (l.length : Int) := by omega
    have c2 : (0 : Int) ≤ (i : Int) := by omega
    have w1 : wrap64 ((i : Int) + 1) = ((i + 1 : Nat) : Int) := by rw [wrap_id (by omega) (by omega)]; rfl
    have hd : l.drop i = rd l i :: l.drop (i + 1) := by rw [List.drop_eq_getElem_cons hlt, rd_get _ _ hlt]
    by_cases e : v = rd l (i : Int)
    · refine ⟨i, ⟨fun _ => by rw [hd, ← e]; exact List.mem_cons_self, fun _ => c2⟩, ev_succ ?_⟩
      simp only [slices_Index_int_int.l0, c1, c2, ↓reduceIte, if_pos e]
      exact Ev.now _
    · obtain ⟨j, hj, he⟩ := ih (i + 1) (by omega)
      refine ⟨j, by rw [hj, hd, List.mem_cons]; exact ⟨.inr, fun h => h.elim (fun h => absurd h e) id⟩, ev_succ ?_⟩
      simp only [slices_Index_int_int.l0, ↓reduceIte, c1, c2, e, w1]
      exact he
theorem contains_ev (l : List Int) (v : Int) (hl : l.length ≤ 20000) : Ev (fun k => slices_Contains_int_int.f k l v) (decide (v ∈ l)) := by
  obtain ⟨j, hj, he⟩ := index_run l v hl l.length 0 (by omega)
  unfold slices_Contains_int_int.f
  have he' : Ev (fun k => slices_Index_int_int.f k l v) j := by unfold slices_Index_int_int.f; exact he
  refine ev_bind he' (ev_const (fun k => ?_))
  congr 1
  rw [decide_eq_decide]
  exact hj
theorem rows_has (runs : List (List Int)) (v : Int) (hrl : runs.length ≤ 20000) (hr : ∀ r ∈ runs, r.length ≤ 20000 ∧ RowUp r 0) (d : Nat) : ∀ (i : Nat) (b : Bool), i + d = runs.length → Ev (fun k => store_Has.l0 k v b runs (runs.length : Int) i) (b || decide (v ∈ (runs.drop i).flatten), 0) := by
  induction d with
  | zero =>
    intro i b hi
    have c1 : ¬ (i : Int) < (runs.length : Int) := by omega
    rw [List.drop_of_length_le (by omega)]
    refine ev_succ ?_
    simp only [store_Has.l0, ↓reduceIte, c1]
    exact ev_const (fun k => by simp)
  | succ d ih =>
    intro i b hi
    have hlt : i < runs.length := by omega
    have hg : rd_L1 runs i = runs[i] := getD_get _ _ _ hlt
    have c1 : (i : Int) < (runs.length : Int) := by omega
    have c2 : (0 : Int) ≤ (i : Int) := by omega
    have w1 : wrap64 ((i : Int) + 1) = ((i + 1 : Nat) : Int) := by rw [wrap_id (by omega) (by omega)]; rfl
    obtain ⟨q1, q2⟩ := hr _ (List.getElem_mem hlt)
    obtain ⟨p, hp, he⟩ := search_ev runs[i] v q1 q2
    have hd : (runs.drop i).flatten = runs[i] ++ (runs.drop (i + 1)).flatten := by rw [List.drop_eq_getElem_cons hlt, List.flatten_cons]
    refine ev_succ ?_
    simp only [store_Has.l0, ↓reduceIte, c1, c2, hg]
    refine ev_bind he ?_
    cases b with
    | true =>
      simp only [↓reduceIte, w1]
      refine ev_eq (ih (i + 1) true (by omega)) (by simp)
    | false =>
      simp only [Bool.false_eq_true, ↓reduceIte, w1]
      refine ev_eq (ih (i + 1) p.2 (by omega)) ?_
      rw [hd]
      congr 1
      rw [Bool.eq_iff_iff]
      simp [hp, List.mem_append]
theorem keyIn_run (l : List Int) (v : Int) (hl : l.length ≤ 20000) (d : Nat) : ∀ i : Nat, i + d = l.length → Ev (fun k => foretellref_KeyIn.l0 k v l i) (decide (v ∈ l.drop i), 0) := by
  induction d with
  | zero =>
    intro i hi
    have c1 : ¬ (i : Int) < (l.length : Int) := by omega
    rw [List.drop_of_length_le (by omega)]
    refine ev_succ ?_
    simp only [foretellref_KeyIn.l0, ↓reduceIte, c1]
    exact ev_const (fun k => by simp)
  | succ d ih =>
    intro i hi
    have hlt : i < l.length := by omega
    have c1 : (i : Int) < (l.length : Int) := by omega
    have c2 : (0 : Int) ≤ (i : Int) := by omega
    have w1 : wrap64 ((i : Int) + 1) = ((i + 1 : Nat) : Int) := by rw [wrap_id (by omega) (by omega)]; rfl
    have hd : l.drop i = rd l i :: l.drop (i + 1) := by rw [List.drop_eq_getElem_cons hlt, rd_get _ _ hlt]
    refine ev_succ ?_
    by_cases e : rd l (i : Int) = v
    · simp only [foretellref_KeyIn.l0, ↓reduceIte, c1, c2, e]
      rw [hd, e]
      exact ev_const (fun k => by simp)
    · simp only [foretellref_KeyIn.l0, ↓reduceIte, c1, c2, e, w1]
      refine ev_eq (ih (i + 1) (by omega)) ?_
      rw [hd]
      congr 1
      rw [decide_eq_decide, List.mem_cons]
      exact ⟨.inr, fun h => h.elim (fun h => absurd h.symm e) id⟩
theorem row_flat {runs : List (List Int)} {r : List Int} (h : r ∈ runs) : r.length ≤ runs.flatten.length := by
  induction runs with
  | nil => cases h
  | cons a l ih =>
    simp only [List.flatten_cons, List.length_append]
    rcases List.mem_cons.1 h with rfl | h
    · omega
    · have := ih h; omega
theorem runs_flat {runs : List (List Int)} (h : ∀ r ∈ runs, r ≠ []) : runs.length ≤ runs.flatten.length := by
  induction runs with
  | nil => simp
  | cons a l ih =>
    have h1 := ih (fun r hr => h r (by simp [hr]))
    have h2 : a.length ≠ 0 := fun e => h a (by simp) (List.length_eq_zero_iff.1 e)
    simp only [List.flatten_cons, List.length_append, List.length_cons]
    omega
theorem has_both {s : S52} (h : G52 s) (n : Int) : ∃ r : Bool × Int, Ev (fun k => store_Has.f k s.f0 s.f1 n) r ∧ Ev (fun k => foretellref_KeyIn.f k s.f0 s.f1 n) r ∧ (r.2 = 0 → StoreOK s.f0 s.f1 ∧ (0 ≤ n ∧ n ≤ 2147483647) ∧ (r.1 = true ↔ n ∈ s.f0 ++ s.f1.flatten)) ∧ (r.2 ≠ 0 → r.1 = false) := by
  obtain ⟨β, hβ, e1, e2⟩ := check_both h
  by_cases hb : β = true
  · have hs := hβ.1 hb
    simp only [hb, ↓reduceIte] at e1 e2
    have hn := hs.n
    rw [List.length_append] at hn
    have hkey : store_key.f n = some (decide (0 ≤ n ∧ n ≤ 2147483647)) := by
      unfold store_key.f
      by_cases c : n ≥ 0
      · rw [if_pos c]; congr 1; rw [decide_eq_decide]; omega
      · rw [if_neg c]; congr 1; exact (decide_eq_false (by omega)).symm
    by_cases hk : 0 ≤ n ∧ n ≤ 2147483647
    · refine ⟨(decide (n ∈ s.f0) || decide (n ∈ s.f1.flatten), 0), ?_, ?_, fun _ => ⟨hs, hk, by simp [List.mem_append]⟩, fun h => absurd rfl h⟩
      · unfold store_Has.f
        refine ev_bind e1 ?_
        simp only [↓reduceIte, hkey, decide_eq_true hk, Option.bind_some]
        refine ev_bind (contains_ev s.f0 n (by omega)) ?_
        have := rows_has s.f1 n (by have := runs_flat hs.e; omega) (fun r hr => ⟨by have := row_flat hr; omega, hs.up r hr⟩) s.f1.length 0 (decide (n ∈ s.f0)) (by omega)
        exact this
      · unfold foretellref_KeyIn.f
        refine ev_bind e2 ?_
        simp only [↓reduceIte, inS_eq, decide_eq_true hk, Option.bind_some]
        refine ev_bind (keys_ev s.f0 s.f1 (by have := runs_flat hs.e; omega) (by omega) (by rw [List.length_append]; omega)) ?_
        refine ev_eq (keyIn_run (s.f1.flatten ++ s.f0) n (by rw [List.length_append]; omega) (s.f1.flatten ++ s.f0).length 0 (by omega)) ?_
        congr 1
        rw [Bool.eq_iff_iff]
        simp only [List.drop_zero, List.mem_append, decide_eq_true_eq, Bool.or_eq_true]
        exact Or.comm
    · refine ⟨(false, 2), ?_, ?_, fun h => by simp at h, fun _ => rfl⟩
      · unfold store_Has.f
        refine ev_bind e1 ?_
        simp only [↓reduceIte, hkey, decide_eq_false hk, Option.bind_some, Bool.false_eq_true]
        exact Ev.now _
      · unfold foretellref_KeyIn.f
        refine ev_bind e2 ?_
        simp only [↓reduceIte, inS_eq, decide_eq_false hk, Option.bind_some, Bool.false_eq_true]
        exact Ev.now _
  · have hbf : β = false := Bool.eq_false_iff.2 hb
    simp only [hbf, Bool.false_eq_true, ↓reduceIte] at e1 e2
    have n9 : ¬ (9 : Int) = 0 := by decide
    refine ⟨(false, 9), ?_, ?_, fun h => by simp at h, fun _ => rfl⟩
    · unfold store_Has.f
      refine ev_bind e1 ?_
      simp only [↓reduceIte, n9]
      exact Ev.now _
    · unfold foretellref_KeyIn.f
      refine ev_bind e2 ?_
      simp only [↓reduceIte, n9]
      exact Ev.now _
end Go.Proofs.Ytkakmghadhafjaa.Pure
