-- Cut by a program of this session (wip/prune.py) from a longer text: declarations that the law does not need are left out.
import Derived.Test.YtkakmghadhafjaaKStoreAddsRx28
import Derived.Test.YtkakmghadhafjaaKStoreAddsRx25
import Derived.Test.YtkakmghadhafjaaKStoreAddsRx32
import Derived.Test.YtkakmghadhafjaaKStoreAddsRo
import Derived.Test.YtkakmghadhafjaaKStoreAddsMEv
namespace Go.Proofs.Ytkakmghadhafjaa.Pure
open Go.RowKit Go.Proofs.Ytkakmghadhafjaa.R Go.Proofs.Ytkakmghadhafjaa.Base Go.Proofs.YtkakmghadhafjaaW.PrintWords Go.Proofs.YtkakmghadhafjaaW.PrintLast Go.Proofs.YtkakmghadhafjaaW.PrintMore
set_option linter.unusedVariables false
set_option linter.unusedSimpArgs false
theorem numbers_loop (l : List Int) (hl : l.length ≤ 17592186043904) (d : Nat) : ∀ (j : Nat) (acc : List Int), j + d = l.length → acc.length = j → Ev (fun k => foretellref_numbers.l0 k l acc j) (acc ++ l.drop j) := by
  induction d with
  | zero =>
    intro j acc hj ha
    have c1 : ¬ (j : Int) < (l.length : Int) := by omega
    rw [List.drop_of_length_le (by omega), List.append_nil]
    refine ev_succ ?_
    simp only [foretellref_numbers.l0, ↓reduceIte, c1]
    exact Ev.now _
  | succ d ih =>
    intro j acc hj ha
    have hlt : j < l.length := by omega
    have c1 : (j : Int) < (l.length : Int) := by omega
    have c2 : (0 : Int) ≤ (j : Int) := by omega
    have c3 : acc.length < 17592186044416 := by omega
    have w1 : wrap64 ((j : Int) + 1) = ((j + 1 : Nat) : Int) := by rw [wrap_id (by omega) (by omega)]; rfl
    have := ih (j + 1) (acc ++ [rd l j]) (by omega) (by simp; omega)
    refine ev_succ ?_
    simp only [foretellref_numbers.l0, ↓reduceIte, c1, c2, c3, w1]
    rw [List.drop_eq_getElem_cons hlt]
    rw [rd_get _ _ hlt] at this ⊢
    rw [List.append_assoc] at this
    exact this
theorem numbers_ev (l : List Int) (hl : l.length ≤ 17592186043904) : Ev (fun k => foretellref_numbers.f k l) l := by
  unfold foretellref_numbers.f
  exact numbers_loop l hl l.length 0 [] (by omega) rfl
theorem copy_loop (loose L : List Int) (runs : List (List Int)) (hr : runs.length ≤ 5864062014634) (hb : ∀ r ∈ runs, r.length ≤ 17592186043904) (d : Nat) : ∀ (i : Nat) (acc : List (List Int)), i + d = runs.length → acc.length = i → Ev (fun k => foretellref_StoreCopy.l0 k i loose runs L acc) (L, acc ++ runs.drop i) := by
  induction d with
  | zero =>
    intro i acc hi ha
    have c1 : ¬ (i : Int) < (runs.length : Int) := by omega
    rw [List.drop_of_length_le (by omega), List.append_nil]
    refine ev_succ ?_
    simp only [foretellref_StoreCopy.l0, ↓reduceIte, c1]
    exact Ev.now _
  | succ d ih =>
    intro i acc hi ha
    have hlt : i < runs.length := by omega
    have hg : rd_L1 runs i = runs[i] := getD_get _ _ _ hlt
    have c1 : (i : Int) < (runs.length : Int) := by omega
    have c2 : (0 : Int) ≤ (i : Int) := by omega
    have c3 : acc.length < 5864062014805 := Nat.lt_of_le_of_lt (show acc.length ≤ 5864062014634 by omega) (by decide)
    have w1 : wrap64 ((i : Int) + 1) = ((i + 1 : Nat) : Int) := by rw [wrap_id (by omega) (by omega)]; rfl
    have := ih (i + 1) (acc ++ [runs[i]]) (by omega) (by simp; omega)
    refine ev_succ ?_
    simp only [foretellref_StoreCopy.l0, ↓reduceIte, c1, c2, hg]
    refine ev_bind (numbers_ev _ (hb _ (List.getElem_mem hlt))) ?_
    simp only [c3, ↓reduceIte, w1]
    rw [List.drop_eq_getElem_cons hlt]
    rw [List.append_assoc] at this
    exact this
theorem copy_ev {s : S52} (h : G52 s) : Ev (fun k => foretellref_StoreCopy.f k s.f0 s.f1) (s.f0, s.f1) := by
  obtain ⟨⟨h0, _⟩, ⟨h1, h2⟩⟩ := h
  unfold foretellref_StoreCopy.f
  refine ev_bind (numbers_ev s.f0 (by omega)) ?_
  exact copy_loop s.f0 s.f0 s.f1 (by omega) (fun r hr => by have := (h2 r hr).1; omega) s.f1.length 0 [] (by omega) rfl
theorem stores_ev {s : S52} (h : G52 s) : Ev (fun k => foretelllaw_stores.f k s.f0 s.f1) (s.f0, s.f1) := by
  unfold foretelllaw_stores.f
  exact ev_bind (copy_ev h) (ev_const (fun k => rfl))
section
variable (loose : List Int) (runs : List (List Int))
theorem keys_loose (hl : loose.length ≤ 20000) (d : Nat) : ∀ (j : Nat) (acc : List Int), j + d = loose.length → acc.length + d ≤ 20000 → Ev (fun k => foretellref_keysOf.l2 k acc j loose runs) (acc ++ loose.drop j) := by
  induction d with
  | zero =>
    intro j acc hj ha
    have c1 : ¬ (j : Int) < (loose.length : Int) := by omega
    rw [List.drop_of_length_le (by omega), List.append_nil]
    refine ev_succ ?_
    simp only [foretellref_keysOf.l2, ↓reduceIte, c1]
    exact Ev.now _
  | succ d ih =>
    intro j acc hj ha
    have hlt : j < loose.length := by omega
    have c1 : (j : Int) < (loose.length : Int) := by omega
    have c2 : (0 : Int) ≤ (j : Int) := by omega
    have c3 : acc.length < 17592186044416 := by omega
    have w1 : wrap64 ((j : Int) + 1) = ((j + 1 : Nat) : Int) := by rw [wrap_id (by omega) (by omega)]; rfl
    have := ih (j + 1) (acc ++ [rd loose j]) (by omega) (by simp; omega)
    refine ev_succ ?_
    simp only [foretellref_keysOf.l2, ↓reduceIte, c1, c2, c3, w1]
    rw [List.drop_eq_getElem_cons hlt]
    rw [rd_get _ _ hlt] at this ⊢
    rw [List.append_assoc] at this
    exact this
theorem keys_row (i : Nat) (hi : i < runs.length) (hi2 : runs.length ≤ 20000) (row : List Int) (hrow : rd_L1 runs i = row) (r : List Int) (d : Nat) : ∀ (j : Nat) (acc : List Int), j + d = row.length → acc.length + d ≤ 20000 → row.length ≤ 20000 → Ev (fun k => foretellref_keysOf.l0 k (acc ++ row.drop j) ((i + 1 : Nat) : Int) loose runs) r → Ev (fun k => foretellref_keysOf.l1 k acc i j loose runs) r := by
  have c1 : (0 : Int) ≤ (i : Int) := by omega
  have c2 : (i : Int) < (runs.length : Int) := by omega
  induction d with
  | zero =>
    intro j acc hj ha hrl hq
    have c3 : ¬ (j : Int) < (row.length : Int) := by omega
    have w1 : wrap64 ((i : Int) + 1) = ((i + 1 : Nat) : Int) := by rw [wrap_id (by omega) (by omega)]; rfl
    rw [List.drop_of_length_le (by omega), List.append_nil] at hq
    refine ev_succ ?_
    simp only [foretellref_keysOf.l1, ↓reduceIte, c1, c2, hrow, c3, w1]
    exact hq
  | succ d ih =>
    intro j acc hj ha hrl hq
    have hlt : j < row.length := by omega
    have c3 : (j : Int) < (row.length : Int) := by omega
    have c4 : (0 : Int) ≤ (j : Int) := by omega
    have c5 : acc.length < 17592186044416 := by omega
    have w1 : wrap64 ((j : Int) + 1) = ((j + 1 : Nat) : Int) := by rw [wrap_id (by omega) (by omega)]; rfl
    have := ih (j + 1) (acc ++ [rd row j]) (by omega) (by simp; omega) hrl (by
      rw [rd_get _ _ hlt, List.append_assoc]
      rw [List.drop_eq_getElem_cons hlt] at hq
      exact hq)
    refine ev_succ ?_
    simp only [foretellref_keysOf.l1, ↓reduceIte, c1, c2, hrow, c3, c4, c5, w1]
    exact this
theorem keys_rows (hi2 : runs.length ≤ 20000) (hl : loose.length ≤ 20000) (d : Nat) : ∀ (i : Nat) (acc : List Int), i + d = runs.length → (acc ++ (runs.drop i).flatten ++ loose).length ≤ 20000 → Ev (fun k => foretellref_keysOf.l0 k acc i loose runs) (acc ++ (runs.drop i).flatten ++ loose) := by
  induction d with
  | zero =>
    intro i acc hi ha
    have c1 : ¬ (i : Int) < (runs.length : Int) := by omega
    rw [List.drop_of_length_le (by omega)] at ha ⊢
    simp only [List.flatten_nil, List.append_nil] at ha ⊢
    refine ev_succ ?_
    simp only [foretellref_keysOf.l0, ↓reduceIte, c1]
    have := keys_loose loose runs hl loose.length 0 acc (by omega) (by rw [List.length_append] at ha; exact ha)
    exact this
  | succ d ih =>
    intro i acc hi ha
    have hlt : i < runs.length := by omega
    have hg : rd_L1 runs i = runs[i] := getD_get _ _ _ hlt
    have c1 : (i : Int) < (runs.length : Int) := by omega
    rw [List.drop_eq_getElem_cons hlt, List.flatten_cons] at ha ⊢
    have e : acc ++ (runs[i] ++ (runs.drop (i + 1)).flatten) ++ loose = (acc ++ runs[i]) ++ (runs.drop (i + 1)).flatten ++ loose := by simp
    rw [e] at ha ⊢
    have h1 := ih (i + 1) (acc ++ runs[i]) (by omega) ha
    have hlen : (acc ++ runs[i]).length ≤ 20000 := by
      simp only [List.length_append] at ha ⊢
      omega
    rw [List.length_append] at hlen
    refine ev_succ ?_
    simp only [foretellref_keysOf.l0, ↓reduceIte, c1]
    exact keys_row loose runs i hlt hi2 runs[i] hg _ runs[i].length 0 acc (by omega) (by omega) (by omega) h1
theorem keys_ev (hi2 : runs.length ≤ 20000) (hl : loose.length ≤ 20000) (ha : (runs.flatten ++ loose).length ≤ 20000) : Ev (fun k => foretellref_keysOf.f k loose runs) (runs.flatten ++ loose) := by
  unfold foretellref_keysOf.f
  exact keys_rows loose runs hi2 hl runs.length 0 [] (by omega) ha
end
def RowUp (row : List Int) (j : Nat) : Prop := ∀ k : Nat, j ≤ k → k < row.length → 1 ≤ k → rd row ((k : Int) - 1) < rd row (k : Int)
theorem rowUp_step {row : List Int} {j : Nat} (hj : j < row.length) : RowUp row j ↔ (1 ≤ j → rd row ((j : Int) - 1) < rd row (j : Int)) ∧ RowUp row (j + 1) := by
  constructor
  · exact fun h => ⟨h j (Nat.le_refl _) hj, fun k k0 k1 k2 => h k (by omega) k1 k2⟩
  · rintro ⟨h, h'⟩ k k0 k1 k2
    by_cases e : k = j
    · subst e; exact h k2
    · exact h' k (by omega) k1 k2
theorem rowUp_end {row : List Int} {j : Nat} (hj : row.length ≤ j) : RowUp row j := fun k k0 k1 _ => by omega
section
variable (loose : List Int) (runs : List (List Int))
theorem prog_row (acc row : List Int) (n : Int) (i : Nat) (hi : i ≤ 5864062014634) (hr : row.length ≤ 20000) (ha : acc.length ≤ 20000) (d : Nat) : ∀ j : Nat, j + d = row.length → ∃ β : Bool, (β = true ↔ RowUp row j) ∧ ∀ r, (β = true → Ev (fun k => store_Check.l0 k (acc ++ row) runs n ((i + 1 : Nat) : Int)) r) → (β = false → r = 9) → Ev (fun k => store_Check.l1 k acc row runs n i row (row.length : Int) j) r := by
  induction d with
  | zero =>
    intro j hj
    have c1 : ¬ (j : Int) < (row.length : Int) := by omega
    have c2 : acc.length + row.length < 17592186044416 := by omega
    have w1 : wrap64 ((i : Int) + 1) = ((i + 1 : Nat) : Int) := by rw [wrap_id (by omega) (by omega)]; rfl
    refine ⟨true, ⟨fun _ => rowUp_end (by omega), fun _ => rfl⟩, fun r h1 h2 => ev_succ ?_⟩
    simp only [store_Check.l1, ↓reduceIte, c1, c2, w1]
    exact h1 rfl
  | succ d ih =>
    intro j hj
    have c1 : (j : Int) < (row.length : Int) := by omega
    have c2 : (0 : Int) ≤ (j : Int) := by omega
    have w1 : wrap64 ((j : Int) + 1) = ((j + 1 : Nat) : Int) := by rw [wrap_id (by omega) (by omega)]; rfl
    obtain ⟨β, g1, g2⟩ := ih (j + 1) (by omega)
    by_cases c : (j : Int) > 0
    · have w2 : wrap64 ((j : Int) - 1) = (j : Int) - 1 := wrap_id (by omega) (by omega)
      have c3 : (0 : Int) ≤ (j : Int) - 1 := by omega
      have c4 : (j : Int) - 1 < (row.length : Int) := by omega
      by_cases e : rd row (j : Int) ≤ rd row ((j : Int) - 1)
      · refine ⟨false, ⟨fun h => absurd h Bool.false_ne_true, fun h => by have := (rowUp_step (by omega)).1 h; have := this.1 (by omega); omega⟩, fun r h1 h2 => ev_succ ?_⟩
        simp only [store_Check.l1, ↓reduceIte, c1, c2, c, w2, c3, c4, e]
        rw [h2 rfl]
        exact Ev.now _
      · refine ⟨β, by rw [g1, rowUp_step (show j < row.length by omega)]; exact ⟨fun h => ⟨fun _ => by omega, h⟩, fun h => h.2⟩, fun r h1 h2 => ev_succ ?_⟩
        simp only [store_Check.l1, ↓reduceIte, c1, c2, c, w2, c3, c4, e, w1]
        exact g2 r h1 h2
    · refine ⟨β, by rw [g1, rowUp_step (show j < row.length by omega)]; exact ⟨fun h => ⟨fun h' => by omega, h⟩, fun h => h.2⟩, fun r h1 h2 => ev_succ ?_⟩
      simp only [store_Check.l1, ↓reduceIte, c1, c2, c, w1]
      exact g2 r h1 h2
theorem ref_row' (many : Int) (row : List Int) (i : Nat) (hi : i ≤ 5864062014634) (hr : row.length ≤ 20000) (d : Nat) : ∀ j : Nat, 1 ≤ j → (j + d = row.length ∨ (d = 0 ∧ row.length ≤ j ∧ j ≤ 20001)) → ∃ β : Bool, (β = true ↔ RowUp row j) ∧ ∀ r, (β = true → Ev (fun k => foretellref_StoreFault.l0 k many ((i + 1 : Nat) : Int) loose runs) r) → (β = false → r = 9) → Ev (fun k => foretellref_StoreFault.l1 k many i row j loose runs) r := by
  induction d with
  | zero =>
    intro j hj1 hj
    have c1 : ¬ (j : Int) < (row.length : Int) := by omega
    have w1 : wrap64 ((i : Int) + 1) = ((i + 1 : Nat) : Int) := by rw [wrap_id (by omega) (by omega)]; rfl
    refine ⟨true, ⟨fun _ => rowUp_end (by omega), fun _ => rfl⟩, fun r h1 h2 => ev_succ ?_⟩
    simp only [foretellref_StoreFault.l1, ↓reduceIte, c1, w1]
    exact h1 rfl
  | succ d ih =>
    intro j hj1 hj
    have c1 : (j : Int) < (row.length : Int) := by omega
    have c2 : (0 : Int) ≤ (j : Int) := by omega
    have w1 : wrap64 ((j : Int) + 1) = ((j + 1 : Nat) : Int) := by rw [wrap_id (by omega) (by omega)]; rfl
    obtain ⟨β, g1, g2⟩ := ih (j + 1) (by omega) (.inl (by omega))
    have w2 : wrap64 ((j : Int) - 1) = (j : Int) - 1 := wrap_id (by omega) (by omega)
    have c3 : (0 : Int) ≤ (j : Int) - 1 := by omega
    have c4 : (j : Int) - 1 < (row.length : Int) := by omega
    by_cases e : rd row (j : Int) ≤ rd row ((j : Int) - 1)
    · refine ⟨false, ⟨fun h => absurd h Bool.false_ne_true, fun h => by have := (rowUp_step (by omega)).1 h; have := this.1 (by omega); omega⟩, fun r h1 h2 => ev_succ ?_⟩
      simp only [foretellref_StoreFault.l1, ↓reduceIte, c1, c2, w2, c3, c4, e]
      rw [h2 rfl]
      exact Ev.now _
    · refine ⟨β, by rw [g1, rowUp_step (show j < row.length by omega)]; exact ⟨fun h => ⟨fun _ => by omega, h⟩, fun h => h.2⟩, fun r h1 h2 => ev_succ ?_⟩
      simp only [foretellref_StoreFault.l1, ↓reduceIte, c1, c2, w2, c3, c4, e, w1]
      exact g2 r h1 h2
end
theorem rowUp_one {row : List Int} : RowUp row 1 ↔ RowUp row 0 := ⟨fun h k _ k1 k2 => h k k2 k1 k2, fun h k _ k1 k2 => h k (Nat.zero_le _) k1 k2⟩
def NoTwice (S : List Int) (j : Nat) : Prop := ∀ k : Nat, j ≤ k → k < S.length → 1 ≤ k → rd S ((k : Int) - 1) ≠ rd S (k : Int)
theorem noTwice_step {S : List Int} {j : Nat} (hj : j < S.length) : NoTwice S j ↔ (1 ≤ j → rd S ((j : Int) - 1) ≠ rd S (j : Int)) ∧ NoTwice S (j + 1) := by
  constructor
  · exact fun h => ⟨h j (Nat.le_refl _) hj, fun k k0 k1 k2 => h k (by omega) k1 k2⟩
  · rintro ⟨h, h'⟩ k k0 k1 k2
    by_cases e : k = j
    · subst e; exact h k2
    · exact h' k (by omega) k1 k2
theorem prog_end (S : List Int) (hS : S.length ≤ 20000) (d : Nat) : ∀ j : Nat, j + d = S.length → ∃ β : Bool, (β = true ↔ NoTwice S j) ∧ Ev (fun k => store_Check.l2 k S S (S.length : Int) j) (if β = true then 0 else 9) := by
  induction d with
  | zero =>
    intro j hj
    have c1 : ¬ (j : Int) < (S.length : Int) := by omega
    refine ⟨true, ⟨fun _ k k0 k1 _ => by omega, fun _ => rfl⟩, ev_succ ?_⟩
    simp only [store_Check.l2, ↓reduceIte, c1]
    exact Ev.now _
  | succ d ih =>
    intro j hj
    have c1 : (j : Int) < (S.length : Int) := by omega
    have c2 : (0 : Int) ≤ (j : Int) := by omega
    have w1 : wrap64 ((j : Int) + 1) = ((j + 1 : Nat) : Int) := by rw [wrap_id (by omega) (by omega)]; rfl
    obtain ⟨β, g1, g2⟩ := ih (j + 1) (by omega)
    by_cases c : (j : Int) > 0
    · have w2 : wrap64 ((j : Int) - 1) = (j : Int) - 1 := wrap_id (by omega) (by omega)
      have c3 : (0 : Int) ≤ (j : Int) - 1 := by omega
      have c4 : (j : Int) - 1 < (S.length : Int) := by omega
      by_cases e : rd S ((j : Int) - 1) = rd S (j : Int)
      · refine ⟨false, ⟨fun h => absurd h Bool.false_ne_true, fun h => absurd e ((noTwice_step (by omega)).1 h |>.1 (by omega))⟩, ev_succ ?_⟩
        simp only [store_Check.l2, ↓reduceIte, c1, c2, c, w2, c3, c4, e, Bool.false_eq_true]
        exact Ev.now _
      · refine ⟨β, by rw [g1, noTwice_step (show j < S.length by omega)]; exact ⟨fun h => ⟨fun _ => e, h⟩, fun h => h.2⟩, ev_succ ?_⟩
        simp only [store_Check.l2, ↓reduceIte, c1, c2, c, w2, c3, c4, e, w1]
        exact g2
    · refine ⟨β, by rw [g1, noTwice_step (show j < S.length by omega)]; exact ⟨fun h => ⟨fun h' => by omega, h⟩, fun h => h.2⟩, ev_succ ?_⟩
      simp only [store_Check.l2, ↓reduceIte, c1, c2, c, w1]
      exact g2
theorem inS_eq (a b c : Int) : foretellref_In.f a b c = some (decide (b ≤ a ∧ a ≤ c)) := by
  unfold foretellref_In.f
  by_cases h : a ≥ b
  · rw [if_pos h]
    congr 1
    simp only [decide_eq_decide]
    omega
  · rw [if_neg h]
    congr 1
    exact (decide_eq_false (by omega)).symm
theorem badK_eq (x : Int) : badK x = false ↔ 0 ≤ x ∧ x ≤ 2147483647 := by
  unfold badK
  simp
def KeysOK (S : List Int) (j : Nat) : Prop := ∀ k : Nat, j ≤ k → k < S.length → badK (rd S (k : Int)) = false
theorem keysOK_step {S : List Int} {j : Nat} (hj : j < S.length) : KeysOK S j ↔ badK (rd S (j : Int)) = false ∧ KeysOK S (j + 1) := by
  constructor
  · exact fun h => ⟨h j (Nat.le_refl _) hj, fun k k0 k1 => h k (by omega) k1⟩
  · rintro ⟨h, h'⟩ k k0 k1
    by_cases e : k = j
    · subst e; exact h
    · exact h' k (by omega) k1
theorem ref_end (S : List Int) (hS : S.length ≤ 20000) (d : Nat) : ∀ j : Nat, j + d = S.length → ∃ β : Bool, (β = true ↔ KeysOK S j ∧ NoTwice S j) ∧ Ev (fun k => foretellref_StoreFault.l2 k S j) (if β = true then 0 else 9) := by
  induction d with
  | zero =>
    intro j hj
    have c1 : ¬ (j : Int) < (S.length : Int) := by omega
    refine ⟨true, ⟨fun _ => ⟨fun k k0 k1 => by omega, fun k k0 k1 _ => by omega⟩, fun _ => rfl⟩, ev_succ ?_⟩
    simp only [foretellref_StoreFault.l2, ↓reduceIte, c1]
    exact Ev.now _
  | succ d ih =>
    intro j hj
    have c1 : (j : Int) < (S.length : Int) := by omega
    have c2 : (0 : Int) ≤ (j : Int) := by omega
    have w1 : wrap64 ((j : Int) + 1) = ((j + 1 : Nat) : Int) := by rw [wrap_id (by omega) (by omega)]; rfl
    obtain ⟨β, g1, g2⟩ := ih (j + 1) (by omega)
    have hk := keysOK_step (show j < S.length by omega)
    have hn := noTwice_step (show j < S.length by omega)
    by_cases b : 0 ≤ rd S (j : Int) ∧ rd S (j : Int) ≤ 2147483647
    · have hb : badK (rd S (j : Int)) = false := (badK_eq _).2 b
      have hin : foretellref_In.f (rd S (j : Int)) 0 2147483647 = some true := by rw [inS_eq, decide_eq_true b]
      by_cases c : (j : Int) > 0
      · have w2 : wrap64 ((j : Int) - 1) = (j : Int) - 1 := wrap_id (by omega) (by omega)
        have c3 : (0 : Int) ≤ (j : Int) - 1 := by omega
        have c4 : (j : Int) - 1 < (S.length : Int) := by omega
        by_cases e : rd S (j : Int) = rd S ((j : Int) - 1)
        · refine ⟨false, ⟨fun h => absurd h Bool.false_ne_true, fun h => absurd e.symm ((hn.1 h.2).1 (by omega))⟩, ev_succ ?_⟩
          have hin' : foretellref_In.f (rd S ((j : Int) - 1)) 0 2147483647 = some true := e ▸ hin
          simp only [foretellref_StoreFault.l2, ↓reduceIte, c1, c2, hin', Option.bind_some, c, w2, c3, c4, e, Bool.false_eq_true]
          exact Ev.now _
        · refine ⟨β, by rw [g1, hk, hn]; exact ⟨fun h => ⟨⟨hb, h.1⟩, fun _ h' => e h'.symm, h.2⟩, fun h => ⟨h.1.2, h.2.2⟩⟩, ev_succ ?_⟩
          simp only [foretellref_StoreFault.l2, ↓reduceIte, c1, c2, hin, Option.bind_some, c, w2, c3, c4, e, w1]
          exact g2
      · refine ⟨β, by rw [g1, hk, hn]; exact ⟨fun h => ⟨⟨hb, h.1⟩, fun h' => by omega, h.2⟩, fun h => ⟨h.1.2, h.2.2⟩⟩, ev_succ ?_⟩
        simp only [foretellref_StoreFault.l2, ↓reduceIte, c1, c2, hin, Option.bind_some, c, w1]
        exact g2
    · have hb : ¬ badK (rd S (j : Int)) = false := fun h => b ((badK_eq _).1 h)
      have hin : foretellref_In.f (rd S (j : Int)) 0 2147483647 = some false := by rw [inS_eq, decide_eq_false b]
      refine ⟨false, ⟨fun h => absurd h Bool.false_ne_true, fun h => absurd (hk.1 h.1).1 hb⟩, ev_succ ?_⟩
      simp only [foretellref_StoreFault.l2, ↓reduceIte, c1, c2, hin, Option.bind_some, Bool.false_eq_true]
      exact Ev.now _
structure StoreOK (loose : List Int) (runs : List (List Int)) : Prop where
  l : loose.length ≤ 7
  n : (loose ++ runs.flatten).length ≤ 20000
  e : ∀ r ∈ runs, r ≠ []
  up : ∀ r ∈ runs, RowUp r 0
  k : ∀ x ∈ loose ++ runs.flatten, badK x = false
  tw : NoTwice ((loose ++ runs.flatten).mergeSort leI) 0
theorem sorted_perm {a b : List Int} (h : a.Perm b) : a.mergeSort leI = b.mergeSort leI :=
  sorted_eq ((List.mergeSort_perm a leI).trans h) (by
    have := List.pairwise_mergeSort (le := leI) (fun a b c hab hbc => by simp [leI] at *; omega) (fun a b => by simp [leI]; omega) a
    exact this.imp (fun h => by simpa [leI] using h))
theorem any_badK (acc : List Int) : acc.any badK = false ↔ KeysOK (acc.mergeSort leI) 0 := by
  have hp := List.mergeSort_perm acc leI
  rw [List.any_eq_false]
  constructor
  · intro h k _ hk
    have hm : rd (acc.mergeSort leI) (k : Int) ∈ acc.mergeSort leI := by rw [rd_get _ _ hk]; exact List.getElem_mem hk
    have := h _ (hp.mem_iff.1 hm)
    simpa using this
  · intro h x hx
    obtain ⟨k, hk, e⟩ := List.mem_iff_getElem.1 (hp.mem_iff.2 hx)
    have := h k (Nat.zero_le _) hk
    rw [rd_get _ _ hk, e] at this
    simp [this]
theorem ends_both (loose : List Int) (runs : List (List Int)) (hr : runs.length ≤ 20000) (hn : (loose ++ runs.flatten).length ≤ 20000) (m : Int) (n : Nat) (hnn : n = runs.length) :
    ∃ β : Bool, (β = true ↔ (∀ x ∈ loose ++ runs.flatten, badK x = false) ∧ NoTwice ((loose ++ runs.flatten).mergeSort leI) 0) ∧ Ev (fun k => store_Check.l0 k (loose ++ runs.flatten) runs n n) (if β = true then 0 else 9) ∧ Ev (fun k => foretellref_StoreFault.l0 k m n loose runs) (if β = true then 0 else 9) := by
  subst hnn
  obtain ⟨acc, hacc⟩ : ∃ acc, acc = loose ++ runs.flatten := ⟨_, rfl⟩
  rw [← hacc] at hn ⊢
  have hpe : (runs.flatten ++ loose).mergeSort leI = acc.mergeSort leI := by rw [hacc]; exact sorted_perm List.perm_append_comm
  have hlen : (acc.mergeSort leI).length ≤ 20000 := by rw [List.length_mergeSort]; exact hn
  obtain ⟨β1, g1, e1⟩ := prog_end (acc.mergeSort leI) hlen (acc.mergeSort leI).length 0 (by omega)
  obtain ⟨β2, g2, e2⟩ := ref_end (acc.mergeSort leI) hlen (acc.mergeSort leI).length 0 (by omega)
  have hkeys : (∀ x ∈ acc, badK x = false) ↔ acc.any badK = false := by
    rw [List.any_eq_false]
    exact ⟨fun h x hx => by simp [h x hx], fun h x hx => by simpa using h x hx⟩
  have c1 : ¬ (runs.length : Int) < (runs.length : Int) := by omega
  have hl1 : acc.length ≤ 9223372036854775806 := by omega
  have hl2 : acc.length < 4611686018427387904 := by omega
  have hms : (acc.mergeSort fun x y => decide (x ≤ y)) = acc.mergeSort leI := rfl
  refine ⟨β2, by rw [g2, hkeys, any_badK], ev_succ ?_, ev_succ ?_⟩
  · simp only [store_Check.l0, ↓reduceIte, c1, slices_ContainsFunc_int_int.f, hl1, Option.bind_some]
    by_cases hb : acc.any badK = true
    · have : β2 = false := Bool.eq_false_iff.2 (fun h => by have := (any_badK acc).2 (g2.1 h).1; rw [hb] at this; cases this)
      simp only [hb, ↓reduceIte, this, Bool.false_eq_true]
      exact Ev.now _
    · have hbf : acc.any badK = false := Bool.eq_false_iff.2 hb
      have : β2 = β1 := by
        rw [Bool.eq_iff_iff, g2, g1]
        exact ⟨fun h => h.2, fun h => ⟨(any_badK acc).1 hbf, h⟩⟩
      simp only [hbf, Bool.false_eq_true, ↓reduceIte, slices_Sort_int_int.f, hl2, Option.bind_some, hms]
      rw [this]
      have e1' := e1
      rw [List.length_mergeSort] at e1'
      exact e1'
  · simp only [foretellref_StoreFault.l0, ↓reduceIte, c1]
    have hks := keys_ev loose runs hr (by rw [hacc, List.length_append] at hn; omega) (by rw [hacc] at hn; simp only [List.length_append] at hn ⊢; omega)
    refine ev_bind hks ?_
    have hl3 : (runs.flatten ++ loose).length < 4611686018427387904 ∧ (runs.flatten ++ loose).length < 17592186044416 := by
      rw [hacc] at hn
      simp only [List.length_append] at hn ⊢
      omega
    simp only [foretellref_numbersUp.f, hl3, and_self, ↓reduceIte, Option.bind_some, hpe]
    exact e2
theorem rows_both (loose : List Int) (runs : List (List Int)) (hrl : runs.length ≤ 5864062014634) (hb : ∀ r ∈ runs, r.length ≤ 17592186043904) (hl : loose.length ≤ 7) (d : Nat) :
    ∀ i : Nat, i + d = runs.length → (loose ++ (runs.take i).flatten).length ≤ 20000 → i ≤ 20000 → (∀ r ∈ runs.take i, r ≠ [] ∧ RowUp r 0) →
      ∃ β : Bool, (β = true ↔ StoreOK loose runs) ∧ Ev (fun k => store_Check.l0 k (loose ++ (runs.take i).flatten) runs runs.length i) (if β = true then 0 else 9) ∧ Ev (fun k => foretellref_StoreFault.l0 k ((loose ++ (runs.take i).flatten).length : Int) i loose runs) (if β = true then 0 else 9) := by
  induction d with
  | zero =>
    intro i hi hn hi2 hup
    obtain rfl : i = runs.length := by omega
    rw [List.take_length] at hn hup ⊢
    obtain ⟨β, g1, e1, e2⟩ := ends_both loose runs hi2 hn ((loose ++ runs.flatten).length : Int) runs.length rfl
    exact ⟨β, g1.trans ⟨fun h => ⟨hl, hn, fun r hr => (hup r hr).1, fun r hr => (hup r hr).2, h.1, h.2⟩, fun h => ⟨h.k, h.tw⟩⟩, e1, e2⟩
  | succ d ih =>
    intro i hi hn hi2 hup
    have hlt : i < runs.length := by omega
    have hg : rd_L1 runs i = runs[i] := getD_get _ _ _ hlt
    obtain ⟨row, hrow⟩ : ∃ row, row = runs[i] := ⟨_, rfl⟩
    have hmem : row ∈ runs := by rw [hrow]; exact List.getElem_mem hlt
    have hrb := hb row hmem
    rw [← hrow] at hg
    have htk : runs.take (i + 1) = runs.take i ++ [row] := by rw [List.take_succ_eq_append_getElem hlt, hrow]
    obtain ⟨acc, hacc⟩ : ∃ acc, acc = loose ++ (runs.take i).flatten := ⟨_, rfl⟩
    have hacc2 : loose ++ (runs.take (i + 1)).flatten = acc ++ row := by rw [htk, hacc]; simp
    have hfl : runs.flatten = (runs.take i).flatten ++ (row ++ (runs.drop (i + 1)).flatten) := by
      have h1 : runs = runs.take i ++ row :: runs.drop (i + 1) := by
        have := (List.take_append_drop i runs).symm
        rw [List.drop_eq_getElem_cons hlt, ← hrow] at this
        exact this
      calc runs.flatten = (runs.take i ++ row :: runs.drop (i + 1)).flatten := by rw [← h1]
        _ = _ := by rw [List.flatten_append, List.flatten_cons]
    rw [← hacc] at hn ⊢
    have c1 : (i : Int) < (runs.length : Int) := by omega
    have c2 : (0 : Int) ≤ (i : Int) := by omega
    by_cases ce : row.length = 0
    · have ce' : (row.length : Int) = 0 := by omega
      refine ⟨false, ⟨fun h => absurd h Bool.false_ne_true, fun h => absurd (List.length_eq_zero_iff.1 ce) (h.e row hmem)⟩, ev_succ ?_, ev_succ ?_⟩
      · simp only [store_Check.l0, ↓reduceIte, c1, c2, hg, ce', Bool.false_eq_true]
        refine ev_succ ?_
        simp only [store_Check.j1, ↓reduceIte]
        exact Ev.now _
      · simp only [foretellref_StoreFault.l0, ↓reduceIte, c1, c2, hg, ce', Bool.false_eq_true]
        refine ev_succ ?_
        simp only [foretellref_StoreFault.j1, ↓reduceIte]
        exact Ev.now _
    · have ce' : ¬ (row.length : Int) = 0 := by omega
      have w0 : wrap64 ((acc.length : Int) + (row.length : Int)) = ((acc ++ row).length : Int) := by rw [List.length_append, wrap_id (by omega) (by omega)]; omega
      by_cases cm : (acc ++ row).length ≤ 20000
      · have cm' : decide (((acc ++ row).length : Int) > 20000) = false := decide_eq_false (by omega)
        rw [List.length_append] at cm
        obtain ⟨β1, g1, g2⟩ := prog_row runs acc row runs.length i (by omega) (by omega) (by omega) row.length 0 (by omega)
        obtain ⟨β2, g3, g4⟩ := ref_row' loose runs ((acc ++ row).length : Int) row i (by omega) (by omega) (row.length - 1) 1 (by omega) (by omega)
        have hβ : β2 = β1 := by rw [Bool.eq_iff_iff, g1, g3]; exact rowUp_one
        have hi3 : i + 1 ≤ 20000 := by
          have h2 : (runs.take i).length ≤ (runs.take i).flatten.length := by
            have : ∀ l : List (List Int), (∀ r ∈ l, r ≠ []) → l.length ≤ l.flatten.length := by
              intro l
              induction l with
              | nil => intro _; simp
              | cons a l ih =>
                intro h
                have h1 := ih (fun r hr => h r (by simp [hr]))
                have h2 : a.length ≠ 0 := fun e => h a (by simp) (List.length_eq_zero_iff.1 e)
                simp only [List.flatten_cons, List.length_append, List.length_cons]
                omega
            exact this _ (fun r hr => (hup r hr).1)
          have h3 : (runs.take i).length = i := by rw [List.length_take]; omega
          have h4 : acc.length = loose.length + (runs.take i).flatten.length := by rw [hacc, List.length_append]
          omega
        by_cases cu : β1 = true
        · obtain ⟨β, q1, q2, q3⟩ := ih (i + 1) (by omega) (by rw [hacc2, List.length_append]; exact cm) hi3 (fun r hr => by
            rw [htk] at hr
            rcases List.mem_append.1 hr with hr | hr
            · exact hup r hr
            · obtain rfl : r = row := by simpa using hr
              exact ⟨fun e => ce (by rw [e]; rfl), g1.1 cu⟩)
          rw [hacc2] at q2 q3
          refine ⟨β, q1, ev_succ ?_, ev_succ ?_⟩
          · simp only [store_Check.l0, ↓reduceIte, c1, c2, hg, ce', w0, cm']
            refine ev_succ ?_
            simp only [store_Check.j1, Bool.false_eq_true, ↓reduceIte]
            exact g2 _ (fun _ => q2) (fun h => by rw [cu] at h; cases h)
          · simp only [foretellref_StoreFault.l0, ↓reduceIte, c1, c2, hg, ce', w0, cm']
            refine ev_succ ?_
            simp only [foretellref_StoreFault.j1, Bool.false_eq_true, ↓reduceIte]
            exact g4 _ (fun _ => q3) (fun h => by rw [hβ, cu] at h; cases h)
        · have cuf : β1 = false := Bool.eq_false_iff.2 cu
          refine ⟨false, ⟨fun h => absurd h Bool.false_ne_true, fun h => absurd (g1.2 (h.up row hmem)) cu⟩, ev_succ ?_, ev_succ ?_⟩
          · simp only [store_Check.l0, ↓reduceIte, c1, c2, hg, ce', w0, cm', Bool.false_eq_true]
            refine ev_succ ?_
            simp only [store_Check.j1, Bool.false_eq_true, ↓reduceIte]
            exact g2 _ (fun h => absurd h cu) (fun _ => rfl)
          · simp only [foretellref_StoreFault.l0, ↓reduceIte, c1, c2, hg, ce', w0, cm', Bool.false_eq_true]
            refine ev_succ ?_
            simp only [foretellref_StoreFault.j1, Bool.false_eq_true, ↓reduceIte]
            exact g4 _ (fun h => absurd (hβ ▸ h) cu) (fun _ => rfl)
      · have cm' : decide (((acc ++ row).length : Int) > 20000) = true := decide_eq_true (by omega)
        refine ⟨false, ⟨fun h => absurd h Bool.false_ne_true, fun h => by
          have := h.n
          rw [hfl] at this
          have e2 : acc.length = loose.length + (runs.take i).flatten.length := by rw [hacc, List.length_append]
          simp only [List.length_append] at this cm
          omega⟩, ev_succ ?_, ev_succ ?_⟩
        · simp only [store_Check.l0, ↓reduceIte, c1, c2, hg, ce', w0, cm', Bool.false_eq_true]
          refine ev_succ ?_
          simp only [store_Check.j1, ↓reduceIte]
          exact Ev.now _
        · simp only [foretellref_StoreFault.l0, ↓reduceIte, c1, c2, hg, ce', w0, cm', Bool.false_eq_true]
          refine ev_succ ?_
          simp only [foretellref_StoreFault.j1, ↓reduceIte]
          exact Ev.now _
theorem check_both {s : S52} (h : G52 s) : ∃ β : Bool, (β = true ↔ StoreOK s.f0 s.f1) ∧ Ev (fun k => store_Check.f k s.f0 s.f1) (if β = true then 0 else 9) ∧ Ev (fun k => foretellref_StoreFault.f k s.f0 s.f1) (if β = true then 0 else 9) := by
  obtain ⟨⟨h0, _⟩, ⟨h1, h2⟩⟩ := h
  by_cases hl : s.f0.length ≤ 7
  · obtain ⟨β, g1, e1, e2⟩ := rows_both s.f0 s.f1 (by omega) (fun r hr => by have := (h2 r hr).1; omega) hl s.f1.length 0 (by omega) (by simp; omega) (by omega) (fun r hr => by simp at hr)
    simp only [List.take_zero, List.flatten_nil, List.append_nil] at e1 e2
    have c1 : ¬ (s.f0.length : Int) ≥ 8 := by omega
    have c2 : ¬ (s.f0.length : Int) > 7 := by omega
    have c3 : s.f0.length < 17592186044416 := by omega
    refine ⟨β, g1, ?_, ?_⟩
    · unfold store_Check.f
      simp only [c1, ↓reduceIte, slices_Clone_int_int.f, c3, Option.bind_some]
      exact e1
    · unfold foretellref_StoreFault.f
      simp only [c2, ↓reduceIte]
      exact e2
  · have c1 : (s.f0.length : Int) ≥ 8 := by omega
    have c2 : (s.f0.length : Int) > 7 := by omega
    refine ⟨false, ⟨fun h => absurd h Bool.false_ne_true, fun h => absurd h.l hl⟩, ?_, ?_⟩
    · unfold store_Check.f
      simp only [c1, ↓reduceIte, Bool.false_eq_true]
      exact Ev.now _
    · unfold foretellref_StoreFault.f
      simp only [c2, ↓reduceIte, Bool.false_eq_true]
      exact Ev.now _
end Go.Proofs.Ytkakmghadhafjaa.Pure
