-- Cut by a program of this session (wip/prune.py) from a longer text: declarations that the law does not need are left out.
import Derived.Test.YtkakmghadhafjaaKSccFairsMFair
namespace Go.Proofs.Ytkakmghadhafjaa.Pure
open Go.RowKit Go.Proofs.Ytkakmghadhafjaa.Q Go.Proofs.Ytkakmghadhafjaa.Base Go.Proofs.YtkakmghadhafjaaW.PrintWords Go.Proofs.YtkakmghadhafjaaW.PrintLast Go.Proofs.YtkakmghadhafjaaW.PrintMore
set_option linter.unusedVariables false
set_option linter.unusedSectionVars false
set_option linter.unusedSimpArgs false
theorem succ_le {x : Nat} {y : Int} (h : (x : Int) ≤ y) (c : ¬ y = (x : Int)) : ((x + 1 : Nat) : Int) ≤ y := by omega
theorem of_succ_le {x : Nat} {y : Int} (h : ((x + 1 : Nat) : Int) ≤ y) : (x : Int) ≤ y := by omega
theorem bit_test {a : Int} {s : Nat} (a0 : 0 ≤ a) (a1 : a < 64) (hp : 1 ≤ pow2 (s : Int)) : ((Int.tmod (wrap64 (Int.tdiv a (pow2 (s : Int)))) 2) == 1) = true ↔ bitP a s := by
  have hq : 0 ≤ a / pow2 (s : Int) := Int.ediv_nonneg a0 (by omega)
  have hq1 : a / pow2 (s : Int) ≤ a := Int.ediv_le_self _ a0
  have hw : wrap64 (a / pow2 (s : Int)) = a / pow2 (s : Int) := by
    generalize a / pow2 (s : Int) = q at hq hq1
    exact wrap_id (by omega) (by omega)
  rw [tdiv_of a0, hw, tmod_of hq, beq_iff_eq]
  unfold bitP pow2
  rw [Int.toNat_natCast]
section
variable (spots : List S98) (init : Int) (next : List (List Int)) (sets : List Int) (many : Int) (part : List Int) (n : Nat) (seen : List Bool)
variable (hN : next.length = n) (hP : part.length = n) (hp : ∀ x : Int, 0 ≤ x → x < (n : Int) → 0 ≤ rd part x ∧ rd part x < (n : Int)) (hS : sets.length = n) (hs : ∀ x : Int, 0 ≤ x → x < (n : Int) → 0 ≤ rd sets x ∧ rd sets x < pow2 many) (m0 : 0 ≤ many) (m1 : many ≤ 6) (hin : ∀ a, ∀ b ∈ rd_L3 next a, 0 ≤ b ∧ b < (n : Int)) (hn : n ≤ 20000) (hl : ∀ a, (rd_L3 next a).length ≤ 9223372036854775806) (hsn : seen.length = n) (i : Nat) (hi : i < n)
include hN hP hp hS hs m0 m1 hin hn hl hsn hi
theorem ref_row (x : Nat) (hx : x < n) (d : Nat) : ∀ (j : Nat) (b : Bool), j + d = (rd_L3 next x).length → ∃ β : Bool, (β = true ↔ b = true ∨ (rd part x = i ∧ ∃ y ∈ (rd_L3 next x).drop j, rd part y = i)) ∧ ∀ r, Ev (fun k => foretellref_FairOf.l1 k part seen i β ((x + 1 : Nat) : Int) spots init next sets many) r → Ev (fun k => foretellref_FairOf.l2 k part seen i b x j spots init next sets many) r := by
  have hlx := hl (x : Int)
  have c1 : (0 : Int) ≤ (x : Int) := by omega
  have c2 : (x : Int) < (next.length : Int) := by omega
  have c4 : (x : Int) < (part.length : Int) := by omega
  induction d with
  | zero =>
    intro j b hj
    have c3 : ¬ (j : Int) < ((rd_L3 next x).length : Int) := by omega
    have w1 : wrap64 ((x : Int) + 1) = ((x + 1 : Nat) : Int) := by rw [wrap_id (by omega) (by omega)]; rfl
    refine ⟨b, ⟨.inl, fun h => h.elim id (fun h => by rw [List.drop_of_length_le (by omega)] at h; obtain ⟨_, y, hy, _⟩ := h; cases hy)⟩, fun r hr => ev_succ ?_⟩
    simp only [foretellref_FairOf.l2, ↓reduceIte, c1, c2, c3, w1]
    exact hr
  | succ d ih =>
    intro j b hj
    have hlt : j < (rd_L3 next x).length := by omega
    have hmem : rd (rd_L3 next x) j ∈ rd_L3 next x := by rw [rd_get _ _ hlt]; exact List.getElem_mem hlt
    obtain ⟨b0, b1⟩ := hin x _ hmem
    have c3 : (j : Int) < ((rd_L3 next x).length : Int) := by omega
    have c5 : (0 : Int) ≤ (j : Int) := by omega
    have c6 : rd (rd_L3 next x) j < (part.length : Int) := by omega
    have w1 : wrap64 ((j : Int) + 1) = ((j + 1 : Nat) : Int) := by rw [wrap_id (by omega) (by omega)]; rfl
    have hd : (rd_L3 next x).drop j = rd (rd_L3 next x) j :: (rd_L3 next x).drop (j + 1) := by rw [List.drop_eq_getElem_cons hlt, rd_get _ _ hlt]
    by_cases hb : b = true
    · obtain ⟨β, h1, h2⟩ := ih (j + 1) true (by omega)
      refine ⟨β, h1.trans ⟨fun _ => .inl hb, fun _ => .inl rfl⟩, fun r hr => ev_succ ?_⟩
      simp only [foretellref_FairOf.l2, ↓reduceIte, c1, c2, c3, hb, w1]
      exact h2 r hr
    · by_cases hq : rd part x = i
      · obtain ⟨β, h1, h2⟩ := ih (j + 1) (rd part (rd (rd_L3 next x) j) == (i : Int)) (by omega)
        refine ⟨β, ?_, fun r hr => ev_succ ?_⟩
        · rw [h1, hd, beq_iff_eq]
          simp only [hb, Bool.false_eq_true, hq, true_and, false_or, List.mem_cons, exists_eq_or_imp]
        · simp only [foretellref_FairOf.l2, ↓reduceIte, c1, c2, c3, hb, c4, hq, c5, b0, c6, w1]
          exact h2 r hr
      · obtain ⟨β, h1, h2⟩ := ih (j + 1) false (by omega)
        refine ⟨β, ?_, fun r hr => ev_succ ?_⟩
        · rw [h1]
          simp only [hb, hq, false_and, or_false, Bool.false_eq_true]
        · simp only [foretellref_FairOf.l2, ↓reduceIte, c1, c2, c3, hb, c4, hq, w1]
          exact h2 r hr
theorem ref_rows (d : Nat) : ∀ (x : Nat) (b : Bool), x + d = n → ∃ β : Bool, (β = true ↔ b = true ∨ ∃ y : Int, (x : Int) ≤ y ∧ y < (n : Int) ∧ rd part y = i ∧ ∃ z ∈ rd_L3 next y, rd part z = i) ∧ ∀ r, Ev (fun k => foretellref_FairOf.l3 k part seen i β 1 0 spots init next sets many) r → Ev (fun k => foretellref_FairOf.l1 k part seen i b x spots init next sets many) r := by
  induction d with
  | zero =>
    intro x b hx
    have c1 : ¬ (x : Int) < (part.length : Int) := by omega
    refine ⟨b, ⟨.inl, fun h => h.elim id (fun ⟨y, y0, y1, _⟩ => by omega)⟩, fun r hr => ev_succ ?_⟩
    simp only [foretellref_FairOf.l1, ↓reduceIte, c1]
    exact hr
  | succ d ih =>
    intro x b hx
    have c1 : (x : Int) < (part.length : Int) := by omega
    obtain ⟨β1, g1, g2⟩ := ref_row spots init next sets many part n seen hN hP hp hS hs m0 m1 hin hn hl hsn i hi x (by omega) (rd_L3 next x).length 0 b (by omega)
    obtain ⟨β, h1, h2⟩ := ih (x + 1) β1 (by omega)
    refine ⟨β, ?_, fun r hr => ev_succ ?_⟩
    · rw [h1, g1, List.drop_zero]
      constructor
      · rintro ((h | ⟨h, h'⟩) | ⟨y, y0, y1, h⟩)
        · exact .inl h
        · exact .inr ⟨x, by omega, by omega, h, h'⟩
        · exact .inr ⟨y, by omega, y1, h⟩
      · rintro (h | ⟨y, y0, y1, h, h'⟩)
        · exact .inl (.inl h)
        · by_cases c : y = (x : Int)
          · subst c; exact .inl (.inr ⟨h, h'⟩)
          · exact .inr ⟨y, by omega, y1, h, h'⟩
    · simp only [foretellref_FairOf.l1, ↓reduceIte, c1]
      exact g2 _ (h2 r hr)
theorem ref_bit (s : Nat) (hs6 : (s : Int) < many) (x9 : Bool) (d : Nat) : ∀ (x : Nat) (b : Bool), x + d = n → ∃ β : Bool, (β = true ↔ b = true ∨ ∃ y : Int, (x : Int) ≤ y ∧ y < (n : Int) ∧ rd part y = i ∧ bitP (rd sets y) s) ∧ ∀ r, Ev (fun k => foretellref_FairOf.l3 k part seen i (if x9 = true then β else false) (pow2 ((s + 1 : Nat) : Int)) ((s + 1 : Nat) : Int) spots init next sets many) r → Ev (fun k => foretellref_FairOf.l4 k part seen i x9 (pow2 s) s b x spots init next sets many) r := by
  have HPM := Aside0.mk (pow2_bd m0 m1)
  have HPS := Aside0.mk (pow2_bd (m := (s : Int)) (by omega) (by omega))
  have HC6 := Aside0.mk (show ¬ pow2 (s : Int) = 0 by have := HPS.out; omega)
  induction d with
  | zero =>
    intro x b hx
    have c1 : ¬ (x : Int) < (part.length : Int) := by omega
    have w1 : wrap64 ((s : Int) + 1) = ((s + 1 : Nat) : Int) := by rw [wrap_id (by omega) (by omega)]; rfl
    have w2 : wrap64 (pow2 (s : Int) * 2) = pow2 ((s + 1 : Nat) : Int) := by
      rw [wrap_id (by have := HPS.out; omega) (by have := HPS.out; omega)]
      unfold pow2
      rw [Int.toNat_natCast, Int.toNat_natCast, Int.pow_succ]
    refine ⟨b, ⟨.inl, fun h => h.elim id (fun ⟨y, y0, y1, _⟩ => by omega)⟩, fun r hr => ev_succ ?_⟩
    simp only [foretellref_FairOf.l4, ↓reduceIte, c1, w1, w2]
    by_cases h9 : x9 = true
    · simp only [h9, ↓reduceIte] at hr ⊢; exact hr
    · simp only [h9, ↓reduceIte] at hr ⊢; exact hr
  | succ d ih =>
    intro x b hx
    have c1 : (x : Int) < (part.length : Int) := by omega
    have c2 : (0 : Int) ≤ (x : Int) := by omega
    have c3 : (x : Int) < (sets.length : Int) := by omega
    have w1 : wrap64 ((x : Int) + 1) = ((x + 1 : Nat) : Int) := by rw [wrap_id (by omega) (by omega)]; rfl
    have v0 := (hs x (by omega) (by omega)).1
    have h64 : rd sets x < 64 := Int.lt_of_lt_of_le (hs x (by omega) (by omega)).2 HPM.out.2
    by_cases hb : b = true
    · obtain ⟨β, h1, h2⟩ := ih (x + 1) true (by omega)
      refine ⟨β, h1.trans ⟨fun _ => .inl hb, fun _ => .inl rfl⟩, fun r hr => ev_succ ?_⟩
      simp only [foretellref_FairOf.l4, ↓reduceIte, c1, hb, w1]
      exact h2 r hr
    · have hxn : (x : Int) < (n : Int) := by omega
      have split : (∃ y : Int, (x : Int) ≤ y ∧ y < (n : Int) ∧ rd part y = i ∧ bitP (rd sets y) s) ↔ (rd part x = i ∧ bitP (rd sets x) s) ∨ ∃ y : Int, ((x + 1 : Nat) : Int) ≤ y ∧ y < (n : Int) ∧ rd part y = i ∧ bitP (rd sets y) s := by
        constructor
        · rintro ⟨y, y0, y1, h⟩
          by_cases c : y = (x : Int)
          · subst c; exact .inl h
          · exact .inr ⟨y, succ_le y0 c, y1, h⟩
        · rintro (h | ⟨y, y0, y1, h⟩)
          · exact ⟨x, Int.le_refl _, hxn, h⟩
          · exact ⟨y, of_succ_le y0, y1, h⟩
      by_cases hq : rd part x = i
      · obtain ⟨β, h1, h2⟩ := ih (x + 1) ((Int.tmod (wrap64 (Int.tdiv (rd sets x) (pow2 (s : Int)))) 2) == 1) (by omega)
        refine ⟨β, ?_, fun r hr => ev_succ ?_⟩
        · rw [h1, split, bit_test v0 h64 HPS.out.1]
          simp only [hb, Bool.false_eq_true, hq, true_and, false_or]
        · have c6 := HC6.out
          simp only [foretellref_FairOf.l4, ↓reduceIte, c1, hb, c2, hq, c3, c6, w1]
          exact h2 r hr
      · obtain ⟨β, h1, h2⟩ := ih (x + 1) false (by omega)
        refine ⟨β, ?_, fun r hr => ev_succ ?_⟩
        · rw [h1, split]
          simp only [hb, hq, false_and, false_or, Bool.false_eq_true]
        · simp only [foretellref_FairOf.l4, ↓reduceIte, c1, hb, c2, hq, w1]
          exact h2 r hr
theorem ref_bits (d : Nat) : ∀ (s : Nat) (x9 : Bool), (s : Int) + d = many → ∃ β : Bool, (β = true ↔ x9 = true ∧ ∀ s' : Nat, s ≤ s' → (s' : Int) < many → BitAt sets part i n s') ∧ ∀ r, (β = true → r = ((i : Int), (0 : Int))) → (β = false → Ev (fun k => foretellref_FairOf.l0 k part seen ((i + 1 : Nat) : Int) spots init next sets many) r) → Ev (fun k => foretellref_FairOf.l3 k part seen i x9 (pow2 s) s spots init next sets many) r := by
  induction d with
  | zero =>
    intro s x9 hs0
    have c1 : ¬ (s : Int) < many := by omega
    have w1 : wrap64 ((i : Int) + 1) = ((i + 1 : Nat) : Int) := by rw [wrap_id (by omega) (by omega)]; rfl
    refine ⟨x9, ⟨fun h => ⟨h, fun s' h1 h2 => by omega⟩, fun h => h.1⟩, fun r hr hr' => ev_succ ?_⟩
    simp only [foretellref_FairOf.l3, ↓reduceIte, c1, w1]
    cases x9 with
    | true => rw [hr rfl]; exact Ev.now _
    | false => exact hr' rfl
  | succ d ih =>
    intro s x9 hs0
    have c1 : (s : Int) < many := by omega
    obtain ⟨β1, g1, g2⟩ := ref_bit spots init next sets many part n seen hN hP hp hS hs m0 m1 hin hn hl hsn i hi s c1 x9 n 0 false (by omega)
    obtain ⟨β, h1, h2⟩ := ih (s + 1) (if x9 = true then β1 else false) (by omega)
    have g3 : β1 = true ↔ BitAt sets part i n s := by
      rw [g1]
      simp only [Bool.false_eq_true, false_or]
      exact ⟨fun ⟨y, h⟩ => ⟨y, h⟩, fun ⟨y, h⟩ => ⟨y, h⟩⟩
    refine ⟨β, ?_, fun r hr hr' => ev_succ ?_⟩
    · rw [h1]
      cases x9 with
      | false => simp
      | true =>
        simp only [↓reduceIte, true_and, g3]
        constructor
        · rintro ⟨h, h'⟩ s' k1 k2
          by_cases e : s' = s
          · rw [e]; exact h
          · exact h' s' (by omega) k2
        · exact fun h => ⟨h s (Nat.le_refl _) c1, fun s' k1 k2 => h s' (by omega) k2⟩
    · simp only [foretellref_FairOf.l3, ↓reduceIte, c1]
      exact g2 _ (h2 r hr hr')
theorem ref_spot (hq : rd part i = i) : ∃ β : Bool, (β = true ↔ FairP next sets many part n i) ∧ ∀ r, (β = true → r = ((i : Int), (0 : Int))) → (β = false → Ev (fun k => foretellref_FairOf.l0 k part seen ((i + 1 : Nat) : Int) spots init next sets many) r) → Ev (fun k => foretellref_FairOf.l1 k part seen i false 0 spots init next sets many) r := by
  obtain ⟨β1, g1, g2⟩ := ref_rows spots init next sets many part n seen hN hP hp hS hs m0 m1 hin hn hl hsn i hi n 0 false (by omega)
  obtain ⟨β, h1, h2⟩ := ref_bits spots init next sets many part n seen hN hP hp hS hs m0 m1 hin hn hl hsn i hi many.toNat 0 β1 (by omega)
  refine ⟨β, ?_, fun r hr hr' => g2 _ (h2 r hr hr')⟩
  rw [h1, g1]
  unfold FairP
  simp only [Bool.false_eq_true, false_or, hq, true_and]
  refine and_congr ⟨fun ⟨y, h⟩ => ⟨y, h⟩, fun ⟨y, h⟩ => ⟨y, h⟩⟩ ⟨fun h s k => h s (Nat.zero_le _) k, fun h s _ k => h s k⟩
end
section
variable (spots : List S98) (init : Int) (next : List (List Int)) (sets : List Int) (many : Int) (part : List Int) (n : Nat) (seen : List Bool)
variable (hN : next.length = n) (hP : part.length = n) (hp : ∀ x : Int, 0 ≤ x → x < (n : Int) → 0 ≤ rd part x ∧ rd part x < (n : Int)) (hS : sets.length = n) (hs : ∀ x : Int, 0 ≤ x → x < (n : Int) → 0 ≤ rd sets x ∧ rd sets x < pow2 many) (m0 : 0 ≤ many) (m1 : many ≤ 6) (hin : ∀ a, ∀ b ∈ rd_L3 next a, 0 ≤ b ∧ b < (n : Int)) (hn : n ≤ 20000) (hl : ∀ a, (rd_L3 next a).length ≤ 9223372036854775806) (hsn : seen.length = n)
include hN hP hp hS hs m0 m1 hin hn hl hsn
theorem fair_both (o : List Bool) (ho : o.length = n) (hh : ∀ p : Int, 0 ≤ p → p < (n : Int) → (tru o p ↔ FairP next sets many part n p)) (d : Nat) : ∀ i : Nat, i + d = n → ∃ r, Ev (fun k => scc_Fair.l0 k seen o (n : Int) i) r ∧ Ev (fun k => foretellref_FairOf.l0 k part seen i spots init next sets many) r := by
  induction d with
  | zero =>
    intro i hi
    have c1 : ¬ (i : Int) < (n : Int) := by omega
    have c2 : ¬ (i : Int) < (part.length : Int) := by omega
    refine ⟨(0, 11), ev_succ ?_, ev_succ ?_⟩
    · simp only [scc_Fair.l0, ↓reduceIte, c1]; exact Ev.now _
    · simp only [foretellref_FairOf.l0, ↓reduceIte, c2]; exact Ev.now _
  | succ d ih =>
    intro i hi
    have c1 : (i : Int) < (n : Int) := by omega
    have c2 : (i : Int) < (part.length : Int) := by omega
    have c3 : (0 : Int) ≤ (i : Int) := by omega
    have c4 : (i : Int) < (o.length : Int) := by omega
    have c5 : (i : Int) < (seen.length : Int) := by omega
    have w1 : wrap64 ((i : Int) + 1) = ((i + 1 : Nat) : Int) := by rw [wrap_id (by omega) (by omega)]; rfl
    obtain ⟨r, e1, e2⟩ := ih (i + 1) (by omega)
    have hhi := hh i c3 c1
    have refskip : Ev (fun k => foretellref_FairOf.j1 k part seen i true spots init next sets many) r := by
      refine ev_succ ?_
      simp only [foretellref_FairOf.j1, ↓reduceIte, w1]
      exact e2
    by_cases hq : rd part i = i
    · by_cases hsi : rdOf false seen i = true
      · obtain ⟨β, h1, h2⟩ := ref_spot spots init next sets many part n seen hN hP hp hS hs m0 m1 hin hn hl hsn i (by omega) hq
        have hβ : rdOf false o i = true ↔ β = true := hhi.trans h1.symm
        refine ⟨if β = true then ((i : Int), 0) else r, ev_succ ?_, ev_succ ?_⟩
        · by_cases hb : β = true
          · simp only [scc_Fair.l0, ↓reduceIte, c1, c3, c4, hβ.2 hb, c5, hsi, hb]; exact Ev.now _
          · have : ¬ rdOf false o i = true := fun h => hb (hβ.1 h)
            simp only [scc_Fair.l0, ↓reduceIte, c1, c3, c4, this, hb, w1]; exact e1
        · simp only [foretellref_FairOf.l0, ↓reduceIte, c2, c3, hq, c5, hsi, Bool.not_true]
          refine ev_succ ?_
          simp only [foretellref_FairOf.j1, Bool.false_eq_true, ↓reduceIte]
          exact h2 _ (fun h => by rw [if_pos h]) (fun h => by rw [if_neg (by rw [h]; simp)]; exact e2)
      · have hsf : rdOf false seen i = false := Bool.eq_false_iff.2 hsi
        refine ⟨r, ev_succ ?_, ev_succ ?_⟩
        · by_cases hb : rdOf false o i = true
          · simp only [scc_Fair.l0, ↓reduceIte, c1, c3, c4, hb, c5, hsi, w1]; exact e1
          · simp only [scc_Fair.l0, ↓reduceIte, c1, c3, c4, hb, w1]; exact e1
        · simp only [foretellref_FairOf.l0, ↓reduceIte, c2, c3, hq, c5, hsf, Bool.not_false]
          exact refskip
    · have hb : ¬ rdOf false o i = true := fun h => hq (hhi.1 h).1
      refine ⟨r, ev_succ ?_, ev_succ ?_⟩
      · simp only [scc_Fair.l0, ↓reduceIte, c1, c3, c4, hb, w1]; exact e1
      · simp only [foretellref_FairOf.l0, ↓reduceIte, c2, c3, hq]
        exact refskip
end
end Go.Proofs.Ytkakmghadhafjaa.Pure
