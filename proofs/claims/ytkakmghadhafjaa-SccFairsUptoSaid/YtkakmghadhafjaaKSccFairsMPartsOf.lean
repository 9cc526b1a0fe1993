-- Cut by a program of this session (wip/prune.py) from a longer text: declarations that the law does not need are left out.
import Derived.Test.YtkakmghadhafjaaKSccFairsQx9
import Derived.Test.YtkakmghadhafjaaKSccFairsQx8
import Derived.Test.YtkakmghadhafjaaKSccFairsMFrom
import Derived.Test.YtkakmghadhafjaaKSccFairsMPart
import Derived.Test.YtkakmghadhafjaaKSccFairsMEv
namespace Go.Proofs.Ytkakmghadhafjaa.Pure
open Go.RowKit Go.Proofs.Ytkakmghadhafjaa.Q Go.Proofs.Ytkakmghadhafjaa.Base Go.Proofs.YtkakmghadhafjaaW.PrintWords Go.Proofs.YtkakmghadhafjaaW.PrintLast Go.Proofs.YtkakmghadhafjaaW.PrintMore
set_option linter.unusedVariables false
set_option linter.unusedSectionVars false
def markS (i : Int) (a b : List Bool) (part : List Int) : Nat → List Int
  | 0 => part
  | t + 1 => if a.getD t false = true ∧ b.getD t false = true then (markS i a b part t).set t i else markS i a b part t
def partsOfL (back : List (List Int)) (spots : List S98) (init : Int) (next : List (List Int)) (sets : List Int) (many : Int) : Nat → List Int → Int → Option (List Int)
  | 0, _, _ => none
  | k + 1, part, i => if i < (part.length : Int) then (if 0 ≤ i then (if 0 ≤ rd part i then partsOfL back spots init next sets many k part (i + 1) else
      (foretellref_reachedFrom.f k spots init next sets many [i]).bind fun a => (foretellref_reachedFrom.f k spots 0 back [] 0 [i]).bind fun b =>
        if a.length = part.length ∧ b.length = part.length then partsOfL back spots init next sets many k (markS i a b part part.length) (i + 1) else none) else none) else some part
theorem markS_rd (i : Int) (a b : List Bool) (part : List Int) : ∀ t : Nat, t ≤ part.length → (markS i a b part t).length = part.length ∧ ∀ x : Int, 0 ≤ x → rd (markS i a b part t) x = if x < (t : Int) ∧ a.getD x.toNat false = true ∧ b.getD x.toNat false = true then i else rd part x
  | 0, _ => ⟨rfl, fun x x0 => by rw [if_neg (fun h => by omega)]; rfl⟩
  | t + 1, ht => by
    obtain ⟨h1, h2⟩ := markS_rd i a b part t (by omega)
    unfold markS
    by_cases c : a.getD t false = true ∧ b.getD t false = true
    · rw [if_pos c]
      refine ⟨by rw [List.length_set]; exact h1, fun x x0 => ?_⟩
      have := rd_set (st := markS i a b part t) (i := (t : Int)) (v := i) (x := x) (by omega) (by rw [h1]; omega) x0
      rw [Int.toNat_natCast] at this
      rw [this]
      by_cases e : x = (t : Int)
      · subst e
        rw [if_pos rfl, if_pos ⟨by omega, by rw [Int.toNat_natCast]; exact c.1, by rw [Int.toNat_natCast]; exact c.2⟩]
      · rw [if_neg e, h2 x x0]
        by_cases d : x < (t : Int) ∧ a.getD x.toNat false = true ∧ b.getD x.toNat false = true
        · rw [if_pos d, if_pos ⟨by omega, d.2⟩]
        · rw [if_neg d, if_neg (fun q => d ⟨by omega, q.2⟩)]
    · rw [if_neg c]
      refine ⟨h1, fun x x0 => ?_⟩
      rw [h2 x x0]
      by_cases e : x = (t : Int)
      · subst e
        rw [if_neg (fun q => by omega), if_neg (fun q => c (by rw [Int.toNat_natCast] at q; exact q.2))]
      · by_cases d : x < (t : Int) ∧ a.getD x.toNat false = true ∧ b.getD x.toNat false = true
        · rw [if_pos d, if_pos ⟨by omega, d.2⟩]
        · rw [if_neg d, if_neg (fun q => d ⟨by omega, q.2⟩)]
def tot (l : List (List Int)) : Nat := (l.map List.length).sum
theorem row_tot : ∀ (l : List (List Int)) (r : List Int), r ∈ l → r.length ≤ tot l
  | [], _, h => by cases h
  | a :: l, r, h => by
    rcases List.mem_cons.1 h with rfl | h
    · simp [tot]
    · have := row_tot l r h
      simp only [tot, List.map_cons, List.sum_cons] at this ⊢
      omega
theorem tot_set : ∀ (l : List (List Int)) (j : Nat) (i : Int), tot (l.set j (l.getD j [] ++ [i])) ≤ tot l + 1
  | [], _, _ => by simp [tot]
  | a :: l, 0, i => by simp [tot]; omega
  | a :: l, j + 1, i => by
    have := tot_set l j i
    simp only [tot, List.set_cons_succ, List.getD_cons_succ, List.map_cons, List.sum_cons] at this ⊢
    omega
theorem tot_row (i : Int) : ∀ (row : List Int) (acc : List (List Int)), tot (turnRow i acc row) ≤ tot acc + row.length
  | [], acc => Nat.le_refl _
  | q :: row, acc => by
    have h1 := tot_row i row (turn1 i acc q)
    have h2 : tot (turn1 i acc q) ≤ tot acc + 1 := tot_set acc q.toNat i
    simp only [List.length_cons]
    show tot (turnRow i (turn1 i acc q) row) ≤ _
    omega
theorem tot_all (next : List (List Int)) : ∀ (l : List Nat) (acc : List (List Int)), tot (turnAll next acc l) ≤ tot acc + (l.map (fun (i : Nat) => (rd_L3 next (i : Int)).length)).sum
  | [], acc => Nat.le_refl _
  | i :: l, acc => by
    have h1 := tot_all next l (turnRow i acc (rd_L3 next (i : Int)))
    have h2 := tot_row (i : Int) (rd_L3 next (i : Int)) acc
    simp only [List.map_cons, List.sum_cons]
    show tot (turnAll next (turnRow i acc (rd_L3 next (i : Int))) l) ≤ _
    omega
theorem range_sum (next : List (List Int)) : ((List.range next.length).map (fun (i : Nat) => (rd_L3 next (i : Int)).length)).sum = tot next := by
  unfold tot
  congr 1
  apply List.ext_getElem
  · simp
  · intro i h1 h2
    simp only [List.getElem_map, List.getElem_range]
    show (next.getD ((i : Int)).toNat []).length = _
    rw [Int.toNat_natCast, List.getD_eq_getElem?_getD, List.getElem?_eq_getElem (by simpa using h2)]
    rfl
theorem tot_turn (next : List (List Int)) : tot (turnS next) ≤ tot next := by
  have h := tot_all next (List.range next.length) (List.replicate next.length [])
  rw [range_sum] at h
  have h0 : tot (List.replicate next.length []) = 0 := by simp [tot]
  rw [h0, Nat.zero_add] at h
  exact h
theorem leads_in {next : List (List Int)} {n : Nat} (hin : ∀ a, ∀ b ∈ rd_L3 next a, 0 ≤ b ∧ b < (n : Int)) {x z : Int} (x0 : 0 ≤ x) (x1 : x < (n : Int)) (h : Leads next x z) : 0 ≤ z ∧ z < (n : Int) := by
  induction h with
  | start z e => subst e; exact ⟨x0, x1⟩
  | step a b _ hb _ => exact hin a b hb
def POk (next : List (List Int)) (n : Nat) (part : List Int) (i : Int) : Prop := part.length = n ∧ ∀ x : Int, 0 ≤ x → x < (n : Int) → (rd part x = -1 ∧ ∀ j : Int, 0 ≤ j → j < i → ¬ Mut next x j) ∨ (0 ≤ rd part x ∧ rd part x < i ∧ Least next x (rd part x))
section
variable (spots : List S98) (init : Int) (next : List (List Int)) (sets : List Int) (many : Int) (n : Nat) (hN : next.length = n) (hin : ∀ a, ∀ b ∈ rd_L3 next a, 0 ≤ b ∧ b < (n : Int)) (hn : n ≤ 20000) (hl : ∀ a, (rd_L3 next a).length ≤ 9223372036854775807) (ht : tot next ≤ 9223372036854775807) (hs : spots.length = n)
include hN hin hn hl ht hs
theorem partsOf_run (d : Nat) : ∀ (i : Nat) (part : List Int), i + d = n → POk next n part i → ∃ r, GoodP next n r ∧ Ev (fun k => partsOfL (turnS next) spots init next sets many k part (i : Int)) r := by
  induction d with
  | zero =>
    intro i part hi h
    have c1 : ¬ (i : Int) < (part.length : Int) := by rw [h.1]; omega
    refine ⟨part, ⟨h.1, fun x x0 x1 => ?_⟩, ev_succ ?_⟩
    · rcases h.2 x x0 x1 with ⟨_, h2⟩ | h2
      · exact absurd (Mut.refl next x) (h2 x x0 (by omega))
      · exact h2.2.2
    · simp only [partsOfL, c1, ↓reduceIte]
      exact ev_const (fun k => rfl)
  | succ d ih =>
    intro i part hi h
    have c1 : (i : Int) < (part.length : Int) := by rw [h.1]; omega
    have c2 : (0 : Int) ≤ (i : Int) := by omega
    by_cases c3 : 0 ≤ rd part (i : Int)
    · obtain ⟨r, hg, he⟩ := ih (i + 1) part (by omega) ⟨h.1, fun x x0 x1 => by
        rcases h.2 x x0 x1 with ⟨e, h2⟩ | h2
        · refine .inl ⟨e, fun j j0 j1 hm => ?_⟩
          by_cases ej : j = (i : Int)
          · subst ej
            rcases h.2 (i : Int) c2 (by omega) with ⟨e', _⟩ | h3
            · omega
            · exact h2 (rd part (i : Int)) h3.1 h3.2.1 (hm.trans h3.2.2.1)
          · exact h2 j j0 (by omega) hm
        · exact .inr ⟨h2.1, by omega, h2.2.2⟩⟩
      refine ⟨r, hg, ev_succ ?_⟩
      simp only [partsOfL, c1, c2, c3, ↓reduceIte]
      exact he
    · have hi1 : rd part (i : Int) = -1 ∧ ∀ j : Int, 0 ≤ j → j < (i : Int) → ¬ Mut next (i : Int) j := by
        rcases h.2 (i : Int) c2 (by omega) with h2 | h2
        · exact h2
        · exact absurd h2.1 c3
      have hf : ∀ x : Int, x = (i : Int) → 0 ≤ x ∧ x < (n : Int) := fun x e => by omega
      have hTn : (turnS next).length = n := by rw [turnS_len]; exact hN
      have hTin : ∀ a, ∀ b ∈ rd_L3 (turnS next) a, 0 ≤ b ∧ b < (n : Int) := fun a b hb => by
        have e : rd_L3 (turnS next) a = rd_L3 (turnS next) (a.toNat : Int) := by
          show (turnS next).getD a.toNat [] = (turnS next).getD ((a.toNat : Int)).toNat []
          rw [Int.toNat_natCast]
        rw [e] at hb
        have := turnS_in next (by rw [hN]; exact hin) (b := (a.toNat : Int)) (by omega) hb
        rw [hN] at this
        exact this
      have hTl : ∀ a, (rd_L3 (turnS next) a).length ≤ 9223372036854775807 := fun a => rd_rows (Q := fun l => l.length ≤ 9223372036854775807) (by decide) (fun l hl => Nat.le_trans (row_tot _ l hl) (Nat.le_trans (tot_turn next) ht)) a
      obtain ⟨a, ga, ea⟩ := reached_from spots init next sets many (fun x => x = (i : Int)) n hN hin hf hn hl hs [(i : Int)] (fun x => by simp) (by simp)
      obtain ⟨b, gb, eb⟩ := reached_from spots 0 (turnS next) [] 0 (fun x => x = (i : Int)) n hTn hTin hf hn hTl hs [(i : Int)] (fun x => by simp) (by simp)
      have hm : ∀ x : Int, 0 ≤ x → x < (n : Int) → ((a.getD x.toNat false = true ∧ b.getD x.toNat false = true) ↔ Mut next (i : Int) x) := fun x x0 x1 => by
        have h1 : a.getD x.toNat false = true ↔ Leads next (i : Int) x := ga.2 x x0 x1
        have h2 : b.getD x.toNat false = true ↔ Leads (turnS next) (i : Int) x := gb.2 x x0 x1
        rw [h1, h2, leads_turn next (by rw [hN]; exact hin) c2 (by omega) x0 (by omega)]
        exact Iff.rfl
      obtain ⟨hl1, hl2⟩ := markS_rd (i : Int) a b part part.length (Nat.le_refl _)
      obtain ⟨r, hg, he⟩ := ih (i + 1) (markS (i : Int) a b part part.length) (by omega) ⟨hl1.trans h.1, fun x x0 x1 => by
        rw [hl2 x x0]
        by_cases c : Mut next (i : Int) x
        · rw [if_pos ⟨by rw [h.1]; exact x1, (hm x x0 x1).2 c⟩]
          refine .inr ⟨c2, by omega, c.symm, fun z hz => ?_⟩
          have hz0 := leads_in hin x0 x1 hz.1
          apply Classical.byContradiction
          intro hlt
          exact hi1.2 z hz0.1 (by omega) (c.trans hz)
        · rw [if_neg (fun q => c ((hm x x0 x1).1 q.2))]
          rcases h.2 x x0 x1 with ⟨e, h2⟩ | h2
          · refine .inl ⟨e, fun j j0 j1 hm' => ?_⟩
            by_cases ej : j = (i : Int)
            · subst ej; exact c hm'.symm
            · exact h2 j j0 (by omega) hm'
          · exact .inr ⟨h2.1, by omega, h2.2.2⟩⟩
      have hal : a.length = part.length ∧ b.length = part.length := ⟨ga.1.trans h.1.symm, gb.1.trans h.1.symm⟩
      refine ⟨r, hg, ev_succ ?_⟩
      simp only [partsOfL, c1, c2, c3, ↓reduceIte]
      refine ev_bind ea (ev_bind eb ?_)
      simp only [hal, and_self, ↓reduceIte]
      exact he
theorem partsOf_all : ∃ r, GoodP next n r ∧ Ev (fun k => partsOfL (turnS next) spots init next sets many k (List.replicate n (-1)) 0) r := by
  refine partsOf_run spots init next sets many n hN hin hn hl ht hs n 0 _ (by omega) ⟨by simp, fun x x0 x1 => .inl ⟨?_, fun j j0 j1 => by omega⟩⟩
  unfold rd
  rw [List.getD_eq_getElem?_getD, List.getElem?_replicate, if_pos (by omega)]
  rfl
end
end Go.Proofs.Ytkakmghadhafjaa.Pure
