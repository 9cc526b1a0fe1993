import Derived.Lib.SlicesCompact
import Derived.Test.YtgdijfhdpgdanaaGreatDoorKProductBehindsG7
namespace Go.Proofs.YtgdijfhdpgdanaaGreatDoor.Pure
set_option linter.unusedVariables false
set_option linter.unusedSimpArgs false
theorem strict_ext : ∀ {a b : List Int}, a.Pairwise (· < ·) → b.Pairwise (· < ·) → (∀ x, x ∈ a ↔ x ∈ b) → a = b
 | [], [], _, _, _ => rfl
 | [], y :: b, _, _, h => by have := (h y).2 (by simp); simp at this
 | x :: a, [], _, _, h => by have := (h x).1 (by simp); simp at this
 | x :: a, y :: b, ha, hb, h => by
  rw [List.pairwise_cons] at ha hb
  have hxy : x = y := by
   have h1 := (h x).1 (by simp)
   have h2 := (h y).2 (by simp)
   rcases List.mem_cons.1 h1 with e | h1
   ·exact e
   rcases List.mem_cons.1 h2 with e | h2
   ·exact e.symm
   have := hb.1 x h1
   have := ha.1 y h2
   omega
  subst hxy
  congr 1
  refine strict_ext ha.2 hb.2 fun z => ⟨fun hz => ?_, fun hz => ?_⟩
  ·rcases List.mem_cons.1 ((h z).1 (by simp [hz])) with e | h1
   ·have := ha.1 z hz; omega
   ·exact h1
  ·rcases List.mem_cons.1 ((h z).2 (by simp [hz])) with e | h1
   ·have := hb.1 z hz; omega
   ·exact h1
theorem compact_upTo (zs : List Int) (hs : zs.Pairwise (· ≤ ·)) : ∀ m, m ≤ zs.length → (Lib.compactUpTo zs.toArray m).Pairwise (· < ·) ∧ (∀ x, x ∈ Lib.compactUpTo zs.toArray m ↔ x ∈ zs.take m) ∧ (∀ x ∈ Lib.compactUpTo zs.toArray m, ∀ h : 0 < m, x ≤ zs[m - 1]!)
 | 0, _ => ⟨by simp [Lib.compactUpTo], fun x => by simp [Lib.compactUpTo], fun x _ h => absurd h (by omega)⟩
 | m + 1, hm => by
  obtain ⟨h1, h2, h3⟩ := compact_upTo zs hs m (by omega)
  have hlt : m < zs.length := by omega
  have he : zs.toArray[m]! = zs[m] := by simp [hlt]
  have hb : zs[m + 1 - 1]! = zs[m] := by simp [hlt]
  have hprev : 0 < m → zs[m - 1]! = zs[m - 1]'(by omega) := fun h => by simp [show m - 1 < zs.length by omega]
  have hle : ∀ x ∈ Lib.compactUpTo zs.toArray m, x ≤ zs[m] := fun x hx => by
   rcases Nat.eq_zero_or_pos m with e | hp
   ·subst e; simp [Lib.compactUpTo] at hx
   ·have h4 := h3 x hx hp
    rw [hprev hp] at h4
    have h5 : zs[m - 1]'(by omega) ≤ zs[m] := List.pairwise_iff_getElem.1 hs (m - 1) m (by omega) hlt (by omega)
    omega
  rw [Lib.compactUpTo_succ]
  by_cases hk : Lib.keeps zs.toArray m = true
  ·rw [if_pos hk, he]
   have hgt : ∀ x ∈ Lib.compactUpTo zs.toArray m, x < zs[m] := fun x hx => by
    rcases Nat.eq_zero_or_pos m with e | hp
    ·subst e; simp [Lib.compactUpTo] at hx
    ·have h4 := h3 x hx hp
     rw [hprev hp] at h4
     have h5 : zs[m - 1]'(by omega) ≤ zs[m] := List.pairwise_iff_getElem.1 hs (m - 1) m (by omega) hlt (by omega)
     have h6 : zs[m] ≠ zs[m - 1]'(by omega) := by
      simp only [Lib.keeps, decide_eq_true_eq] at hk
      rcases hk with e | hk
      ·omega
      ·simpa [hlt, show m - 1 < zs.length by omega] using hk
     omega
   refine ⟨List.pairwise_append.2 ⟨h1, by simp, fun x hx y hy => ?_⟩, fun x => ?_, fun x hx _ => ?_⟩
   ·rw [List.mem_singleton.1 hy]; exact hgt x hx
   ·rw [List.mem_append, h2, List.take_succ_eq_append_getElem hlt, List.mem_append]
   ·rw [hb]
    rcases List.mem_append.1 hx with hx | hx
    ·exact hle x hx
    ·rw [List.mem_singleton.1 hx]; exact Int.le_refl _
  ·rw [if_neg hk, List.append_nil]
   have hp : 0 < m := by
    rcases Nat.eq_zero_or_pos m with e | hp
    ·subst e; exact absurd (by simp [Lib.keeps]) hk
    ·exact hp
   have h6 : zs[m] = zs[m - 1]'(by omega) := by
    refine Classical.byContradiction fun hc => hk ?_
    simp only [Lib.keeps, decide_eq_true_eq]
    right
    simpa [hlt, show m - 1 < zs.length by omega] using hc
   refine ⟨h1, fun x => ?_, fun x hx _ => by rw [hb]; exact hle x hx⟩
   rw [h2, List.take_succ_eq_append_getElem hlt, List.mem_append, List.mem_singleton]
   refine ⟨.inl, fun h => h.elim id fun e => ?_⟩
   rw [e, h6]
   exact List.mem_iff_getElem.2 ⟨m - 1, by rw [List.length_take]; omega, by rw [List.getElem_take]⟩
theorem compact_sorted {zs : List Int} (hs : zs.Pairwise (· ≤ ·)) : (Lib.compact zs).Pairwise (· < ·) ∧ ∀ x, x ∈ Lib.compact zs ↔ x ∈ zs := by
 obtain ⟨h1, h2, _⟩ := compact_upTo zs hs zs.length (Nat.le_refl _)
 rw [List.take_length] at h2
 exact ⟨h1, h2⟩
def upTo (n : Nat) (l : List Int) : List Int := ((List.range n).map fun (i : Nat) => (i : Int)).filter fun x => l.any (· == x)
theorem upTo_strict (n : Nat) (l : List Int) : (upTo n l).Pairwise (· < ·) := by
 unfold upTo
 refine List.Pairwise.filter _ ?_
 rw [List.pairwise_map]
 exact List.pairwise_lt_range.imp fun h => by omega
theorem upTo_mem (n : Nat) (l : List Int) (x : Int) : x ∈ upTo n l ↔ (0 ≤ x ∧ x < (n : Int)) ∧ x ∈ l := by
 unfold upTo
 rw [List.mem_filter, List.mem_map, List.any_eq_true]
 constructor
 ·rintro ⟨⟨i, hi, rfl⟩, y, hy, he⟩
  rw [List.mem_range] at hi
  exact ⟨⟨by omega, by omega⟩, by rw [← eq_of_beq he]; exact hy⟩
 ·rintro ⟨⟨h0, h1⟩, hx⟩
  exact ⟨⟨x.toNat, List.mem_range.2 (by omega), by omega⟩, x, hx, by simp⟩
theorem compact_sort (n : Nat) (l : List Int) (hl : ∀ x ∈ l, 0 ≤ x ∧ x < (n : Int)) : Lib.compact (l.mergeSort fun x y => decide (x ≤ y)) = upTo n l := by
 have hs : (l.mergeSort fun x y => decide (x ≤ y)).Pairwise (· ≤ ·) := by
  have h := List.pairwise_mergeSort (le := fun x y : Int => decide (x ≤ y)) (fun a b c h1 h2 => by simp only [decide_eq_true_eq] at *; omega) (fun a b => by simp only [Bool.or_eq_true, decide_eq_true_eq]; omega) l
  exact h.imp fun h => by simpa using h
 obtain ⟨h1, h2⟩ := compact_sorted hs
 refine strict_ext h1 (upTo_strict n l) fun x => ?_
 rw [h2, upTo_mem, List.mem_mergeSort]
 exact ⟨fun h => ⟨hl x h, h⟩, fun h => h.2⟩
end Go.Proofs.YtgdijfhdpgdanaaGreatDoor.Pure
