-- Cut by a program of this session (wip/prune.py) from a longer text: declarations that the law does not need are left out.
import Derived.Test.YtkakmghadhafjaaKSccFairsMRounds
namespace Go.Proofs.Ytkakmghadhafjaa.Pure
open Go.RowKit Go.Proofs.Ytkakmghadhafjaa.Q Go.Proofs.Ytkakmghadhafjaa.Base Go.Proofs.YtkakmghadhafjaaW.PrintWords Go.Proofs.YtkakmghadhafjaaW.PrintLast Go.Proofs.YtkakmghadhafjaaW.PrintMore
set_option linter.unusedVariables false
def turn1 (i : Int) (acc : List (List Int)) (q : Int) : List (List Int) := acc.set q.toNat (rd_L3 acc q ++ [i])
def turnRow (i : Int) (acc : List (List Int)) (row : List Int) : List (List Int) := row.foldl (turn1 i) acc
def turnAll (next : List (List Int)) (acc : List (List Int)) (l : List Nat) : List (List Int) := l.foldl (fun acc (i : Nat) => turnRow i acc (rd_L3 next i)) acc
def turnS (next : List (List Int)) : List (List Int) := turnAll next (List.replicate next.length []) (List.range next.length)
theorem turn1_len (i : Int) (acc : List (List Int)) (q : Int) : (turn1 i acc q).length = acc.length := by simp [turn1]
theorem turnRow_len (i : Int) (row : List Int) : ∀ acc, (turnRow i acc row).length = acc.length := by
  induction row with
  | nil => intro acc; rfl
  | cons a l ih => intro acc; exact (ih _).trans (turn1_len _ _ _)
theorem turnAll_len (next : List (List Int)) (l : List Nat) : ∀ acc, (turnAll next acc l).length = acc.length := by
  induction l with
  | nil => intro acc; rfl
  | cons a l ih => intro acc; exact (ih _).trans (turnRow_len _ _ _)
theorem turnS_len (next : List (List Int)) : (turnS next).length = next.length := by unfold turnS; rw [turnAll_len]; simp
theorem turn1_mem {i : Int} {acc : List (List Int)} {q : Int} (h0 : 0 ≤ q) (h1 : q < (acc.length : Int)) {b : Int} (hb : 0 ≤ b) (x : Int) : x ∈ rd_L3 (turn1 i acc q) b ↔ x ∈ rd_L3 acc b ∨ (x = i ∧ b = q) := by
  have hlt : q.toNat < acc.length := by omega
  show x ∈ (acc.set q.toNat (rd_L3 acc q ++ [i])).getD b.toNat [] ↔ x ∈ acc.getD b.toNat [] ∨ _
  rw [List.getD_eq_getElem?_getD, List.getElem?_set]
  by_cases c : b = q
  · subst c
    simp only [↓reduceIte, hlt, Option.getD_some, List.mem_append, List.mem_singleton, and_true]
    rfl
  · have c' : ¬ q.toNat = b.toNat := by omega
    simp only [c, c', ↓reduceIte, and_false, or_false]
    rw [List.getD_eq_getElem?_getD]
theorem turnRow_mem {i : Int} {b : Int} (hb : 0 ≤ b) (x : Int) (row : List Int) : ∀ acc : List (List Int), (∀ q ∈ row, 0 ≤ q ∧ q < (acc.length : Int)) → (x ∈ rd_L3 (turnRow i acc row) b ↔ x ∈ rd_L3 acc b ∨ (x = i ∧ b ∈ row)) := by
  induction row with
  | nil => intro acc _; simp [turnRow]
  | cons a l ih =>
    intro acc h
    obtain ⟨h0, h1⟩ := h a (by simp)
    refine (ih (turn1 i acc a) (fun q ht => by rw [turn1_len]; exact h q (by simp [ht]))).trans ?_
    rw [turn1_mem h0 h1 hb, List.mem_cons]
    constructor
    · rintro ((h | ⟨h, h'⟩) | ⟨h, h'⟩)
      · exact .inl h
      · exact .inr ⟨h, .inl h'⟩
      · exact .inr ⟨h, .inr h'⟩
    · rintro (h | ⟨h, h' | h'⟩)
      · exact .inl (.inl h)
      · exact .inl (.inr ⟨h, h'⟩)
      · exact .inr ⟨h, h'⟩
theorem turnAll_mem (next : List (List Int)) (n : Nat) (hin : ∀ a, ∀ b ∈ rd_L3 next a, 0 ≤ b ∧ b < (n : Int)) {b : Int} (hb : 0 ≤ b) (x : Int) (l : List Nat) : ∀ acc : List (List Int), acc.length = n → (x ∈ rd_L3 (turnAll next acc l) b ↔ x ∈ rd_L3 acc b ∨ ∃ i ∈ l, x = (i : Int) ∧ b ∈ rd_L3 next (i : Int)) := by
  induction l with
  | nil => intro acc _; simp [turnAll]
  | cons a l ih =>
    intro acc h
    refine (ih (turnRow a acc (rd_L3 next a)) (by rw [turnRow_len]; exact h)).trans ?_
    rw [turnRow_mem hb x _ acc (fun q ht => by rw [h]; exact hin _ q ht)]
    constructor
    · rintro ((h | h) | ⟨i, hi, h⟩)
      · exact .inl h
      · exact .inr ⟨a, by simp, h⟩
      · exact .inr ⟨i, by simp [hi], h⟩
    · rintro (h | ⟨i, hi, h⟩)
      · exact .inl (.inl h)
      · rcases List.mem_cons.1 hi with rfl | hi
        · exact .inl (.inr h)
        · exact .inr ⟨i, hi, h⟩
theorem turnS_mem (next : List (List Int)) (hin : ∀ a, ∀ b ∈ rd_L3 next a, 0 ≤ b ∧ b < (next.length : Int)) {a b : Int} (ha : 0 ≤ a) (ha' : a < (next.length : Int)) (hb : 0 ≤ b) : a ∈ rd_L3 (turnS next) b ↔ b ∈ rd_L3 next a := by
  unfold turnS
  rw [turnAll_mem next next.length hin hb a _ _ (by simp)]
  constructor
  · rintro (h | ⟨i, hi, rfl, h⟩)
    · exfalso
      have h : a ∈ (List.replicate next.length ([] : List Int)).getD b.toNat [] := h
      rw [List.getD_eq_getElem?_getD, List.getElem?_replicate] at h
      split at h <;> simp at h
    · exact h
  · intro h
    exact .inr ⟨a.toNat, by simp; omega, by omega, by rw [Int.toNat_of_nonneg ha]; exact h⟩
theorem turnS_in (next : List (List Int)) (hin : ∀ a, ∀ b ∈ rd_L3 next a, 0 ≤ b ∧ b < (next.length : Int)) {b : Int} (hb : 0 ≤ b) {x : Int} (h : x ∈ rd_L3 (turnS next) b) : 0 ≤ x ∧ x < (next.length : Int) := by
  unfold turnS at h
  rw [turnAll_mem next next.length hin hb x _ _ (by simp)] at h
  rcases h with h | ⟨i, hi, rfl, h⟩
  · exfalso
    have h : x ∈ (List.replicate next.length ([] : List Int)).getD b.toNat [] := h
    rw [List.getD_eq_getElem?_getD, List.getElem?_replicate] at h
    split at h <;> simp at h
  · rw [List.mem_range] at hi; omega
def Leads (next : List (List Int)) (x y : Int) : Prop := Reach next (fun z => z = x) y
theorem Leads.refl (next : List (List Int)) (x : Int) : Leads next x x := .start x rfl
theorem Leads.trans {next : List (List Int)} {x y z : Int} (h : Leads next x y) (k : Leads next y z) : Leads next x z := by
  induction k with
  | start z e => exact e ▸ h
  | step a b _ hb ih => exact .step a b ih hb
theorem Leads.head {next : List (List Int)} {x y z : Int} (h : y ∈ rd_L3 next x) (k : Leads next y z) : Leads next x z := Leads.trans (.step x y (.start x rfl) h) k
theorem leads_turn (next : List (List Int)) (hin : ∀ a, ∀ b ∈ rd_L3 next a, 0 ≤ b ∧ b < (next.length : Int)) {x y : Int} (hx : 0 ≤ x) (hx' : x < (next.length : Int)) (hy : 0 ≤ y) (hy' : y < (next.length : Int)) : Leads (turnS next) x y ↔ Leads next y x := by
  constructor
  · intro h
    clear hy hy'
    have key : (0 ≤ y ∧ y < (next.length : Int)) ∧ Leads next y x := by
      induction h with
      | start z e => subst e; exact ⟨⟨hx, hx'⟩, .refl _ _⟩
      | step a b _ hb ih =>
        obtain ⟨hi, hl⟩ := ih
        have hbb := turnS_in next hin hi.1 hb
        exact ⟨hbb, Leads.head ((turnS_mem next hin hbb.1 hbb.2 hi.1).1 hb) hl⟩
    exact key.2
  · intro h
    clear hx hx'
    induction h with
    | start z e => exact e ▸ .refl _ _
    | step a b ha hb ih =>
      obtain ⟨a0, a1⟩ := reach_in next (fun z => z = y) next.length hin (fun z e => by subst e; exact ⟨hy, hy'⟩) ha
      obtain ⟨b0, b1⟩ := hin a b hb
      exact Leads.head ((turnS_mem next hin a0 a1 b0).2 hb) ih
end Go.Proofs.Ytkakmghadhafjaa.Pure
