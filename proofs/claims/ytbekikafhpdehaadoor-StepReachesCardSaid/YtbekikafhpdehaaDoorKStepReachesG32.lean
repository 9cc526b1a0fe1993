import Derived.Test.YtbekikafhpdehaaDoorKStepReachesG31
import Derived.Test.YtbekikafhpdehaaDoorKStepReachesG7
namespace Go.Proofs.YtbekikafhpdehaaDoor.Pure
set_option linter.unusedVariables false
set_option linter.unusedSimpArgs false
inductive ReachM (nx : Int → List Int) (f : Int) : Int → Prop
 | start : ReachM nx f f
 | step (a b : Int) : ReachM nx f a → b ∈ nx a → ReachM nx f b
def addNew (l : List Int) : List Int → List Int
 | [] => l
 | b :: r => addNew (if l.any (· == b) = true then l else l ++ [b]) r
theorem any_mem (l : List Int) (b : Int) : l.any (· == b) = true ↔ b ∈ l := by
 rw [List.any_eq_true]
 exact ⟨fun ⟨x, hx, e⟩ => by rw [← eq_of_beq e]; exact hx, fun h => ⟨b, h, by simp⟩⟩
theorem addNew_spec : ∀ (r l : List Int), (∃ s, addNew l r = l ++ s) ∧ (∀ x, x ∈ addNew l r ↔ x ∈ l ∨ x ∈ r) ∧ (l.Nodup → (addNew l r).Nodup)
 | [], l => ⟨⟨[], by simp [addNew]⟩, fun x => by simp [addNew], fun h => h⟩
 | b :: r, l => by
  rw [addNew]
  by_cases hb : l.any (· == b) = true
  ·rw [if_pos hb]
   obtain ⟨h1, h2, h3⟩ := addNew_spec r l
   refine ⟨h1, fun x => ?_, h3⟩
   rw [h2, List.mem_cons]
   constructor
   ·rintro (h | h)
    ·exact .inl h
    ·exact .inr (.inr h)
   ·rintro (h | h | h)
    ·exact .inl h
    ·exact .inl (h ▸ (any_mem l b).1 hb)
    ·exact .inr h
  ·rw [if_neg hb]
   obtain ⟨⟨s, h1⟩, h2, h3⟩ := addNew_spec r (l ++ [b])
   refine ⟨⟨b :: s, by rw [h1]; simp⟩, fun x => ?_, fun hn => h3 ?_⟩
   ·rw [h2]
    simp only [List.mem_append, List.mem_cons, List.not_mem_nil, or_false]
    constructor
    ·rintro ((h | h) | h)
     ·exact .inl h
     ·exact .inr (.inl h)
     ·exact .inr (.inr h)
    ·rintro (h | h | h)
     ·exact .inl (.inl h)
     ·exact .inl (.inr h)
     ·exact .inr h
   ·rw [List.nodup_append]
    exact ⟨hn, by simp, fun x hx y hy e => hb ((any_mem l b).2 (by rw [List.mem_singleton] at hy; rw [← hy, ← e]; exact hx))⟩
def walkR (nx : Int → List Int) : Nat → Nat → List Int → List Int
 | 0, _, l => l
 | k + 1, i, l => if i < l.length then walkR nx k (i + 1) (addNew l (nx (l.getD i 0))) else l
structure WalkOK (nx : Int → List Int) (f : Int) (n i : Nat) (l : List Int) : Prop where
 nd : l.Nodup
 snd : ∀ x ∈ l, ReachM nx f x ∧ 0 ≤ x ∧ x < (n : Int)
 one : f ∈ l
 cl : ∀ j, j < i → j < l.length → ∀ b ∈ nx (l.getD j 0), b ∈ l
theorem nodup_range_len : ∀ (n : Nat) (l : List Int), l.Nodup → (∀ x ∈ l, 0 ≤ x ∧ x < (n : Int)) → l.length ≤ n := by
 intro n l hn hl
 have hs : l.Subset ((List.range n).map fun (i : Nat) => (i : Int)) := fun x hx => by
  have := hl x hx
  exact List.mem_map.2 ⟨x.toNat, List.mem_range.2 (by omega), by omega⟩
 have := hn.length_le_of_subset hs
 simpa using this
theorem WalkOK.step {nx : Int → List Int} {f : Int} {n i : Nat} {l : List Int} (hin : ∀ a, 0 ≤ a → a < (n : Int) → ∀ b ∈ nx a, 0 ≤ b ∧ b < (n : Int)) (h : WalkOK nx f n i l) (hi : i < l.length) : WalkOK nx f n (i + 1) (addNew l (nx (l.getD i 0))) := by
 obtain ⟨⟨s, h1⟩, h2, h3⟩ := addNew_spec (nx (l.getD i 0)) l
 have hm : l.getD i 0 ∈ l := by rw [List.getD_eq_getElem?_getD, List.getElem?_eq_getElem hi]; exact List.getElem_mem hi
 obtain ⟨r1, r2, r3⟩ := h.snd _ hm
 have hget : ∀ j, j < l.length → (addNew l (nx (l.getD i 0))).getD j 0 = l.getD j 0 := fun j hj => by
  rw [h1, List.getD_eq_getElem?_getD, List.getD_eq_getElem?_getD, List.getElem?_append_left hj]
 refine ⟨h3 h.nd, fun x hx => ?_, (h2 f).2 (.inl h.one), fun j hj hjl b hb => ?_⟩
 ·rcases (h2 x).1 hx with hx | hx
  ·exact h.snd x hx
  ·exact ⟨.step _ x r1 hx, hin _ r2 r3 x hx⟩
 ·by_cases e : j = i
  ·subst e
   rw [hget j hi] at hb
   exact (h2 b).2 (.inr hb)
  ·rw [hget j (by omega)] at hb
   exact (h2 b).2 (.inl (h.cl j (by omega) (by omega) b hb))
theorem walkR_ok {nx : Int → List Int} {f : Int} {n : Nat} (hin : ∀ a, 0 ≤ a → a < (n : Int) → ∀ b ∈ nx a, 0 ≤ b ∧ b < (n : Int)) : ∀ (k i : Nat) (l : List Int), n ≤ k + i → WalkOK nx f n i l → ∃ j, (walkR nx k i l).length ≤ j ∧ WalkOK nx f n j (walkR nx k i l)
 | 0, i, l, hk, h => ⟨i, Nat.le_trans (nodup_range_len n l h.nd (fun x hx => (h.snd x hx).2)) (by omega), h⟩
 | k + 1, i, l, hk, h => by
  rw [walkR]
  by_cases hi : i < l.length
  ·rw [if_pos hi]
   exact walkR_ok hin k (i + 1) _ (by omega) (h.step hin hi)
  ·rw [if_neg hi]
   exact ⟨i, by omega, h⟩
theorem walkR_mem {nx : Int → List Int} {f : Int} {n : Nat} (hin : ∀ a, 0 ≤ a → a < (n : Int) → ∀ b ∈ nx a, 0 ≤ b ∧ b < (n : Int)) (h0 : 0 ≤ f) (h1 : f < (n : Int)) : (walkR nx n 0 [f]).Nodup ∧ (∀ x ∈ walkR nx n 0 [f], 0 ≤ x ∧ x < (n : Int)) ∧ ∀ x, x ∈ walkR nx n 0 [f] ↔ ReachM nx f x := by
 obtain ⟨j, hj, h⟩ := walkR_ok hin n 0 [f] (by omega) ⟨by simp, fun x hx => by rw [List.mem_singleton.1 hx]; exact ⟨.start, h0, h1⟩, by simp, fun j hj => absurd hj (by omega)⟩
 refine ⟨h.nd, fun x hx => (h.snd x hx).2, fun x => ⟨fun hx => (h.snd x hx).1, fun hx => ?_⟩⟩
 induction hx with
 | start => exact h.one
 | step a b _ hb ih =>
  obtain ⟨q, hq, rfl⟩ := List.mem_iff_getElem.1 ih
  exact h.cl q (by omega) hq b (by rw [List.getD_eq_getElem?_getD, List.getElem?_eq_getElem hq]; exact hb)
theorem sort_nodup (n : Nat) (l : List Int) (hn : l.Nodup) (hl : ∀ x ∈ l, 0 ≤ x ∧ x < (n : Int)) : (l.mergeSort fun x y => decide (x ≤ y)) = upTo n l := by
 have hs : (l.mergeSort fun x y => decide (x ≤ y)).Pairwise (· ≤ ·) := by
  have h := List.pairwise_mergeSort (le := fun x y : Int => decide (x ≤ y)) (fun a b c h1 h2 => by simp only [decide_eq_true_eq] at *; omega) (fun a b => by simp only [Bool.or_eq_true, decide_eq_true_eq]; omega) l
  exact h.imp fun h => by simpa using h
 have hd : (l.mergeSort fun x y => decide (x ≤ y)).Nodup := (List.mergeSort_perm l _).symm.nodup hn
 refine strict_ext ?_ (upTo_strict n l) fun x => ?_
 ·exact (hs.and hd).imp fun h => by obtain ⟨h1, h2⟩ := h; omega
 ·rw [upTo_mem, List.mem_mergeSort]
  exact ⟨fun h => ⟨hl x h, h⟩, fun h => h.2⟩
end Go.Proofs.YtbekikafhpdehaaDoor.Pure
namespace Go.Proofs.YtbekikafhpdehaaDoor.Base
open Go.RowKit Go.Proofs.YtbekikafhpdehaaDoorW.PrintWords Go.Proofs.YtbekikafhpdehaaDoorW.PrintLast Go.Proofs.YtbekikafhpdehaaDoorW.PrintMore
theorem ev_succ {α : Type} {g : Nat → Option α} {r : α} (h : Ev (fun k => g (k + 1)) r) : Ev g r := Ev.step (f := fun k => g (k + 1)) (fun _ => rfl) h
end Go.Proofs.YtbekikafhpdehaaDoor.Base
