import Derived.Test.YtkcghbfmigdomaaKSccLassosG10
namespace Go.Proofs.Ytkcghbfmigdomaa.Pure
open Go.RowKit Go.Proofs.Ytkcghbfmigdomaa.Q Go.Proofs.Ytkcghbfmigdomaa.Base Go.Proofs.YtkcghbfmigdomaaW.PrintWords Go.Proofs.YtkcghbfmigdomaaW.PrintLast Go.Proofs.YtkcghbfmigdomaaW.PrintMore
set_option linter.unusedVariables false
structure Srch where
 order : List Int
 low : List Int
 part : List Int
 opn : List Int
 calls : List (Int × Int)
 met : Int
def enterS (s : Srch) (i : Int) : Srch := { s with met := s.met + 1, order := s.order.set i.toNat (s.met + 1), low := s.low.set i.toNat (s.met + 1), opn := s.opn ++ [i], calls := s.calls ++ [(i, 0)] }
def lowUp (low : List Int) (calls : List (Int × Int)) (i : Int) : List Int := match calls.getLast? with
 | none => low
 | some (up, _) => low.set up.toNat (min (rd low up) (rd low i))
def segS (opn : List Int) (i : Int) : List Int := i :: (opn.reverse.takeWhile (fun k => decide (k ≠ i))).reverse
def leaveS (s : Srch) (i : Int) : Srch :=
 let low := lowUp s.low s.calls.dropLast i
 if rd low i = rd s.order i then
  let seg := segS s.opn i
  { s with calls := s.calls.dropLast, low := low, part := seg.foldl (fun p k => p.set k.toNat (seg.foldl min i)) s.part, opn := s.opn.take (s.opn.length - seg.length) }
 else { s with calls := s.calls.dropLast, low := low }
def goOnS (next : List (List Int)) (s : Srch) : Srch := match s.calls.getLast? with
 | none => s
 | some (i, j) =>
  if j = ((zAE next i).length : Int) then leaveS s i
  else
   let k := rd (zAE next i) j
   let s := { s with calls := s.calls.dropLast ++ [(i, j + 1)] }
   if rd s.order k = 0 then enterS s k
   else if rd s.part k < 0 then { s with low := s.low.set i.toNat (min (rd s.low i) (rd s.order k)) }
   else s
def safeS (next : List (List Int)) (n : Nat) (s : Srch) : Bool := decide (s.order.length = n ∧ s.low.length = n ∧ s.part.length = n ∧ 0 ≤ s.met ∧ s.met ≤ (n : Int) ∧ s.opn.length ≤ n ∧ s.calls.length ≤ n) && s.opn.all (fun x => decide (0 ≤ x ∧ x < (n : Int))) && s.calls.all (fun c => decide (0 ≤ c.1 ∧ c.1 < (n : Int) ∧ c.1 ∈ s.opn ∧ 0 ≤ c.2 ∧ c.2 ≤ ((zAE next c.1).length : Int)))
theorem take_until (l : List Int) (a : Int) (ha : a ∈ l) : l = l.take (l.length - (segS l a).length) ++ segS l a ∧ (segS l a).length ≤ l.length := by
 unfold segS
 have hr : ∃ b, l.reverse.dropWhile (fun k => decide (k ≠ a)) = a :: b := by
  have hm : a ∈ l.reverse := List.mem_reverse.2 ha
  generalize l.reverse = m at hm
  induction m with
  | nil => cases hm
  | cons x xs ih =>
   by_cases e : x = a
   ·subst e
    exact ⟨xs, by simp [List.dropWhile]⟩
   ·have e' : decide (x ≠ a) = true := decide_eq_true e
    rw [List.dropWhile_cons, if_pos e']
    exact ih ((List.mem_cons.1 hm).resolve_left (fun h => e h.symm))
 obtain ⟨b, hb⟩ := hr
 have h1 := List.takeWhile_append_dropWhile (p := fun k => decide (k ≠ a)) (l := l.reverse)
 rw [hb] at h1
 have h2 : l = b.reverse ++ (a :: (l.reverse.takeWhile (fun k => decide (k ≠ a))).reverse) := by
  have := congrArg List.reverse h1
  rw [List.reverse_append, List.reverse_cons, List.reverse_reverse, List.append_assoc, List.singleton_append] at this
  exact this.symm
 generalize (a :: (l.reverse.takeWhile (fun k => decide (k ≠ a))).reverse) = seg at h2
 subst h2
 simp
theorem seg_facts (l : List Int) (a : Int) (ha : a ∈ l) : ∃ q, q + (segS l a).length = l.length ∧ q < l.length ∧ rd l (q : Int) = a ∧ (∀ i : Nat, q < i → i < l.length → rd l (i : Int) ≠ a) ∧ l.drop q = segS l a := by
 obtain ⟨h1, h2⟩ := take_until l a ha
 have h3 : (segS l a).length = (l.reverse.takeWhile (fun k => decide (k ≠ a))).reverse.length + 1 := rfl
 obtain ⟨q, hq⟩ : ∃ q, q = l.length - (segS l a).length := ⟨_, rfl⟩
 rw [← hq] at h1
 have hql : (l.take q).length = q := by rw [List.length_take]; omega
 have hd : l.drop q = segS l a := by
  have : l.drop q = (l.take q ++ segS l a).drop q := by rw [← h1]
  rw [this, List.drop_left' hql]
 have hget : ∀ i : Nat, q ≤ i → (hi : i < l.length) → rd l (i : Int) = (segS l a).getD (i - q) 0 := by
  intro i hqi hi
  rw [rd_get l i hi, ← hd, List.getD_eq_getElem?_getD, List.getElem?_drop, show q + (i - q) = i by omega, List.getElem?_eq_getElem hi]
  rfl
 refine ⟨q, by omega, by omega, ?_, ?_, hd⟩
 ·rw [hget q (Nat.le_refl _) (by omega), Nat.sub_self]
  rfl
 ·intro i hqi hi e
  rw [hget i (by omega) hi] at e
  obtain ⟨d, hdd⟩ : ∃ d, i - q = d + 1 := ⟨i - q - 1, by omega⟩
  rw [hdd] at e
  have e2 : (segS l a).getD (d + 1) 0 = (l.reverse.takeWhile (fun k => decide (k ≠ a))).reverse.getD d 0 := rfl
  rw [e2, List.getD_eq_getElem?_getD, List.getElem?_eq_getElem (by omega)] at e
  have hm : a ∈ (l.reverse.takeWhile (fun k => decide (k ≠ a))) := by
   rw [← List.mem_reverse]
   exact List.mem_of_getElem (h := by omega) (i := d) e
  have := List.all_eq_true.1 (List.all_takeWhile (p := fun k => decide (k ≠ a)) (l := l.reverse)) a hm
  simp at this
end Go.Proofs.Ytkcghbfmigdomaa.Pure
