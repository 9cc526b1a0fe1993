-- Cut by a program of this session (wip/prune.py) from a longer text: declarations that the law does not need are left out.
import Derived.Test.YtkpddelnkjjflaaDoorKStepLettersMx0
import Derived.Test.YtkpddelnkjjflaaDoorKStepLettersLaid
import Derived.Test.YtkpddelnkjjflaaDoorKStepLettersBase
namespace Go.Proofs.YtkpddelnkjjflaaDoor
open Go.RowKit Go.Proofs.YtkpddelnkjjflaaDoor.M Go.Proofs.YtkpddelnkjjflaaDoor.Base Go.Proofs.YtkpddelnkjjflaaDoorW.PrintWords Go.Proofs.YtkpddelnkjjflaaDoorW.PrintLast Go.Proofs.YtkpddelnkjjflaaDoorW.PrintMore
set_option linter.unusedVariables false
abbrev POp := S94
def partsS (a : Int) : Int × Int := if a < 1 ∨ 18 < a then (0, 13) else (polishTab.getD a.toNat 0, 0)
theorem partsS_bd {a : Int} (h : (partsS a).2 = 0) : 0 ≤ (partsS a).1 ∧ (partsS a).1 ≤ 2 := by
 unfold partsS at h ⊢
 by_cases c : a < 1 ∨ 18 < a
 ·rw [if_pos c] at h; cases h
 ·rw [if_neg c]
  have : a = 1 ∨ a = 2 ∨ a = 3 ∨ a = 4 ∨ a = 5 ∨ a = 6 ∨ a = 7 ∨ a = 8 ∨ a = 9 ∨ a = 10 ∨ a = 11 ∨ a = 12 ∨ a = 13 ∨ a = 14 ∨ a = 15 ∨ a = 16 ∨ a = 17 ∨ a = 18 := by omega
  rcases this with rfl | rfl | rfl | rfl | rfl | rfl | rfl | rfl | rfl | rfl | rfl | rfl | rfl | rfl | rfl | rfl | rfl | rfl <;> decide
theorem partsS_err (a : Int) : (partsS a).2 = 0 ∨ (partsS a).2 = 13 := by unfold partsS; split <;> simp
def scan : List POp → Nat → Except Int (List POp)
 | l, 0 => .ok l
 | [], _ + 1 => .error 4
 | o :: l, w + 1 => if (partsS o.f0).2 = 0 then scan l (w + (partsS o.f0).1.toNat) else .error (partsS o.f0).2
theorem scan_zero (l : List POp) : scan l 0 = .ok l := by cases l <;> rfl
theorem scan_nil (w : Nat) : scan [] (w + 1) = .error 4 := rfl
theorem scan_cons (o : POp) (l : List POp) (w : Nat) : scan (o :: l) (w + 1) = if (partsS o.f0).2 = 0 then scan l (w + (partsS o.f0).1.toNat) else .error (partsS o.f0).2 := rfl
theorem scan_add : ∀ (l : List POp) (a b : Nat), scan l (a + b) = (match scan l a with | .ok l' => scan l' b | .error e => .error e)
 | l, 0, b => by rw [scan_zero, Nat.zero_add]
 | [], a + 1, b => by rw [show a + 1 + b = (a + b) + 1 by omega, scan_nil, scan_nil]
 | o :: l, a + 1, b => by
  rw [show a + 1 + b = (a + b) + 1 by omega, scan_cons, scan_cons]
  split
  ·rw [show a + b + (partsS o.f0).1.toNat = (a + (partsS o.f0).1.toNat) + b by omega]
   exact scan_add l _ b
  ·rfl
theorem scan_suffix : ∀ (l : List POp) (w : Nat) (r : List POp), scan l w = .ok r → ∃ k, k ≤ l.length ∧ r = l.drop k ∧ w ≤ k
 | l, 0, r, h => by rw [scan_zero] at h; cases h; exact ⟨0, by omega, rfl, by omega⟩
 | [], w + 1, r, h => by cases h
 | o :: l, w + 1, r, h => by
  rw [scan_cons] at h
  split at h
  ·rename_i hp
   obtain ⟨k, h1, h2, h3⟩ := scan_suffix l _ r h
   exact ⟨k + 1, by simp; omega, by simpa using h2, by omega⟩
  ·cases h
def endAt (l : List POp) (i : Nat) : Int := match scan (l.drop i) 1 with | .ok r => (l.length : Int) - r.length | .error _ => 0
def endsS (l : List POp) : List Int × Int :=
 if l.length > 60 then ([], 1) else match scan l 1 with
  | .error e => ([], e)
  | .ok r => if r = [] then ((List.range l.length).map (endAt l), 0) else ([], 3)
theorem scan_err : ∀ (l : List POp) (w : Nat) (e : Int), scan l w = .error e → e = 4 ∨ e = 13
 | l, 0, e, h => by rw [scan_zero] at h; cases h
 | [], w + 1, e, h => by cases h; exact .inl rfl
 | o :: l, w + 1, e, h => by
  rw [scan_cons] at h
  split at h
  ·exact scan_err l _ e h
  ·cases h
   rcases partsS_err o.f0 with h | h
   ·contradiction
   ·exact .inr h
end Go.Proofs.YtkpddelnkjjflaaDoor
