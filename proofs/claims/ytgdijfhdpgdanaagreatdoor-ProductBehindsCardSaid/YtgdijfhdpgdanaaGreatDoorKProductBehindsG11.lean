import Derived.Test.YtgdijfhdpgdanaaGreatDoorKProductBehindsG9
namespace Go.Proofs.YtgdijfhdpgdanaaGreatDoor
open Go.RowKit Go.Proofs.YtgdijfhdpgdanaaGreatDoor.B Go.Proofs.YtgdijfhdpgdanaaGreatDoor.Base Go.Proofs.YtgdijfhdpgdanaaGreatDoorW.PrintWords Go.Proofs.YtgdijfhdpgdanaaGreatDoorW.PrintLast Go.Proofs.YtgdijfhdpgdanaaGreatDoorW.PrintMore
set_option linter.unusedVariables false
abbrev POp := S96
def partsS (a : Int) : Int × Int := if a < 1 ∨ 18 < a then (0, 13) else (polishTab.getD a.toNat 0, 0)
theorem partsS_bd {a : Int} (h : (partsS a).2 = 0) : 0 ≤ (partsS a).1 ∧ (partsS a).1 ≤ 2 := by
 unfold partsS at h ⊢
 by_cases c : a < 1 ∨ 18 < a
 ·rw [if_pos c] at h; cases h
 ·rw [if_neg c]
  have : a = 1 ∨ a = 2 ∨ a = 3 ∨ a = 4 ∨ a = 5 ∨ a = 6 ∨ a = 7 ∨ a = 8 ∨ a = 9 ∨ a = 10 ∨ a = 11 ∨ a = 12 ∨ a = 13 ∨ a = 14 ∨ a = 15 ∨ a = 16 ∨ a = 17 ∨ a = 18 := by omega
  rcases this with rfl | rfl | rfl | rfl | rfl | rfl | rfl | rfl | rfl | rfl | rfl | rfl | rfl | rfl | rfl | rfl | rfl | rfl <;> decide
theorem partsS_err (a : Int) : (partsS a).2 = 0 ∨ (partsS a).2 = 13 := by unfold partsS; split <;> simp
def scan : List POp → Nat → Except Int (List POp)
 | l, 0 => .ok l
 | [], _ + 1 => .error 4
 | o :: l, w + 1 => if (partsS o.f0).2 = 0 then scan l (w + (partsS o.f0).1.toNat) else .error (partsS o.f0).2
theorem scan_zero (l : List POp) : scan l 0 = .ok l := by cases l <;> rfl
theorem scan_nil (w : Nat) : scan [] (w + 1) = .error 4 := rfl
theorem scan_cons (o : POp) (l : List POp) (w : Nat) : scan (o :: l) (w + 1) = if (partsS o.f0).2 = 0 then scan l (w + (partsS o.f0).1.toNat) else .error (partsS o.f0).2 := rfl
theorem scan_add : ∀ (l : List POp) (a b : Nat), scan l (a + b) = (match scan l a with | .ok l' => scan l' b | .error e => .error e)
 | l, 0, b => by rw [scan_zero, Nat.zero_add]
 | [], a + 1, b => by rw [show a + 1 + b = (a + b) + 1 by omega, scan_nil, scan_nil]
 | o :: l, a + 1, b => by
  rw [show a + 1 + b = (a + b) + 1 by omega, scan_cons, scan_cons]
  split
  ·rw [show a + b + (partsS o.f0).1.toNat = (a + (partsS o.f0).1.toNat) + b by omega]
   exact scan_add l _ b
  ·rfl
theorem scan_suffix : ∀ (l : List POp) (w : Nat) (r : List POp), scan l w = .ok r → ∃ k, k ≤ l.length ∧ r = l.drop k ∧ w ≤ k
 | l, 0, r, h => by rw [scan_zero] at h; cases h; exact ⟨0, by omega, rfl, by omega⟩
 | [], w + 1, r, h => by cases h
 | o :: l, w + 1, r, h => by
  rw [scan_cons] at h
  split at h
  ·rename_i hp
   obtain ⟨k, h1, h2, h3⟩ := scan_suffix l _ r h
   exact ⟨k + 1, by simp; omega, by simpa using h2, by omega⟩
  ·cases h
def endAt (l : List POp) (i : Nat) : Int := match scan (l.drop i) 1 with | .ok r => (l.length : Int) - r.length | .error _ => 0
def endsS (l : List POp) : List Int × Int :=
 if l.length > 60 then ([], 1) else match scan l 1 with
  | .error e => ([], e)
  | .ok r => if r = [] then ((List.range l.length).map (endAt l), 0) else ([], 3)
theorem scan_err : ∀ (l : List POp) (w : Nat) (e : Int), scan l w = .error e → e = 4 ∨ e = 13
 | l, 0, e, h => by rw [scan_zero] at h; cases h
 | [], w + 1, e, h => by cases h; exact .inl rfl
 | o :: l, w + 1, e, h => by
  rw [scan_cons] at h
  split at h
  ·exact scan_err l _ e h
  ·cases h
   rcases partsS_err o.f0 with h | h
   ·contradiction
   ·exact .inr h
def one (l : List POp) : Prop := scan l 1 = .ok []
def arIs (o : POp) (n : Nat) : Prop := partsS o.f0 = ((n : Int), 0)
theorem scan_append : ∀ (l : List POp) (w : Nat) (r s : List POp), scan l w = .ok r → scan (l ++ s) w = .ok (r ++ s)
 | l, 0, r, s, h => by rw [scan_zero] at h ⊢; cases h; rfl
 | [], w + 1, r, s, h => by cases h
 | o :: l, w + 1, r, s, h => by
  rw [List.cons_append, scan_cons]
  rw [scan_cons] at h
  split at h
  ·rename_i hp
   rw [if_pos hp]
   exact scan_append l _ r s h
  ·cases h
theorem scan_take : ∀ (l : List POp) (w k : Nat), k ≤ l.length → scan l w = .ok (l.drop k) → (∃ j, k = j) → scan (l.take k) w = .ok []
 | l, 0, k, hk, h, _ => by
  rw [scan_zero] at h
  have := congrArg List.length (Except.ok.inj h)
  rw [List.length_drop] at this
  obtain h0 | h0 : k = 0 ∨ l.length = 0 := by omega
  ·subst h0; rw [List.take_zero]; exact scan_zero _
  ·rw [List.eq_nil_of_length_eq_zero h0, List.take_nil]; exact scan_zero _
 | [], w + 1, k, hk, h, _ => by cases h
 | o :: l, w + 1, 0, hk, h, _ => by
  obtain ⟨j, h1, h2, h3⟩ := scan_suffix _ _ _ h
  have := congrArg List.length h2
  simp at this h1
  omega
 | o :: l, w + 1, k + 1, hk, h, _ => by
  rw [scan_cons] at h
  rw [List.take_succ_cons, scan_cons]
  split at h
  ·rename_i hp
   rw [if_pos hp]
   exact scan_take l _ k (by simpa using hk) (by simpa using h) ⟨k, rfl⟩
  ·cases h
theorem scan_split {l : List POp} {n : Nat} {r : List POp} (h : scan l (n + 1) = .ok r) : ∃ p q, l = p ++ q ∧ one p ∧ scan q n = .ok r ∧ p ≠ [] := by
 rw [show n + 1 = 1 + n by omega, scan_add] at h
 split at h
 ·rename_i l' h1
  obtain ⟨k, h2, h3, h4⟩ := scan_suffix _ _ _ h1
  subst h3
  refine ⟨l.take k, l.drop k, (List.take_append_drop k l).symm, scan_take l 1 k h2 h1 ⟨k, rfl⟩, h, fun e => ?_⟩
  have := congrArg List.length e
  rw [List.length_take, List.length_nil] at this
  omega
 ·cases h
theorem one_ne {l : List POp} (h : one l) : l ≠ [] := by rintro rfl; cases h
theorem one_pos {l : List POp} (h : one l) : 0 < l.length := List.length_pos_iff.2 (one_ne h)
theorem partsS_cases (a : Int) (h : (partsS a).2 = 0) : partsS a = (0, 0) ∨ partsS a = (1, 0) ∨ partsS a = (2, 0) := by
 obtain ⟨h0, h1⟩ := partsS_bd h
 have : (partsS a).1 = 0 ∨ (partsS a).1 = 1 ∨ (partsS a).1 = 2 := by omega
 rcases this with e | e | e
 ·exact .inl (Prod.ext e h)
 ·exact .inr (.inl (Prod.ext e h))
 ·exact .inr (.inr (Prod.ext e h))
theorem one_cases {l : List POp} (h : one l) : (∃ o, l = [o] ∧ arIs o 0) ∨ (∃ o p, l = o :: p ∧ arIs o 1 ∧ one p) ∨ (∃ o p q, l = o :: (p ++ q) ∧ arIs o 2 ∧ one p ∧ one q) := by
 cases l with
 | nil => cases h
 | cons o l =>
  unfold one at h
  rw [scan_cons] at h
  split at h
  ·rename_i hp
   rcases partsS_cases o.f0 hp with e | e | e
   ·rw [e] at h
    rw [show (0 + ((0 : Int), (0 : Int)).1.toNat) = 0 from rfl, scan_zero] at h
    cases h
    exact .inl ⟨o, rfl, e⟩
   ·rw [e] at h
    exact .inr (.inl ⟨o, l, rfl, e, h⟩)
   ·rw [e] at h
    obtain ⟨p, q, rfl, h1, h2, _⟩ := scan_split (n := 1) h
    exact .inr (.inr ⟨o, p, q, rfl, e, h1, h2⟩)
  ·cases h
theorem one_leaf {o : POp} (h : arIs o 0) : one [o] := by
 unfold one
 rw [scan_cons, h]
 rfl
theorem one_un {o : POp} {p : List POp} (h : arIs o 1) (hp : one p) : one (o :: p) := by
 unfold one
 rw [scan_cons, h]
 exact hp
theorem one_bin {o : POp} {p q : List POp} (h : arIs o 2) (hp : one p) (hq : one q) : one (o :: (p ++ q)) := by
 unfold one
 rw [scan_cons, h, if_pos rfl]
 show scan (p ++ q) 2 = _
 rw [show (2 : Nat) = 1 + 1 from rfl, scan_add, scan_append p 1 [] q hp]
 exact hq
theorem one_ind {P : List POp → Prop} (h0 : ∀ o, arIs o 0 → P [o]) (h1 : ∀ o p, arIs o 1 → one p → P p → P (o :: p)) (h2 : ∀ o p q, arIs o 2 → one p → one q → P p → P q → P (o :: (p ++ q))) : ∀ l, one l → P l := by
 have : ∀ n (l : List POp), l.length ≤ n → one l → P l := by
  intro n
  induction n with
  | zero => intro l hl h; exact absurd (one_pos h) (by omega)
  | succ n ih =>
   intro l hl h
   rcases one_cases h with ⟨o, rfl, a⟩ | ⟨o, p, rfl, a, hp⟩ | ⟨o, p, q, rfl, a, hp, hq⟩
   ·exact h0 o a
   ·exact h1 o p a hp (ih p (by simpa using hl) hp)
   ·have := one_pos hp
    have := one_pos hq
    simp at hl
    exact h2 o p q a hp hq (ih p (by omega) hp) (ih q (by omega) hq)
 exact fun l h => this l.length l (Nat.le_refl _) h
theorem one_places : ∀ l, one l → ∀ i, i < l.length → ∃ r, scan (l.drop i) 1 = .ok r := by
 refine one_ind ?_ ?_ ?_
 ·intro o a i hi
  obtain rfl : i = 0 := by simpa using hi
  exact ⟨[], one_leaf a⟩
 ·intro o p a hp ih i hi
  cases i with
  | zero => exact ⟨[], one_un a hp⟩
  | succ i => exact ih i (by simpa using hi)
 ·intro o p q a hp hq ihp ihq i hi
  cases i with
  | zero => exact ⟨[], one_bin a hp hq⟩
  | succ i =>
   rw [List.drop_succ_cons]
   by_cases c : i < p.length
   ·obtain ⟨r, hr⟩ := ihp i c
    exact ⟨r ++ q, by rw [List.drop_append_of_le_length (by omega)]; exact scan_append _ _ _ q hr⟩
   ·simp at hi
    obtain ⟨r, hr⟩ := ihq (i - p.length) (by omega)
    exact ⟨r, by rw [List.drop_append, List.drop_of_length_le (by omega), List.nil_append]; exact hr⟩
theorem endAt_bd {l : List POp} (h : one l) (i : Nat) (hi : i < l.length) : (i : Int) < endAt l i ∧ endAt l i ≤ (l.length : Int) := by
 obtain ⟨r, hr⟩ := one_places l h i hi
 obtain ⟨k, h1, h2, h3⟩ := scan_suffix _ _ _ hr
 unfold endAt
 rw [hr]
 have := congrArg List.length h2
 rw [List.length_drop, List.length_drop] at this
 rw [List.length_drop] at h1
 simp only
 omega
end Go.Proofs.YtgdijfhdpgdanaaGreatDoor
