import Derived.Test.YthffpjkkmkjplaaDoorKWordHoldsG7
import Derived.Test.YthffpjkkmkjplaaDoorKWordHoldsG3
-- Cut by a program of this session (wip/prune.py) from a longer text: declarations that the law does not need are left out.
namespace Go.Proofs.YthffpjkkmkjplaaDoor
open Go.RowKit Go.Proofs.YthffpjkkmkjplaaDoor.Q Go.Proofs.YthffpjkkmkjplaaDoor.Base Go.Proofs.YthffpjkkmkjplaaDoorW.PrintWords Go.Proofs.YthffpjkkmkjplaaDoorW.PrintLast Go.Proofs.YthffpjkkmkjplaaDoorW.PrintMore
set_option linter.unusedVariables false
abbrev POp := S65
def partsS (a : Int) : Int × Int := if a < 1 ∨ 18 < a then (0, 13) else (polishTab.getD a.toNat 0, 0)
theorem partsS_bd {a : Int} (h : (partsS a).2 = 0) : 0 ≤ (partsS a).1 ∧ (partsS a).1 ≤ 2 := by
  unfold partsS at h ⊢
  by_cases c : a < 1 ∨ 18 < a
  · rw [if_pos c] at h; cases h
  · rw [if_neg c]
    have : a = 1 ∨ a = 2 ∨ a = 3 ∨ a = 4 ∨ a = 5 ∨ a = 6 ∨ a = 7 ∨ a = 8 ∨ a = 9 ∨ a = 10 ∨ a = 11 ∨ a = 12 ∨ a = 13 ∨ a = 14 ∨ a = 15 ∨ a = 16 ∨ a = 17 ∨ a = 18 := by omega
    rcases this with rfl | rfl | rfl | rfl | rfl | rfl | rfl | rfl | rfl | rfl | rfl | rfl | rfl | rfl | rfl | rfl | rfl | rfl <;> decide
theorem partsS_err (a : Int) : (partsS a).2 = 0 ∨ (partsS a).2 = 13 := by unfold partsS; split <;> simp
def scan : List POp → Nat → Except Int (List POp)
  | l, 0 => .ok l
  | [], _ + 1 => .error 4
  | o :: l, w + 1 => if (partsS o.f0).2 = 0 then scan l (w + (partsS o.f0).1.toNat) else .error (partsS o.f0).2
theorem scan_zero (l : List POp) : scan l 0 = .ok l := by cases l <;> rfl
theorem scan_nil (w : Nat) : scan [] (w + 1) = .error 4 := rfl
theorem scan_cons (o : POp) (l : List POp) (w : Nat) : scan (o :: l) (w + 1) = if (partsS o.f0).2 = 0 then scan l (w + (partsS o.f0).1.toNat) else .error (partsS o.f0).2 := rfl
theorem scan_add : ∀ (l : List POp) (a b : Nat), scan l (a + b) = (match scan l a with | .ok l' => scan l' b | .error e => .error e)
  | l, 0, b => by rw [scan_zero, Nat.zero_add]
  | [], a + 1, b => by rw [show a + 1 + b = (a + b) + 1 by omega, scan_nil, scan_nil]
  | o :: l, a + 1, b => by
    rw [show a + 1 + b = (a + b) + 1 by omega, scan_cons, scan_cons]
    split
    · rw [show a + b + (partsS o.f0).1.toNat = (a + (partsS o.f0).1.toNat) + b by omega]
      exact scan_add l _ b
    · rfl
theorem scan_suffix : ∀ (l : List POp) (w : Nat) (r : List POp), scan l w = .ok r → ∃ k, k ≤ l.length ∧ r = l.drop k ∧ w ≤ k
  | l, 0, r, h => by rw [scan_zero] at h; cases h; exact ⟨0, by omega, rfl, by omega⟩
  | [], w + 1, r, h => by cases h
  | o :: l, w + 1, r, h => by
    rw [scan_cons] at h
    split at h
    · rename_i hp
      obtain ⟨k, h1, h2, h3⟩ := scan_suffix l _ r h
      exact ⟨k + 1, by simp; omega, by simpa using h2, by omega⟩
    · cases h
def endAt (l : List POp) (i : Nat) : Int := match scan (l.drop i) 1 with | .ok r => (l.length : Int) - r.length | .error _ => 0
def endsS (l : List POp) : List Int × Int :=
  if l.length > 60 then ([], 1) else match scan l 1 with
    | .error e => ([], e)
    | .ok r => if r = [] then ((List.range l.length).map (endAt l), 0) else ([], 3)
theorem scan_err : ∀ (l : List POp) (w : Nat) (e : Int), scan l w = .error e → e = 4 ∨ e = 13
  | l, 0, e, h => by rw [scan_zero] at h; cases h
  | [], w + 1, e, h => by cases h; exact .inl rfl
  | o :: l, w + 1, e, h => by
    rw [scan_cons] at h
    split at h
    · exact scan_err l _ e h
    · cases h
      rcases partsS_err o.f0 with h | h
      · contradiction
      · exact .inr h
end Go.Proofs.YthffpjkkmkjplaaDoor
-- Cut by a program of this session (wip/prune.py) from a longer text: declarations that the law does not need are left out.
namespace Go.Proofs.YthffpjkkmkjplaaDoor.Pure
set_option linter.unusedVariables false
set_option linter.unusedSectionVars false
set_option linter.unusedSimpArgs false
def pS (n c m : Nat) : Nat := if h : m < n ∨ c = 0 ∨ n < c then m else pS n c (m - c)
termination_by m
decreasing_by omega
theorem pS_lt {n c m : Nat} (h : m < n) : pS n c m = m := by rw [pS, dif_pos (.inl h)]
theorem pS_ge {n c m : Nat} (h : n ≤ m) (hc : 0 < c) (hn : c ≤ n) : pS n c m = pS n c (m - c) := by rw [pS, dif_neg (by omega)]
theorem pS_in {n c : Nat} (hc : 0 < c) (hn : c ≤ n) : ∀ m, pS n c m < n := by
  intro m
  induction m using Nat.strongRecOn with
  | ind m ih =>
    rcases Nat.lt_or_ge m n with h | h
    · rw [pS_lt h]; exact h
    · rw [pS_ge h hc hn]; exact ih _ (by omega)
def behS (n b i : Nat) : Nat := if i + 1 < n then i + 1 else b
theorem behS_pS {n c : Nat} (hc : 0 < c) (hn : c ≤ n) : ∀ m, behS n (n - c) (pS n c m) = pS n c (m + 1) := by
  intro m
  induction m using Nat.strongRecOn with
  | ind m ih =>
    rcases Nat.lt_or_ge m n with h | h
    · rw [pS_lt h]
      unfold behS
      rcases Nat.lt_or_ge (m + 1) n with h1 | h1
      · rw [if_pos h1, pS_lt h1]
      · rw [if_neg (by omega), pS_ge h1 hc hn, pS_lt (by omega)]
        omega
    · rw [pS_ge h hc hn, ih _ (by omega), pS_ge (show n ≤ m + 1 by omega) hc hn]
      congr 1
      omega
def uA (n c : Nat) (A B : Nat → Bool) : Nat → Nat → Bool
  | 0, m => B (pS n c m)
  | k + 1, m => B (pS n c m) || (A (pS n c m) && uA n c A B k (m + 1))
theorem uA_iff (n c : Nat) (A B : Nat → Bool) : ∀ k m, uA n c A B k m = true ↔ ∃ t, t ≤ k ∧ B (pS n c (m + t)) = true ∧ ∀ s, s < t → A (pS n c (m + s)) = true := by
  intro k
  induction k with
  | zero =>
    intro m
    constructor
    · intro h; exact ⟨0, Nat.le_refl _, h, fun s hs => by omega⟩
    · rintro ⟨t, ht, h, _⟩
      obtain rfl : t = 0 := by omega
      exact h
  | succ k ih =>
    intro m
    rw [uA, Bool.or_eq_true, Bool.and_eq_true, ih]
    constructor
    · rintro (h | ⟨h, t, ht, h1, h2⟩)
      · exact ⟨0, Nat.zero_le _, h, fun s hs => by omega⟩
      · refine ⟨t + 1, by omega, by rw [← h1]; congr 2; omega, fun s hs => ?_⟩
        cases s with
        | zero => exact h
        | succ s => have := h2 s (by omega); rw [← this]; congr 2; omega
    · rintro ⟨t, ht, h1, h2⟩
      cases t with
      | zero => exact .inl h1
      | succ t =>
        refine .inr ⟨h2 0 (by omega), t, by omega, by rw [← h1]; congr 2; omega, fun s hs => ?_⟩
        have := h2 (s + 1) (by omega); rw [← this]; congr 2; omega
theorem uA_more {n c : Nat} (A B : Nat → Bool) (hc : 0 < c) (hn : c ≤ n) (k m : Nat) (hk : n ≤ k) : uA n c A B (k + 1) m = uA n c A B k m := by
  rw [Bool.eq_iff_iff, uA_iff, uA_iff]
  constructor
  · rintro ⟨t, ht, h1, h2⟩
    rcases Nat.lt_or_ge k t with h | h
    · refine ⟨t - c, by omega, ?_, fun s hs => h2 s (by omega)⟩
      rw [pS_ge (by omega) hc hn] at h1
      rw [← h1]; congr 2; omega
    · exact ⟨t, h, h1, h2⟩
  · rintro ⟨t, ht, h1, h2⟩
    exact ⟨t, by omega, h1, h2⟩
theorem uA_per {n c : Nat} (A B : Nat → Bool) (hc : 0 < c) (hn : c ≤ n) (k : Nat) : ∀ m, uA n c A B k (pS n c m) = uA n c A B k m := by
  have hs : ∀ k m, n ≤ m → uA n c A B k (m - c) = uA n c A B k m := by
    intro k
    induction k with
    | zero => intro m h1; show B _ = B _; rw [pS_ge h1 hc hn]
    | succ k ih =>
      intro m h1
      rw [uA, uA, pS_ge h1 hc hn, ← ih (m + 1) (by omega), show m + 1 - c = m - c + 1 by omega]
  intro m
  induction m using Nat.strongRecOn with
  | ind m ih =>
    rcases Nat.lt_or_ge m n with h | h
    · rw [pS_lt h]
    · rw [pS_ge h hc hn, ih _ (by omega), hs k m h]
theorem uA_fix {n c : Nat} (A B : Nat → Bool) (hc : 0 < c) (hn : c ≤ n) (i : Nat) (hi : i < n) : uA n c A B n i = (B i || (A i && uA n c A B n (behS n (n - c) i))) := by
  have h := behS_pS hc hn i
  rw [pS_lt hi] at h
  rw [← uA_more A B hc hn n i (Nat.le_refl _), uA, pS_lt hi, h, uA_per A B hc hn]
theorem uA_least {n c : Nat} (A B : Nat → Bool) (hc : 0 < c) (hn : c ≤ n) (r : Nat → Bool) (hr : ∀ j, j < n → r j = (B j || (A j && r (behS n (n - c) j)))) : ∀ k m, uA n c A B k m = true → r (pS n c m) = true := by
  intro k
  induction k with
  | zero =>
    intro m h
    rw [hr _ (pS_in hc hn m), show B (pS n c m) = true from h, Bool.true_or]
  | succ k ih =>
    intro m h
    rw [uA, Bool.or_eq_true, Bool.and_eq_true] at h
    rw [hr _ (pS_in hc hn m), behS_pS hc hn]
    rcases h with h | ⟨h, h1⟩
    · rw [h, Bool.true_or]
    · rw [h, ih _ h1, Bool.and_true, Bool.or_true]
structure LawOK (n b : Nat) (β : Bool) (law : Nat → Bool → Bool) (R : List Bool) : Prop where
  len : R.length = n
  beh : ∀ j, j < n → behS n b j < n
  mono : ∀ j, j < n → law j β ≠ β → law j (!β) ≠ β
  fix : ∀ j, j < n → law j (R.getD (behS n b j) false) = R.getD j false
  least : ∀ r : List Bool, r.length = n → (∀ j, j < n → law j (r.getD (behS n b j) false) = r.getD j false) → ∀ j, j < n → R.getD j false ≠ β → r.getD j false ≠ β
structure Good (n b : Nat) (β : Bool) (law : Nat → Bool → Bool) (R r : List Bool) : Prop where
  len : r.length = n
  low : ∀ j, j < n → r.getD j false ≠ β → R.getD j false ≠ β
  up : ∀ j, j < n → r.getD j false ≠ β → law j (r.getD (behS n b j) false) ≠ β
theorem getD_set (l : List Bool) (i j : Nat) (v : Bool) (hi : i < l.length) : (l.set i v).getD j false = if j = i then v else l.getD j false := by
  rw [List.getD_eq_getElem?_getD, List.getD_eq_getElem?_getD, List.getElem?_set]
  by_cases h : i = j
  · subst h; simp [hi]
  · rw [if_neg h, if_neg (by omega)]
theorem ne_other {a b : Bool} (h : a ≠ b) : a = !b := by cases a <;> cases b <;> simp_all
section
variable {n b : Nat} {β : Bool} {law : Nat → Bool → Bool} {R : List Bool} (h : LawOK n b β law R)
include h
theorem good_start : Good n b β law R (List.replicate n β) := by
  have e : ∀ j, j < n → (List.replicate n β).getD j false = β := by
    intro j hj
    rw [List.getD_eq_getElem?_getD, List.getElem?_replicate, if_pos hj]; rfl
  exact ⟨by simp, fun j hj hc => absurd (e j hj) hc, fun j hj hc => absurd (e j hj) hc⟩
theorem law_up {j : Nat} (hj : j < n) {x y : Bool} (hx : law j x ≠ β) (hy : y = x ∨ y ≠ β) : law j y ≠ β := by
  rcases hy with rfl | hy
  · exact hx
  · rw [ne_other hy]
    by_cases e : x = β
    · subst e; exact h.mono j hj hx
    · rw [ne_other e] at hx; exact hx
theorem good_step {r : List Bool} (g : Good n b β law R r) {i : Nat} (hi : i < n) (hv : law i (r.getD (behS n b i) false) ≠ r.getD i false) : r.getD i false = β ∧ law i (r.getD (behS n b i) false) = (!β) ∧ Good n b β law R (r.set i (law i (r.getD (behS n b i) false))) := by
  have hb : r.getD i false = β := by
    by_cases e : r.getD i false = β
    · exact e
    · exact absurd ((ne_other (g.up i hi e)).trans (ne_other e).symm) hv
  have hl : law i (r.getD (behS n b i) false) = !β := ne_other (by rw [hb] at hv; exact hv)
  have hil : i < r.length := by rw [g.len]; exact hi
  refine ⟨hb, hl, ?_⟩
  rw [hl]
  have hmon : ∀ j, (r.set i (!β)).getD j false = r.getD j false ∨ (r.set i (!β)).getD j false ≠ β := by
    intro j
    rw [getD_set _ _ _ _ hil]
    by_cases e : j = i
    · rw [if_pos e]; right; cases β <;> simp
    · rw [if_neg e]; exact .inl rfl
  have hlaw : law i (r.getD (behS n b i) false) ≠ β := by rw [hl]; cases β <;> simp
  refine ⟨by rw [List.length_set]; exact g.len, fun j hj hc => ?_, fun j hj hc => ?_⟩
  · rw [getD_set _ _ _ _ hil] at hc
    by_cases e : j = i
    · subst e
      have hf := h.fix j hj
      rw [← hf]
      refine law_up h hj hlaw ?_
      by_cases e2 : r.getD (behS n b j) false = β
      · by_cases e3 : R.getD (behS n b j) false = β
        · exact .inl (e3.trans e2.symm)
        · exact .inr e3
      · exact .inr (g.low _ (h.beh j hj) e2)
    · rw [if_neg e] at hc; exact g.low j hj hc
  · rw [getD_set _ _ _ _ hil] at hc
    by_cases e : j = i
    · subst e; exact law_up h hj hlaw (hmon _)
    · rw [if_neg e] at hc; exact law_up h hj (g.up j hj hc) (hmon _)
theorem good_done {r : List Bool} (g : Good n b β law R r) (hf : ∀ j, j < n → law j (r.getD (behS n b j) false) = r.getD j false) : r = R := by
  refine List.ext_getElem (by rw [g.len, h.len]) fun j h1 h2 => ?_
  have hj : j < n := by rw [← g.len]; exact h1
  have e1 : r.getD j false = r[j] := by simp [h1]
  have e2 : R.getD j false = R[j] := by simp [h2]
  rw [← e1, ← e2]
  by_cases e : r.getD j false = β
  · by_cases e3 : R.getD j false = β
    · rw [e, e3]
    · exact absurd e (h.least r g.len hf j hj e3)
  · rw [ne_other e, ne_other (g.low j hj e)]
end
def cnt (β : Bool) (r : List Bool) : Nat := r.countP (fun x => x == β)
theorem cnt_set (β : Bool) : ∀ (r : List Bool) (i : Nat), i < r.length → r.getD i false = β → cnt β (r.set i (!β)) + 1 = cnt β r
  | [], i, h, _ => by simp at h
  | x :: r, 0, _, h => by
    have : x = β := by simpa using h
    subst this
    simp [cnt]
  | x :: r, i + 1, hi, h => by
    have ih := cnt_set β r i (by simpa using hi) (by simpa using h)
    unfold cnt at ih ⊢
    rw [List.set_cons_succ, List.countP_cons, List.countP_cons]
    omega
def uRow (n c : Nat) (β : Bool) (A B : Nat → Bool) : List Bool := (List.range n).map fun i => β ^^ uA n c A B n i
theorem uRow_get (n c : Nat) (β : Bool) (A B : Nat → Bool) (i : Nat) (hi : i < n) : (uRow n c β A B).getD i false = (β ^^ uA n c A B n i) := by
  simp [uRow, List.getD_eq_getElem?_getD, hi]
theorem uRow_ok {n c : Nat} (β : Bool) (A B : Nat → Bool) (hc : 0 < c) (hn : c ≤ n) (law : Nat → Bool → Bool) (hl : ∀ i, i < n → ∀ x, law i x = (β ^^ (B i || (A i && (β ^^ x))))) : LawOK n (n - c) β law (uRow n c β A B) := by
  have hb : ∀ j, j < n → behS n (n - c) j < n := by
    intro j hj
    unfold behS
    split <;> omega
  refine ⟨by simp [uRow], hb, fun j hj => ?_, fun j hj => ?_, fun r hr hf j hj => ?_⟩
  · rw [hl j hj, hl j hj]
    cases β <;> cases A j <;> cases B j <;> simp
  · rw [hl j hj, uRow_get _ _ _ _ _ _ (hb j hj), uRow_get _ _ _ _ _ _ hj, uA_fix A B hc hn j hj]
    cases β <;> simp
  · rw [uRow_get _ _ _ _ _ _ hj]
    have := uA_least A B hc hn (fun j => β ^^ r.getD j false) (fun j hj => by
      have := hf j hj
      rw [hl j hj] at this
      show (β ^^ r.getD j false) = _
      rw [← this]
      cases β <;> simp) n j
    rw [pS_lt hj] at this
    cases β <;> cases h : uA n c A B n j <;> simp_all
end Go.Proofs.YthffpjkkmkjplaaDoor.Pure
-- Cut by a program of this session (wip/prune.py) from a longer text: declarations that the law does not need are left out.
namespace Go.Proofs.YthffpjkkmkjplaaDoor
open Go.RowKit Go.Proofs.YthffpjkkmkjplaaDoor.Q Go.Proofs.YthffpjkkmkjplaaDoor.Base Go.Proofs.YthffpjkkmkjplaaDoorW.PrintWords Go.Proofs.YthffpjkkmkjplaaDoorW.PrintLast Go.Proofs.YthffpjkkmkjplaaDoorW.PrintMore
set_option linter.unusedVariables false
def one (l : List POp) : Prop := scan l 1 = .ok []
def arIs (o : POp) (n : Nat) : Prop := partsS o.f0 = ((n : Int), 0)
theorem scan_append : ∀ (l : List POp) (w : Nat) (r s : List POp), scan l w = .ok r → scan (l ++ s) w = .ok (r ++ s)
  | l, 0, r, s, h => by rw [scan_zero] at h ⊢; cases h; rfl
  | [], w + 1, r, s, h => by cases h
  | o :: l, w + 1, r, s, h => by
    rw [List.cons_append, scan_cons]
    rw [scan_cons] at h
    split at h
    · rename_i hp
      rw [if_pos hp]
      exact scan_append l _ r s h
    · cases h
theorem scan_take : ∀ (l : List POp) (w k : Nat), k ≤ l.length → scan l w = .ok (l.drop k) → (∃ j, k = j) → scan (l.take k) w = .ok []
  | l, 0, k, hk, h, _ => by
    rw [scan_zero] at h
    have := congrArg List.length (Except.ok.inj h)
    rw [List.length_drop] at this
    obtain h0 | h0 : k = 0 ∨ l.length = 0 := by omega
    · subst h0; rw [List.take_zero]; exact scan_zero _
    · rw [List.eq_nil_of_length_eq_zero h0, List.take_nil]; exact scan_zero _
  | [], w + 1, k, hk, h, _ => by cases h
  | o :: l, w + 1, 0, hk, h, _ => by
    obtain ⟨j, h1, h2, h3⟩ := scan_suffix _ _ _ h
    have := congrArg List.length h2
    simp at this h1
    omega
  | o :: l, w + 1, k + 1, hk, h, _ => by
    rw [scan_cons] at h
    rw [List.take_succ_cons, scan_cons]
    split at h
    · rename_i hp
      rw [if_pos hp]
      exact scan_take l _ k (by simpa using hk) (by simpa using h) ⟨k, rfl⟩
    · cases h
theorem scan_split {l : List POp} {n : Nat} {r : List POp} (h : scan l (n + 1) = .ok r) : ∃ p q, l = p ++ q ∧ one p ∧ scan q n = .ok r ∧ p ≠ [] := by
  rw [show n + 1 = 1 + n by omega, scan_add] at h
  split at h
  · rename_i l' h1
    obtain ⟨k, h2, h3, h4⟩ := scan_suffix _ _ _ h1
    subst h3
    refine ⟨l.take k, l.drop k, (List.take_append_drop k l).symm, scan_take l 1 k h2 h1 ⟨k, rfl⟩, h, fun e => ?_⟩
    have := congrArg List.length e
    rw [List.length_take, List.length_nil] at this
    omega
  · cases h
theorem one_ne {l : List POp} (h : one l) : l ≠ [] := by rintro rfl; cases h
theorem one_pos {l : List POp} (h : one l) : 0 < l.length := List.length_pos_iff.2 (one_ne h)
theorem partsS_cases (a : Int) (h : (partsS a).2 = 0) : partsS a = (0, 0) ∨ partsS a = (1, 0) ∨ partsS a = (2, 0) := by
  obtain ⟨h0, h1⟩ := partsS_bd h
  have : (partsS a).1 = 0 ∨ (partsS a).1 = 1 ∨ (partsS a).1 = 2 := by omega
  rcases this with e | e | e
  · exact .inl (Prod.ext e h)
  · exact .inr (.inl (Prod.ext e h))
  · exact .inr (.inr (Prod.ext e h))
theorem one_cases {l : List POp} (h : one l) : (∃ o, l = [o] ∧ arIs o 0) ∨ (∃ o p, l = o :: p ∧ arIs o 1 ∧ one p) ∨ (∃ o p q, l = o :: (p ++ q) ∧ arIs o 2 ∧ one p ∧ one q) := by
  cases l with
  | nil => cases h
  | cons o l =>
    unfold one at h
    rw [scan_cons] at h
    split at h
    · rename_i hp
      rcases partsS_cases o.f0 hp with e | e | e
      · rw [e] at h
        rw [show (0 + ((0 : Int), (0 : Int)).1.toNat) = 0 from rfl, scan_zero] at h
        cases h
        exact .inl ⟨o, rfl, e⟩
      · rw [e] at h
        exact .inr (.inl ⟨o, l, rfl, e, h⟩)
      · rw [e] at h
        obtain ⟨p, q, rfl, h1, h2, _⟩ := scan_split (n := 1) h
        exact .inr (.inr ⟨o, p, q, rfl, e, h1, h2⟩)
    · cases h
theorem one_leaf {o : POp} (h : arIs o 0) : one [o] := by
  unfold one
  rw [scan_cons, h]
  rfl
theorem one_un {o : POp} {p : List POp} (h : arIs o 1) (hp : one p) : one (o :: p) := by
  unfold one
  rw [scan_cons, h]
  exact hp
theorem one_bin {o : POp} {p q : List POp} (h : arIs o 2) (hp : one p) (hq : one q) : one (o :: (p ++ q)) := by
  unfold one
  rw [scan_cons, h, if_pos rfl]
  show scan (p ++ q) 2 = _
  rw [show (2 : Nat) = 1 + 1 from rfl, scan_add, scan_append p 1 [] q hp]
  exact hq
theorem one_ind {P : List POp → Prop} (h0 : ∀ o, arIs o 0 → P [o]) (h1 : ∀ o p, arIs o 1 → one p → P p → P (o :: p)) (h2 : ∀ o p q, arIs o 2 → one p → one q → P p → P q → P (o :: (p ++ q))) : ∀ l, one l → P l := by
  have : ∀ n (l : List POp), l.length ≤ n → one l → P l := by
    intro n
    induction n with
    | zero => intro l hl h; exact absurd (one_pos h) (by omega)
    | succ n ih =>
      intro l hl h
      rcases one_cases h with ⟨o, rfl, a⟩ | ⟨o, p, rfl, a, hp⟩ | ⟨o, p, q, rfl, a, hp, hq⟩
      · exact h0 o a
      · exact h1 o p a hp (ih p (by simpa using hl) hp)
      · have := one_pos hp
        have := one_pos hq
        simp at hl
        exact h2 o p q a hp hq (ih p (by omega) hp) (ih q (by omega) hq)
  exact fun l h => this l.length l (Nat.le_refl _) h
theorem one_places : ∀ l, one l → ∀ i, i < l.length → ∃ r, scan (l.drop i) 1 = .ok r := by
  refine one_ind ?_ ?_ ?_
  · intro o a i hi
    obtain rfl : i = 0 := by simpa using hi
    exact ⟨[], one_leaf a⟩
  · intro o p a hp ih i hi
    cases i with
    | zero => exact ⟨[], one_un a hp⟩
    | succ i => exact ih i (by simpa using hi)
  · intro o p q a hp hq ihp ihq i hi
    cases i with
    | zero => exact ⟨[], one_bin a hp hq⟩
    | succ i =>
      rw [List.drop_succ_cons]
      by_cases c : i < p.length
      · obtain ⟨r, hr⟩ := ihp i c
        exact ⟨r ++ q, by rw [List.drop_append_of_le_length (by omega)]; exact scan_append _ _ _ q hr⟩
      · simp at hi
        obtain ⟨r, hr⟩ := ihq (i - p.length) (by omega)
        exact ⟨r, by rw [List.drop_append, List.drop_of_length_le (by omega), List.nil_append]; exact hr⟩
end Go.Proofs.YthffpjkkmkjplaaDoor
