/- The places of ops that look ahead, and how many there are. Plain Lean over the printed functions. -/
import Derived.Test.YtmlkkpkaaicobaaDoorLx3
import Derived.Test.YtmlkkpkaaicobaaDoorMLogic
namespace Go.Proofs.YtmlkkpkaaicobaaDoor.Pure
open Go.RowKit Go.Proofs.YtmlkkpkaaicobaaDoor Go.Proofs.YtmlkkpkaaicobaaDoor.L Go.Proofs.YtmlkkpkaaicobaaDoor.Base Go.Proofs.YtmlkkpkaaicobaaDoorW.PrintWords Go.Proofs.YtmlkkpkaaicobaaDoorW.PrintLast Go.Proofs.YtmlkkpkaaicobaaDoorW.PrintMore
set_option linter.unusedVariables false
set_option linter.unusedSimpArgs false
def aheadL : List POp → Nat → List Int
  | [], _ => []
  | o :: l, i => if ahd o.f0 then (i : Int) :: aheadL l (i + 1) else aheadL l (i + 1)
theorem aheadL_le : ∀ (l : List POp) (i : Nat), (aheadL l i).length ≤ l.length
  | [], _ => by simp [aheadL]
  | o :: l, i => by
    have := aheadL_le l (i + 1)
    unfold aheadL
    split <;> simp <;> omega
theorem ahead_loop (l : List POp) (hl : l.length ≤ 1000000) (d : Nat) : ∀ (i : Nat) (acc : List Int), i + d = l.length → acc.length ≤ i → Ev (fun k => logic_Ahead.l0 k acc l (l.length : Int) i) (acc ++ aheadL (l.drop i) i, 0) := by
  induction d with
  | zero =>
    intro i acc hi ha
    rw [List.drop_of_length_le (by omega)]
    exact ev_now (fun k => by simp (disch := omega) only [logic_Ahead.l0, if_neg, aheadL, List.append_nil])
  | succ d ih =>
    intro i acc hi ha
    have hlt : i < l.length := by omega
    have hg : rd_T63 l i = l[i] := getD_get _ _ _ hlt
    rw [List.drop_eq_getElem_cons hlt]
    unfold aheadL
    by_cases h : ahd l[i].f0 = true
    · rw [if_pos h]
      refine Ev.step (fun k => ?_) (ev_eq (ih (i + 1) (acc ++ [(i : Int)]) (by omega) (by simp; omega)) (by simp))
      simp (disch := omega) only [logic_Ahead.l0, if_pos, hg, ahead_eq, h, Option.bind_some, wrap_id]
      rfl
    · rw [if_neg h]
      refine Ev.step (fun k => ?_) (ih (i + 1) acc (by omega) (by omega))
      simp (disch := omega) only [logic_Ahead.l0, if_pos, hg, ahead_eq, if_neg h, Option.bind_some, wrap_id]
      rfl
def aheadS (l : List POp) (n : Int) : List Int × Int := if checkS l n = 0 then (aheadL l 0, 0) else ([], checkS l n)
theorem ahead_ev (l : List POp) (n : Int) : Ev (fun k => logic_Ahead.f k l n) (aheadS l n) := by
  unfold logic_Ahead.f aheadS
  refine ev_bind (check_ev l n) ?_
  by_cases h : checkS l n = 0
  · simp only [if_pos h]
    exact ahead_loop l (by have := (checkS_ok h).2.2.1; omega) l.length 0 [] (by omega) (by simp)
  · simp only [if_neg h]
    exact Ev.now _
/-- How many ops look ahead. -/
def cA : List POp → Nat
  | [] => 0
  | o :: l => (if ahd o.f0 then 1 else 0) + cA l
theorem aheadL_cA : ∀ (l : List POp) (i : Nat), (aheadL l i).length = cA l
  | [], _ => rfl
  | o :: l, i => by
    have := aheadL_cA l (i + 1)
    unfold aheadL cA
    by_cases h : ahd o.f0 = true
    · rw [if_pos h, if_pos h, List.length_cons, this]; omega
    · rw [if_neg h, if_neg h, this]; omega
theorem cA_append : ∀ (l m : List POp), cA (l ++ m) = cA l + cA m
  | [], m => by simp [cA]
  | o :: l, m => by rw [List.cons_append, cA, cA_append l m, cA]; omega
theorem cA_take (l : List POp) (i : Nat) (h : i < l.length) : cA (l.take (i + 1)) = cA (l.take i) + if ahd l[i].f0 then 1 else 0 := by
  rw [List.take_succ_eq_append_getElem h, cA_append]
  rfl
theorem chk_cA (n : Int) : ∀ (l : List POp) (c : Nat), chk n l c = 0 → c + cA l ≤ 6 ∧ ∀ o ∈ l, fit n o = 0
  | [], c, h => by
    unfold chk at h
    by_cases h6 : c > 6
    · rw [if_pos h6] at h; cases h
    · exact ⟨by simp [cA]; omega, by simp⟩
  | o :: l, c, h => by
    unfold chk at h
    by_cases hf : fit n o = 0
    · rw [if_pos hf] at h
      obtain ⟨h1, h2⟩ := chk_cA n l _ h
      refine ⟨by unfold cA; omega, fun x hx => ?_⟩
      rcases List.mem_cons.1 hx with rfl | hx
      · exact hf
      · exact h2 x hx
    · rw [if_neg hf] at h; exact absurd h hf
/-- What Truths answers: the truths of the terms of a list, the first op that looks ahead being the c-th. -/
def trS (letter : List Bool) (claim : Int) : List POp → Nat → List Bool
  | [], _ => []
  | o :: l, c =>
    (if o.f0 = 13 then letter.getD o.f1.toNat false
     else if o.f0 = 11 then true
     else if o.f0 = 12 then false
     else if o.f0 = 10 then !((trS letter claim l (c + if ahd o.f0 then 1 else 0)).getD 0 false)
     else if o.f0 = 8 then ((trS letter claim l (c + if ahd o.f0 then 1 else 0)).getD 0 false && (trS letter claim l (c + if ahd o.f0 then 1 else 0)).getD (endAt l 0).toNat false)
     else if o.f0 = 9 then ((trS letter claim l (c + if ahd o.f0 then 1 else 0)).getD 0 false || (trS letter claim l (c + if ahd o.f0 then 1 else 0)).getD (endAt l 0).toNat false)
     else decide (claim / 2 ^ c % 2 = 1)) :: trS letter claim l (c + if ahd o.f0 then 1 else 0)
theorem trS_len (letter : List Bool) (claim : Int) : ∀ (l : List POp) (c : Nat), (trS letter claim l c).length = l.length
  | [], _ => rfl
  | o :: l, c => by rw [trS, List.length_cons, trS_len letter claim l, List.length_cons]
def truthsS (l : List POp) (letter : List Bool) (claim : Int) : List Bool × Int :=
  if checkS l letter.length = 0 then (if 0 ≤ claim ∧ claim < 2 ^ cA l then (trS letter claim l 0, 0) else ([], 2)) else ([], checkS l letter.length)
theorem checkS_fit {l : List POp} {n : Int} (h : checkS l n = 0) : cA l ≤ 6 ∧ ∀ o ∈ l, fit n o = 0 := by
  unfold checkS at h
  by_cases c : 0 ≤ n ∧ n ≤ 6
  · rw [if_pos c] at h
    by_cases he : (endsS l).2 = 0
    · rw [if_pos he] at h
      have := chk_cA n l 0 h
      simpa using this
    · rw [if_neg he] at h; exact absurd h he
  · rw [if_neg c] at h; cases h
/-- Where the second part of an op with two parts lies. -/
theorem second_at {l : List POp} (h1 : one l) (i : Nat) (hi : i < l.length) (ha : arIs l[i] 2) : i + 1 < l.length ∧ endAt l (i + 1) = (i : Int) + 1 + endAt (l.drop (i + 1)) 0 ∧ endAt l (i + 1) < (l.length : Int) ∧ 0 ≤ endAt (l.drop (i + 1)) 0 := by
  obtain ⟨r, hr⟩ := one_places l h1 i hi
  rw [List.drop_eq_getElem_cons hi, scan_cons, ha] at hr
  simp only [if_true] at hr
  obtain ⟨p, q, hpq, hp, hq, _⟩ := scan_split (n := 1) hr
  obtain ⟨p2, q2, hpq2, hp2, hq2, _⟩ := scan_split (n := 0) hq
  have h1 := one_pos hp
  have h2 := one_pos hp2
  have hlen : l.length - (i + 1) = p.length + (p2.length + q2.length) := by
    have := congrArg List.length hpq
    rw [List.length_drop, List.length_append, hpq2, List.length_append] at this
    exact this
  have e1 : endAt l (i + 1) = ((i + 1 + p.length : Nat) : Int) := by
    unfold endAt
    rw [hpq, scan_append p 1 [] q hp]
    simp only [List.nil_append, hpq2, List.length_append]
    omega
  have e2 : endAt (l.drop (i + 1)) 0 = (p.length : Int) := by
    unfold endAt
    rw [List.drop_zero, hpq, scan_append p 1 [] q hp]
    simp only [List.nil_append, List.length_append]
    omega
  rw [e1, e2]
  omega
theorem first_at {l : List POp} (h1 : one l) (i : Nat) (hi : i < l.length) (n : Nat) (ha : arIs l[i] (n + 1)) : i + 1 < l.length := by
  obtain ⟨r, hr⟩ := one_places l h1 i hi
  rw [List.drop_eq_getElem_cons hi, scan_cons, ha] at hr
  simp only [if_true] at hr
  rcases Nat.lt_or_ge (i + 1) l.length with h | h
  · exact h
  · rw [List.drop_of_length_le h] at hr
    have e : (0 + (((n + 1 : Nat) : Int), (0 : Int)).1.toNat) = n + 1 := by simp
    rw [e] at hr
    cases hr
end Go.Proofs.YtmlkkpkaaicobaaDoor.Pure
