/- logic.Truths and TruthsOf compute one thing: the truths of all terms of a formula. Plain Lean over the printed functions. -/
import Derived.Test.YtmlkkpkaaicobaaDoorLx4
import Derived.Test.YtmlkkpkaaicobaaDoorLx4
import Derived.Test.YtmlkkpkaaicobaaDoorLx3
import Derived.Test.YtmlkkpkaaicobaaDoorMAhead
import Derived.Test.YtmlkkpkaaicobaaDoorMAheadOf
namespace Go.Proofs.YtmlkkpkaaicobaaDoor.Pure
open Go.RowKit Go.Proofs.YtmlkkpkaaicobaaDoor Go.Proofs.YtmlkkpkaaicobaaDoor.L Go.Proofs.YtmlkkpkaaicobaaDoor.Base Go.Proofs.YtmlkkpkaaicobaaDoorW.PrintWords Go.Proofs.YtmlkkpkaaicobaaDoorW.PrintLast Go.Proofs.YtmlkkpkaaicobaaDoorW.PrintMore
set_option linter.unusedVariables false
set_option linter.unusedSimpArgs false
theorem truths_eq (l : List Bool) (h : l.length * 1 ≤ 140737488351232) : foretelllaw_truths.f l = some l := by
  unfold foretelllaw_truths.f
  rw [if_pos (by simp; omega), List.nil_append]
theorem sameTruths_loop (l : List Bool) (hl : l.length ≤ 9223372036854775807) (d : Nat) : ∀ i : Nat, i + d = l.length → Ev (fun k => foretelllaw_sameTruths.l0 k l l i) true := by
  induction d with
  | zero => exact fun i hi => ev_now (fun k => by simp (disch := omega) only [foretelllaw_sameTruths.l0, if_neg])
  | succ d ih =>
    intro i hi
    refine Ev.step (fun k => ?_) (ih (i + 1) (by omega))
    have hb : ∀ b : Bool, (b != b) = false := fun b => by cases b <;> rfl
    simp (disch := omega) only [foretelllaw_sameTruths.l0, if_pos, hb, Bool.false_eq_true, if_false, wrap_id]
    rfl
theorem sameTruths_refl (l : List Bool) (hl : l.length ≤ 9223372036854775807) : Ev (fun k => foretelllaw_sameTruths.f k l l) true := by
  unfold foretelllaw_sameTruths.f
  simp only [if_true]
  exact sameTruths_loop l hl l.length 0 (by omega)
theorem aheadL_ge : ∀ (l : List POp) (b : Nat) (p : Int), p ∈ aheadL l b → (b : Int) ≤ p
  | [], b, p, h => by simp [aheadL] at h
  | o :: l, b, p, h => by
    unfold aheadL at h
    split at h
    · rcases List.mem_cons.1 h with rfl | h
      · exact Int.le_refl _
      · have := aheadL_ge l (b + 1) p h; omega
    · have := aheadL_ge l (b + 1) p h; omega
theorem aheadL_get : ∀ (l : List POp) (i b : Nat) (h : i < l.length), ahd l[i].f0 = true → (aheadL l b)[cA (l.take i)]? = some ((b + i : Nat) : Int)
  | o :: l, 0, b, h, ha => by
    have ha : ahd o.f0 = true := ha
    simp [aheadL, cA, ha]
  | o :: l, i + 1, b, h, ha => by
    have ih := aheadL_get l i (b + 1) (by simpa using h) (by simpa using ha)
    unfold aheadL
    rw [List.take_succ_cons, cA]
    by_cases c : ahd o.f0 = true
    · rw [if_pos c, if_pos c, Nat.add_comm 1, List.getElem?_cons_succ, ih]
      congr 2; omega
    · rw [if_neg c, if_neg c, Nat.zero_add, ih]
      congr 2; omega
theorem aheadL_inj : ∀ (l : List POp) (j i b : Nat), (aheadL l b)[j]? = some ((b + i : Nat) : Int) → j = cA (l.take i)
  | [], j, i, b, h => by simp [aheadL] at h
  | o :: l, j, i, b, h => by
    unfold aheadL at h
    by_cases c : ahd o.f0 = true
    · rw [if_pos c] at h
      cases j with
      | zero =>
        simp at h
        obtain rfl : i = 0 := by omega
        rfl
      | succ j =>
        rw [List.getElem?_cons_succ] at h
        have hge := aheadL_ge l (b + 1) _ (List.mem_of_getElem? h)
        cases i with
        | zero => omega
        | succ i =>
          have := aheadL_inj l j i (b + 1) (by rw [h]; congr 2; omega)
          rw [List.take_succ_cons, cA, if_pos c]
          omega
    · rw [if_neg c] at h
      have hge := aheadL_ge l (b + 1) _ (List.mem_of_getElem? h)
      cases i with
      | zero => omega
      | succ i =>
        have := aheadL_inj l j i (b + 1) (by rw [h]; congr 2; omega)
        rw [List.take_succ_cons, cA, if_neg c]
        omega
theorem trS_drop (letter : List Bool) (claim : Int) : ∀ (l : List POp) (c i : Nat), i ≤ l.length → (trS letter claim l c).drop i = trS letter claim (l.drop i) (c + cA (l.take i))
  | l, c, 0, h => by simp [cA]
  | [], c, i + 1, h => by simp at h
  | o :: l, c, i + 1, h => by
    rw [trS, List.drop_succ_cons, List.drop_succ_cons, trS_drop letter claim l _ i (by simpa using h), List.take_succ_cons, cA]
    congr 1
    omega
/-- What the truth at a place is, by those behind it. -/
theorem trS_at (letter : List Bool) (claim : Int) (l : List POp) (i : Nat) (hi : i < l.length) : (trS letter claim l 0).getD i false =
    (if l[i].f0 = 13 then letter.getD l[i].f1.toNat false
     else if l[i].f0 = 11 then true
     else if l[i].f0 = 12 then false
     else if l[i].f0 = 10 then !((trS letter claim l 0).getD (i + 1) false)
     else if l[i].f0 = 8 then ((trS letter claim l 0).getD (i + 1) false && (trS letter claim l 0).getD (i + 1 + (endAt (l.drop (i + 1)) 0).toNat) false)
     else if l[i].f0 = 9 then ((trS letter claim l 0).getD (i + 1) false || (trS letter claim l 0).getD (i + 1 + (endAt (l.drop (i + 1)) 0).toNat) false)
     else decide (claim / 2 ^ cA (l.take i) % 2 = 1)) := by
  have h1 := trS_drop letter claim l 0 i (by omega)
  have h2 := trS_drop letter claim l 0 (i + 1) (by omega)
  have g : ∀ m, (trS letter claim l 0).getD (i + 1 + m) false = (trS letter claim (l.drop (i + 1)) (cA (l.take i) + if ahd l[i].f0 then 1 else 0)).getD m false := by
    intro m
    have e : (0 + cA (l.take (i + 1))) = cA (l.take i) + if ahd l[i].f0 then 1 else 0 := by rw [cA_take l i hi]; omega
    rw [e] at h2
    rw [← h2, List.getD_eq_getElem?_getD, List.getD_eq_getElem?_getD, List.getElem?_drop]
  have g0 := g 0
  rw [Nat.add_zero] at g0
  have h3 : (trS letter claim l 0).getD i false = ((trS letter claim l 0).drop i).getD 0 false := by
    rw [List.getD_eq_getElem?_getD, List.getD_eq_getElem?_getD, List.getElem?_drop, Nat.add_zero]
  rw [h3, h1, List.drop_eq_getElem_cons hi, trS, g0, g, Nat.zero_add]
  rfl
theorem secondAt_ev {l : List POp} (h1 : one l) (hl : l.length ≤ 60) (i : Nat) (hi : i < l.length) (ha : arIs l[i] 2) : Ev (fun k => foretellref_secondAt.f k l (i : Int)) ((i + 1 + (endAt (l.drop (i + 1)) 0).toNat : Nat) : Int) := by
  obtain ⟨h2, h3, h4, h5⟩ := second_at h1 i hi ha
  unfold foretellref_secondAt.f
  rw [show wrap64 ((i : Int) + 1) = ((i + 1 : Nat) : Int) by rw [wrap_id (by omega) (by omega)]; rfl]
  refine ev_bind (endOf_ev l (by omega) (i + 1) (by omega)) (ev_eq (Ev.now _) ?_)
  obtain ⟨r, hr⟩ := one_places l h1 (i + 1) h2
  have e : endAt l (i + 1) = (l.length : Int) - r.length := by unfold endAt; rw [hr]
  rw [hr]
  show (l.length : Int) - r.length = _
  omega
theorem places_loop (ps : List Int) (hps : ps.length ≤ 1000) (a : Int) (j : Nat) (hj : ps[j]? = some a) (hne : ∀ i, i < j → ps[i]? ≠ some a) (d : Nat) : ∀ (i : Nat) (c : Int), i + d = j → 0 ≤ c → c ≤ 1000000 → Ev (fun k => foretellref_truthAt.l0 k a ps c i) (decide (c / 2 ^ d % 2 = 1)) := by
  obtain ⟨hjl, hje⟩ := List.getElem?_eq_some_iff.1 hj
  induction d with
  | zero =>
    intro i c hi h0 h1
    obtain rfl : i = j := by omega
    refine ev_now (fun k => ?_)
    have hg : rd ps (i : Int) = a := by rw [rd_get _ _ hjl, hje]
    simp (disch := omega) only [foretellref_truthAt.l0, if_pos, hg, tmod_of]
    rw [Int.pow_zero, Int.ediv_one]
    congr 1
  | succ d ih =>
    intro i c hi h0 h1
    have hlt : i < ps.length := by omega
    have hg : ¬ rd ps (i : Int) = a := by
      rw [rd_get _ _ hlt]
      intro e
      exact hne i (by omega) (by rw [List.getElem?_eq_getElem hlt, e])
    refine Ev.step (fun k => ?_) (ev_eq (ih (i + 1) (c / 2) (by omega) (by omega) (by omega)) ?_)
    · simp (disch := omega) only [foretellref_truthAt.l0, if_pos, if_neg hg, tdiv_of, wrap_id]
      rfl
    · rw [Int.ediv_ediv_of_nonneg (by omega), Int.pow_succ, Int.mul_comm]
/-- What an op of a right formula is. -/
theorem kind_cases {l : List POp} {n : Int} (h1 : one l) (i : Nat) (hi : i < l.length) (hf : fit n l[i] = 0) :
    (l[i].f0 = 13 ∧ 0 ≤ l[i].f1 ∧ l[i].f1 < n) ∨ l[i].f0 = 11 ∨ l[i].f0 = 12 ∨ (l[i].f0 = 10 ∧ arIs l[i] 1) ∨ (l[i].f0 = 8 ∧ arIs l[i] 2) ∨ (l[i].f0 = 9 ∧ arIs l[i] 2) ∨ (14 ≤ l[i].f0 ∧ l[i].f0 ≤ 18) := by
  obtain ⟨rr, hrr⟩ := one_places l h1 i hi
  rw [List.drop_eq_getElem_cons hi, scan_cons] at hrr
  have hp : ¬ (l[i].f0 < 1 ∨ 18 < l[i].f0) := by
    intro hc
    have e : (partsS l[i].f0).2 = 13 := by unfold partsS; rw [if_pos hc]
    rw [e] at hrr
    simp at hrr
  unfold fit at hf
  have h8 : ¬ l[i].f0 < 8 := by
    intro hc
    rw [if_pos hc] at hf
    cases hf
  rw [if_neg h8] at hf
  by_cases k13 : l[i].f0 = 13
  · rw [if_pos k13] at hf
    split at hf
    · cases hf
    · exact .inl ⟨k13, by omega, by omega⟩
  have : l[i].f0 = 8 ∨ l[i].f0 = 9 ∨ l[i].f0 = 10 ∨ l[i].f0 = 11 ∨ l[i].f0 = 12 ∨ (14 ≤ l[i].f0 ∧ l[i].f0 ≤ 18) := by omega
  rcases this with e | e | e | e | e | e
  · exact .inr (.inr (.inr (.inr (.inl ⟨e, by unfold arIs; rw [e]; decide⟩))))
  · exact .inr (.inr (.inr (.inr (.inr (.inl ⟨e, by unfold arIs; rw [e]; decide⟩)))))
  · exact .inr (.inr (.inr (.inl ⟨e, by unfold arIs; rw [e]; decide⟩)))
  · exact .inr (.inl e)
  · exact .inr (.inr (.inl e))
  · exact .inr (.inr (.inr (.inr (.inr (.inr e)))))
theorem cA_take_le (l : List POp) (i : Nat) : cA (l.take i) ≤ cA l := by
  have := cA_append (l.take i) (l.drop i)
  rw [List.take_append_drop] at this
  omega
theorem pow_cA {l : List POp} (h : cA l ≤ 6) : (2 : Int) ^ cA l ≤ 64 := by
  have : cA l = 0 ∨ cA l = 1 ∨ cA l = 2 ∨ cA l = 3 ∨ cA l = 4 ∨ cA l = 5 ∨ cA l = 6 := by omega
  rcases this with e | e | e | e | e | e | e <;> (rw [e]; decide)
theorem truthAt_ev {l : List POp} {letter : List Bool} {claim : Int} (hc : checkS l letter.length = 0) (h0 : 0 ≤ claim) (h1 : claim ≤ 64) (d : Nat) : ∀ i : Nat, i < l.length → l.length - i ≤ d →
    Ev (fun k => foretellref_truthAt.f k l (i : Int) letter (aheadL l 0) claim) ((trS letter claim l 0).getD i false) := by
  obtain ⟨q1, q2, q3, q4⟩ := checkS_ok hc
  obtain ⟨q5, q6⟩ := checkS_fit hc
  have hpl := aheadL_le l 0
  induction d with
  | zero => intro i hi hd; omega
  | succ d ih =>
    intro i hi hd
    have hg : rd_T63 l (i : Int) = l[i] := getD_get _ _ _ hi
    rw [trS_at letter claim l i hi]
    have w1 : wrap64 ((i : Int) + 1) = ((i + 1 : Nat) : Int) := by rw [wrap_id (by omega) (by omega)]; rfl
    rcases kind_cases q2 i hi (q6 l[i] (List.getElem_mem hi)) with ⟨e, e1, e2⟩ | e | e | ⟨e, ha⟩ | ⟨e, ha⟩ | ⟨e, ha⟩ | ⟨e1, e2⟩
    · refine ev_now (fun k => ?_)
      simp (disch := omega) only [foretellref_truthAt.f, if_pos, hg]
      rfl
    · refine ev_now (fun k => ?_)
      simp (disch := omega) only [foretellref_truthAt.f, if_pos, if_neg, hg]
    · refine ev_now (fun k => ?_)
      simp (disch := omega) only [foretellref_truthAt.f, if_pos, if_neg, hg]
    · have hi1 := first_at q2 i hi 0 ha
      refine Ev.step (f := fun k => (foretellref_truthAt.f k l ((i + 1 : Nat) : Int) letter (aheadL l 0) claim).bind fun t => some (!t)) (fun k => ?_) (ev_bind (ih (i + 1) hi1 (by omega)) (ev_eq (Ev.now _) ?_))
      · simp (disch := omega) only [foretellref_truthAt.f, if_pos, if_neg, hg, w1]
      · simp (disch := omega) only [if_pos, if_neg]
    · obtain ⟨s1, s2, s3, s4⟩ := second_at q2 i hi ha
      refine Ev.step (f := fun k => foretellref_truthAt.j0 k l (i : Int) letter (aheadL l 0) claim true) (fun k => ?_) ?_
      · simp (disch := omega) only [foretellref_truthAt.f, if_pos, if_neg, hg]
        rw [beq_iff_eq.2 e]
      refine Ev.step (f := fun k => (foretellref_truthAt.f k l ((i + 1 : Nat) : Int) letter (aheadL l 0) claim).bind fun a => (foretellref_secondAt.f k l (i : Int)).bind fun s => (foretellref_truthAt.f k l s letter (aheadL l 0) claim).bind fun b => some (a && b)) (fun k => ?_) ?_
      · simp (disch := omega) only [foretellref_truthAt.j0, if_pos, if_neg, if_true, hg, w1]
        congr 1; funext a; congr 1; funext s; congr 1; funext b
        cases a <;> cases b <;> simp
      refine ev_bind (ih (i + 1) s1 (by omega)) (ev_bind (secondAt_ev q2 q3 i hi ha) (ev_bind (ih _ (by omega) (by omega)) (ev_eq (Ev.now _) ?_)))
      simp (disch := omega) only [if_pos, if_neg]
    · obtain ⟨s1, s2, s3, s4⟩ := second_at q2 i hi ha
      refine Ev.step (f := fun k => foretellref_truthAt.j0 k l (i : Int) letter (aheadL l 0) claim true) (fun k => ?_) ?_
      · simp (disch := omega) only [foretellref_truthAt.f, if_pos, if_neg, hg]
        rw [beq_iff_eq.2 e]
      refine Ev.step (f := fun k => (foretellref_truthAt.f k l ((i + 1 : Nat) : Int) letter (aheadL l 0) claim).bind fun a => (foretellref_secondAt.f k l (i : Int)).bind fun s => (foretellref_truthAt.f k l s letter (aheadL l 0) claim).bind fun b => some (a || b)) (fun k => ?_) ?_
      · simp (disch := omega) only [foretellref_truthAt.j0, if_pos, if_neg, if_true, hg, w1]
        congr 1; funext a; congr 1; funext s; congr 1; funext b
        cases a <;> cases b <;> simp
      refine ev_bind (ih (i + 1) s1 (by omega)) (ev_bind (secondAt_ev q2 q3 i hi ha) (ev_bind (ih _ (by omega) (by omega)) (ev_eq (Ev.now _) ?_)))
      simp (disch := omega) only [if_pos, if_neg]
    · have hah : ahd l[i].f0 = true := decide_eq_true ⟨e1, e2⟩
      have e9 : (l[i].f0 == 9) = false := by rw [beq_eq_false_iff_ne]; omega
      have hcle := cA_take_le l i
      refine Ev.step (f := fun k => foretellref_truthAt.j0 k l (i : Int) letter (aheadL l 0) claim false) (fun k => ?_) ?_
      · simp (disch := omega) only [foretellref_truthAt.f, if_pos, if_neg, hg, e9]
      refine Ev.step (f := fun k => foretellref_truthAt.l0 k (i : Int) (aheadL l 0) claim 0) (fun k => ?_) ?_
      · simp (disch := omega) only [foretellref_truthAt.j0, Bool.false_eq_true, if_false]
      refine ev_eq (places_loop (aheadL l 0) (by omega) (i : Int) (cA (l.take i)) ?_ ?_ (cA (l.take i)) 0 claim (by omega) h0 (by omega)) ?_
      · have := aheadL_get l i 0 hi hah
        rw [Nat.zero_add] at this
        exact this
      · intro j hj hc
        have := aheadL_inj l j i 0 (by rw [Nat.zero_add]; exact hc)
        omega
      · simp (disch := omega) only [if_neg]
theorem most_loop (l : List POp) (letter : List Bool) (claim : Int) (ps : List Int) (hps : ps.length ≤ 6) (r : List Bool × Int) (h : Ev (fun k => (foretellref_In.f claim 0 (2 ^ ps.length - 1)).bind fun t => (if t = true then (foretellref_TruthsOf.l1 k l letter claim ps ([] : List Bool) 0) else (some (([] : List Bool), 2)))) r) (d : Nat) :
    ∀ i : Nat, i + d = ps.length → Ev (fun k => foretellref_TruthsOf.l0 k l letter claim ps (2 ^ i) i) r := by
  have hp : ∀ i : Nat, i ≤ 6 → (1 : Int) ≤ 2 ^ i ∧ (2 : Int) ^ i ≤ 64 := by
    intro i hi
    have : i = 0 ∨ i = 1 ∨ i = 2 ∨ i = 3 ∨ i = 4 ∨ i = 5 ∨ i = 6 := by omega
    rcases this with e | e | e | e | e | e | e <;> (rw [e]; decide)
  induction d with
  | zero =>
    intro i hi
    obtain rfl : i = ps.length := by omega
    refine Ev.step (fun k => ?_) h
    have := hp ps.length hps
    simp (disch := omega) only [foretellref_TruthsOf.l0, if_neg, wrap_id]
  | succ d ih =>
    intro i hi
    refine Ev.step (fun k => ?_) (ih (i + 1) (by omega))
    have := hp i (by omega)
    simp (disch := omega) only [foretellref_TruthsOf.l0, if_pos, wrap_id]
    rw [Int.pow_succ]
    rfl
theorem truths_loop {l : List POp} {letter : List Bool} {claim : Int} (hc : checkS l letter.length = 0) (h0 : 0 ≤ claim) (h1 : claim ≤ 64) (d : Nat) : ∀ i : Nat, i + d = l.length →
    Ev (fun k => foretellref_TruthsOf.l1 k l letter claim (aheadL l 0) ((trS letter claim l 0).take i) i) (trS letter claim l 0, 0) := by
  have q3 := (checkS_ok hc).2.2.1
  have hlen := trS_len letter claim l 0
  induction d with
  | zero =>
    intro i hi
    refine ev_now (fun k => ?_)
    simp (disch := omega) only [foretellref_TruthsOf.l1, if_neg]
    rw [List.take_of_length_le (by omega)]
  | succ d ih =>
    intro i hi
    refine Ev.step (f := fun k => (foretellref_truthAt.f k l (i : Int) letter (aheadL l 0) claim).bind fun t => foretellref_TruthsOf.l1 k l letter claim (aheadL l 0) ((trS letter claim l 0).take i ++ [t]) ((i + 1 : Nat) : Int)) (fun k => ?_) (ev_bind (truthAt_ev hc h0 h1 l.length i (by omega) (by omega)) (ev_eq (g := fun k => foretellref_TruthsOf.l1 k l letter claim (aheadL l 0) ((trS letter claim l 0).take i ++ [(trS letter claim l 0).getD i false]) ((i + 1 : Nat) : Int)) ?_ rfl))
    · have : ((trS letter claim l 0).take i).length < 140737488355328 := by rw [List.length_take]; omega
      simp (disch := omega) only [foretellref_TruthsOf.l1, if_pos, wrap_id]
      rfl
    · have e : (trS letter claim l 0).take i ++ [(trS letter claim l 0).getD i false] = (trS letter claim l 0).take (i + 1) := by
        rw [List.take_succ_eq_append_getElem (by omega)]
        simp [show i < (trS letter claim l 0).length by omega]
      rw [e]
      exact ih (i + 1) (by omega)
theorem truthsOf_ev (l : List POp) (letter : List Bool) (claim : Int) : Ev (fun k => foretellref_TruthsOf.f k l letter claim) (truthsS l letter claim) := by
  unfold foretellref_TruthsOf.f truthsS
  refine ev_bind (aheadOf_ev l letter.length) ?_
  unfold aheadS
  by_cases hc : checkS l letter.length = 0
  · simp only [if_pos hc, if_true]
    have q5 := (checkS_fit hc).1
    have hal := aheadL_cA l 0
    refine most_loop l letter claim (aheadL l 0) (by omega) _ ?_ (aheadL l 0).length 0 (by omega)
    rw [hal]
    refine ev_call (in_eq _ _ _) ?_
    by_cases h : 0 ≤ claim ∧ claim < 2 ^ cA l
    · rw [if_pos h, decide_eq_true (by omega)]
      simp only [if_true]
      exact truths_loop hc h.1 (by exact Int.le_of_lt (Int.lt_of_lt_of_le h.2 (pow_cA q5))) l.length 0 (by omega)
    · rw [if_neg h, decide_eq_false (by omega)]
      simp only [Bool.false_eq_true, if_false]
      exact Ev.now _
  · simp only [if_neg hc]
    exact Ev.now _
theorem truthsS_len (l : List POp) (letter : List Bool) (claim : Int) : (truthsS l letter claim).1.length ≤ 60 := by
  unfold truthsS
  by_cases hc : checkS l letter.length = 0
  · rw [if_pos hc]
    split
    · rw [trS_len]; exact (checkS_ok hc).2.2.1
    · simp
  · rw [if_neg hc]; simp
end Go.Proofs.YtmlkkpkaaicobaaDoor.Pure
