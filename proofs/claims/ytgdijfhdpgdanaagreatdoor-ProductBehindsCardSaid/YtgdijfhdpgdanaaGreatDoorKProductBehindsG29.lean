import Derived.Test.YtgdijfhdpgdanaaGreatDoorKProductBehindsG28
namespace Go.Proofs.YtgdijfhdpgdanaaGreatDoor.Pure
open Go.RowKit Go.Proofs.YtgdijfhdpgdanaaGreatDoor Go.Proofs.YtgdijfhdpgdanaaGreatDoor.B Go.Proofs.YtgdijfhdpgdanaaGreatDoor.Base Go.Proofs.YtgdijfhdpgdanaaGreatDoorW.PrintWords Go.Proofs.YtgdijfhdpgdanaaGreatDoorW.PrintLast Go.Proofs.YtgdijfhdpgdanaaGreatDoorW.PrintMore
set_option linter.unusedVariables false
set_option linter.unusedSimpArgs false
def fit (n : Int) (o : POp) : Int := if o.f0 < 8 then 13 else if o.f0 = 13 then (if o.f1 < 0 ∨ n ≤ o.f1 then 2 else 0) else if o.f1 = 0 then 0 else 2
def ahd (a : Int) : Bool := decide (14 ≤ a ∧ a ≤ 18)
def chk (n : Int) : List POp → Nat → Int
 | [], c => if c > 6 then 1 else 0
 | o :: l, c => if fit n o = 0 then chk n l (c + if ahd o.f0 then 1 else 0) else fit n o
theorem fits_eq (n : Int) (o : POp) : zBS.f o.f0 o.f1 n = some (fit n o) := by
 unfold zBS.f fit
 by_cases h1 : o.f0 < 8
 ·simp only [if_pos h1]
 simp only [if_neg h1]
 by_cases h2 : o.f0 = 13
 ·simp only [if_pos h2]
  by_cases h3 : o.f1 < 0
  ·rw [if_pos h3, if_pos (.inl h3)]
  rw [if_neg h3]
  by_cases h4 : o.f1 ≥ n
  ·rw [if_pos h4, if_pos (.inr h4)]
  ·rw [if_neg h4, if_neg (by omega)]
 ·simp only [if_neg h2]
  split <;> rfl
theorem in_eq (a b c : Int) : zAE.f a b c = some (decide (b ≤ a ∧ a ≤ c)) := by
 unfold zAE.f
 by_cases h : a ≥ b
 ·rw [if_pos h]
  congr 1
  simp only [decide_eq_decide]
  omega
 ·rw [if_neg h]
  congr 1
  exact (decide_eq_false (by omega)).symm
theorem ahead_eq (a : Int) : zBH.f a = some (ahd a) := by
 unfold zBH.f ahd
 by_cases h : a ≥ 14
 ·rw [if_pos h]
  congr 1
  simp only [decide_eq_decide]
  omega
 ·rw [if_neg h]
  congr 1
  exact (decide_eq_false (by omega)).symm
theorem looksAhead_eq (a : Int) : zA1.f a = some (ahd a) := by
 unfold zA1.f
 rw [in_eq]
 rfl
theorem check_loop (l : List POp) (hl : l.length ≤ 1000000) (n : Int) (d : Nat) : ∀ (i c : Nat), i + d = l.length → c ≤ i → Ev (fun k => zAp.l0 k n (c : Int) l (l.length : Int) i) (chk n (l.drop i) c) := by
 induction d with
 | zero =>
  intro i c hi hc
  rw [List.drop_of_length_le (by omega)]
  refine ev_now (fun k => ?_)
  simp (disch := omega) only [zAp.l0, if_neg, chk]
  by_cases h : c > 6
  ·rw [if_pos h, if_pos (by omega)]
  ·rw [if_neg h, if_neg (by omega)]
 | succ d ih =>
  intro i c hi hc
  have hlt : i < l.length := by omega
  have hg : zAI l i = l[i] := getD_get _ _ _ hlt
  rw [List.drop_eq_getElem_cons hlt]
  unfold chk
  by_cases hf : fit n l[i] = 0
  ·rw [if_pos hf]
   by_cases ha : ahd l[i].f0 = true
   ·rw [if_pos ha]
    refine Ev.step (fun k => ?_) (ih (i + 1) (c + 1) (by omega) (by omega))
    simp (disch := omega) only [zAp.l0, if_pos, hg, fits_eq, ahead_eq, hf, ha, Option.bind_some, wrap_id]
    rfl
   ·rw [if_neg ha]
    refine Ev.step (fun k => ?_) (ih (i + 1) c (by omega) (by omega))
    simp (disch := omega) only [zAp.l0, if_pos, hg, fits_eq, ahead_eq, hf, if_neg ha, Option.bind_some, wrap_id]
    rfl
  ·rw [if_neg hf]
   refine ev_now (fun k => ?_)
   simp (disch := omega) only [zAp.l0, if_pos, hg, fits_eq, if_neg hf, Option.bind_some]
def checkS (l : List POp) (n : Int) : Int := if 0 ≤ n ∧ n ≤ 6 then (if (endsS l).2 = 0 then chk n l 0 else (endsS l).2) else 2
theorem check_ev (l : List POp) (n : Int) : Ev (fun k => zAp.f k l n) (checkS l n) := by
 have key : Ev (fun k => zAp.j0 k l n (decide (n < 0 ∨ n > 6))) (checkS l n) := by
  unfold checkS
  by_cases h : 0 ≤ n ∧ n ≤ 6
  ·rw [if_pos h, decide_eq_false (by omega)]
   refine Ev.step (f := fun k => (zBD.f l).bind fun bt205 => (if bt205.2 = 0 then (zAp.l0 k n 0 l (l.length : Int) 0) else (some bt205.2))) (fun k => by simp only [zAp.j0, Bool.false_eq_true, if_false]) ?_
   refine ev_call (a := endsS l) rfl ?_
   by_cases he : (endsS l).2 = 0
   ·simp only [if_pos he]
    exact check_loop l (by have := (endsS_ok he).2.1; omega) n l.length 0 0 (by omega) (by omega)
   ·simp only [if_neg he]
    exact Ev.now _
  ·rw [if_neg h, decide_eq_true (by omega)]
   exact ev_now (fun k => by simp only [zAp.j0, if_true])
 refine Ev.congr (fun k => ?_) key
 unfold zAp.f
 by_cases h : n < 0
 ·rw [if_pos h, decide_eq_true (.inl h)]
 ·rw [if_neg h]
  congr 1
  simp only [decide_eq_decide]
  omega
theorem fault_loop (l : List POp) (hl : l.length ≤ 1000000) (n : Int) (hn : 0 ≤ n ∧ n ≤ 6) (d : Nat) : ∀ (i c : Nat), i + d = l.length → c ≤ i → Ev (fun k => zAH.l0 k l n (c : Int) i) (chk n (l.drop i) c) := by
 induction d with
 | zero =>
  intro i c hi hc
  rw [List.drop_of_length_le (by omega)]
  refine ev_now (fun k => ?_)
  simp (disch := omega) only [zAH.l0, if_neg, chk]
  by_cases h : c > 6
  ·rw [if_pos h, if_pos (by omega)]
  ·rw [if_neg h, if_neg (by omega)]
 | succ d ih =>
  intro i c hi hc
  have hlt : i < l.length := by omega
  have hg : zAI l i = l[i] := getD_get _ _ _ hlt
  rw [List.drop_eq_getElem_cons hlt]
  unfold chk
  by_cases h8 : l[i].f0 < 8
  ·rw [if_neg (by unfold fit; rw [if_pos h8]; decide)]
   refine ev_now (fun k => ?_)
   simp (disch := omega) only [zAH.l0, if_pos, hg, if_pos h8]
   unfold fit
   rw [if_pos h8]
  obtain ⟨m, hm, hfm⟩ : ∃ m : Int, (m = if l[i].f0 = 13 then n - 1 else 0) ∧ fit n l[i] = if (0 ≤ l[i].f1 ∧ l[i].f1 ≤ m) then 0 else 2 := by
   refine ⟨_, rfl, ?_⟩
   unfold fit
   rw [if_neg h8]
   by_cases h13 : l[i].f0 = 13
   ·simp only [if_pos h13]
    by_cases c : l[i].f1 < 0 ∨ n ≤ l[i].f1
    ·rw [if_pos c, if_neg (by omega)]
    ·rw [if_neg c, if_pos (by omega)]
   ·simp only [if_neg h13]
    by_cases c : l[i].f1 = 0
    ·rw [if_pos c, if_pos (by omega)]
    ·rw [if_neg c, if_neg (by omega)]
  have h0 : ∀ k, zAH.l0 (k + 1) l n c i = zAH.j1 k l n c i m := by
   intro k
   rw [hm]
   by_cases h13 : l[i].f0 = 13
   ·simp (disch := omega) only [zAH.l0, if_pos, hg, if_neg h8, if_pos h13, wrap_id]
   ·simp (disch := omega) only [zAH.l0, if_pos, hg, if_neg h8, if_neg h13, wrap_id]
  by_cases hf : 0 ≤ l[i].f1 ∧ l[i].f1 ≤ m
  ·rw [if_pos hf] at hfm
   rw [if_pos hfm]
   by_cases ha : ahd l[i].f0 = true
   ·rw [if_pos ha]
    refine ev_steps 2 (fun k => ?_) (ih (i + 1) (c + 1) (by omega) (by omega))
    rw [h0 (k + 1)]
    simp (disch := omega) only [zAH.j1, if_pos, hg, in_eq, looksAhead_eq, ha, decide_eq_true hf, Option.bind_some, wrap_id]
    rfl
   ·rw [if_neg ha]
    refine ev_steps 2 (fun k => ?_) (ih (i + 1) c (by omega) (by omega))
    rw [h0 (k + 1)]
    simp (disch := omega) only [zAH.j1, if_pos, hg, in_eq, looksAhead_eq, if_neg ha, decide_eq_true hf, Option.bind_some, wrap_id]
    rfl
  ·rw [if_neg hf] at hfm
   rw [if_neg (by rw [hfm]; decide)]
   refine ev_nows 2 (fun k => ?_)
   rw [h0 (k + 1)]
   simp (disch := omega) only [zAH.j1, if_pos, hg, in_eq, decide_eq_false hf, Bool.false_eq_true, if_false, Option.bind_some, hfm]
theorem formulaFault_ev (l : List POp) (n : Int) : Ev (fun k => zAH.f k l n) (checkS l n) := by
 unfold zAH.f checkS
 refine ev_call (in_eq n 0 6) ?_
 by_cases h : 0 ≤ n ∧ n ≤ 6
 ·simp only [decide_eq_true h, if_true, if_pos h]
  refine ev_bind (endsOf_ev l) ?_
  by_cases he : (endsS l).2 = 0
  ·simp only [if_pos he]
   exact fault_loop l (by have := (endsS_ok he).2.1; omega) n h l.length 0 0 (by omega) (by omega)
  ·simp only [if_neg he]
   exact Ev.now _
 ·simp only [decide_eq_false h, Bool.false_eq_true, if_false, if_neg h]
  exact Ev.now _
theorem checkS_ok {l : List POp} {n : Int} (h : checkS l n = 0) : (0 ≤ n ∧ n ≤ 6) ∧ one l ∧ l.length ≤ 60 ∧ endsS l = ((List.range l.length).map (endAt l), 0) := by
 unfold checkS at h
 by_cases c : 0 ≤ n ∧ n ≤ 6
 ·rw [if_pos c] at h
  by_cases he : (endsS l).2 = 0
  ·exact ⟨c, endsS_ok he⟩
  ·rw [if_neg he] at h; exact absurd h he
 ·rw [if_neg c] at h; cases h
def aheadL : List POp → Nat → List Int
 | [], _ => []
 | o :: l, i => if ahd o.f0 then (i : Int) :: aheadL l (i + 1) else aheadL l (i + 1)
theorem aheadL_le : ∀ (l : List POp) (i : Nat), (aheadL l i).length ≤ l.length
 | [], _ => by simp [aheadL]
 | o :: l, i => by
  have := aheadL_le l (i + 1)
  unfold aheadL
  split <;> simp <;> omega
theorem ahead_loop (l : List POp) (hl : l.length ≤ 1000000) (d : Nat) : ∀ (i : Nat) (acc : List Int), i + d = l.length → acc.length ≤ i → Ev (fun k => zA2.l0 k acc l (l.length : Int) i) (acc ++ aheadL (l.drop i) i, 0) := by
 induction d with
 | zero =>
  intro i acc hi ha
  rw [List.drop_of_length_le (by omega)]
  exact ev_now (fun k => by simp (disch := omega) only [zA2.l0, if_neg, aheadL, List.append_nil])
 | succ d ih =>
  intro i acc hi ha
  have hlt : i < l.length := by omega
  have hg : zAI l i = l[i] := getD_get _ _ _ hlt
  rw [List.drop_eq_getElem_cons hlt]
  unfold aheadL
  by_cases h : ahd l[i].f0 = true
  ·rw [if_pos h]
   refine Ev.step (fun k => ?_) (ev_eq (ih (i + 1) (acc ++ [(i : Int)]) (by omega) (by simp; omega)) (by simp))
   simp (disch := omega) only [zA2.l0, if_pos, hg, ahead_eq, h, Option.bind_some, wrap_id]
   rfl
  ·rw [if_neg h]
   refine Ev.step (fun k => ?_) (ih (i + 1) acc (by omega) (by omega))
   simp (disch := omega) only [zA2.l0, if_pos, hg, ahead_eq, if_neg h, Option.bind_some, wrap_id]
   rfl
def aheadS (l : List POp) (n : Int) : List Int × Int := if checkS l n = 0 then (aheadL l 0, 0) else ([], checkS l n)
theorem ahead_ev (l : List POp) (n : Int) : Ev (fun k => zA2.f k l n) (aheadS l n) := by
 unfold zA2.f aheadS
 refine ev_bind (check_ev l n) ?_
 by_cases h : checkS l n = 0
 ·simp only [if_pos h]
  exact ahead_loop l (by have := (checkS_ok h).2.2.1; omega) l.length 0 [] (by omega) (by simp)
 ·simp only [if_neg h]
  exact Ev.now _
def cA : List POp → Nat
 | [] => 0
 | o :: l => (if ahd o.f0 then 1 else 0) + cA l
theorem aheadL_cA : ∀ (l : List POp) (i : Nat), (aheadL l i).length = cA l
 | [], _ => rfl
 | o :: l, i => by
  have := aheadL_cA l (i + 1)
  unfold aheadL cA
  by_cases h : ahd o.f0 = true
  ·rw [if_pos h, if_pos h, List.length_cons, this]; omega
  ·rw [if_neg h, if_neg h, this]; omega
theorem cA_append : ∀ (l m : List POp), cA (l ++ m) = cA l + cA m
 | [], m => by simp [cA]
 | o :: l, m => by rw [List.cons_append, cA, cA_append l m, cA]; omega
theorem cA_take (l : List POp) (i : Nat) (h : i < l.length) : cA (l.take (i + 1)) = cA (l.take i) + if ahd l[i].f0 then 1 else 0 := by
 rw [List.take_succ_eq_append_getElem h, cA_append]
 rfl
theorem chk_cA (n : Int) : ∀ (l : List POp) (c : Nat), chk n l c = 0 → c + cA l ≤ 6 ∧ ∀ o ∈ l, fit n o = 0
 | [], c, h => by
  unfold chk at h
  by_cases h6 : c > 6
  ·rw [if_pos h6] at h; cases h
  ·exact ⟨by simp [cA]; omega, by simp⟩
 | o :: l, c, h => by
  unfold chk at h
  by_cases hf : fit n o = 0
  ·rw [if_pos hf] at h
   obtain ⟨h1, h2⟩ := chk_cA n l _ h
   refine ⟨by unfold cA; omega, fun x hx => ?_⟩
   rcases List.mem_cons.1 hx with rfl | hx
   ·exact hf
   ·exact h2 x hx
  ·rw [if_neg hf] at h; exact absurd h hf
def trS (letter : List Bool) (claim : Int) : List POp → Nat → List Bool
 | [], _ => []
 | o :: l, c =>
  (if o.f0 = 13 then letter.getD o.f1.toNat false
   else if o.f0 = 11 then true
   else if o.f0 = 12 then false
   else if o.f0 = 10 then !((trS letter claim l (c + if ahd o.f0 then 1 else 0)).getD 0 false)
   else if o.f0 = 8 then ((trS letter claim l (c + if ahd o.f0 then 1 else 0)).getD 0 false && (trS letter claim l (c + if ahd o.f0 then 1 else 0)).getD (endAt l 0).toNat false)
   else if o.f0 = 9 then ((trS letter claim l (c + if ahd o.f0 then 1 else 0)).getD 0 false || (trS letter claim l (c + if ahd o.f0 then 1 else 0)).getD (endAt l 0).toNat false)
   else decide (claim / 2 ^ c % 2 = 1)) :: trS letter claim l (c + if ahd o.f0 then 1 else 0)
theorem trS_len (letter : List Bool) (claim : Int) : ∀ (l : List POp) (c : Nat), (trS letter claim l c).length = l.length
 | [], _ => rfl
 | o :: l, c => by rw [trS, List.length_cons, trS_len letter claim l, List.length_cons]
def truthsS (l : List POp) (letter : List Bool) (claim : Int) : List Bool × Int :=
 if checkS l letter.length = 0 then (if 0 ≤ claim ∧ claim < 2 ^ cA l then (trS letter claim l 0, 0) else ([], 2)) else ([], checkS l letter.length)
theorem checkS_fit {l : List POp} {n : Int} (h : checkS l n = 0) : cA l ≤ 6 ∧ ∀ o ∈ l, fit n o = 0 := by
 unfold checkS at h
 by_cases c : 0 ≤ n ∧ n ≤ 6
 ·rw [if_pos c] at h
  by_cases he : (endsS l).2 = 0
  ·rw [if_pos he] at h
   have := chk_cA n l 0 h
   simpa using this
  ·rw [if_neg he] at h; exact absurd h he
 ·rw [if_neg c] at h; cases h
theorem second_at {l : List POp} (h1 : one l) (i : Nat) (hi : i < l.length) (ha : arIs l[i] 2) : i + 1 < l.length ∧ endAt l (i + 1) = (i : Int) + 1 + endAt (l.drop (i + 1)) 0 ∧ endAt l (i + 1) < (l.length : Int) ∧ 0 ≤ endAt (l.drop (i + 1)) 0 := by
 obtain ⟨r, hr⟩ := one_places l h1 i hi
 rw [List.drop_eq_getElem_cons hi, scan_cons, ha] at hr
 simp only [if_true] at hr
 obtain ⟨p, q, hpq, hp, hq, _⟩ := scan_split (n := 1) hr
 obtain ⟨p2, q2, hpq2, hp2, hq2, _⟩ := scan_split (n := 0) hq
 have h1 := one_pos hp
 have h2 := one_pos hp2
 have hlen : l.length - (i + 1) = p.length + (p2.length + q2.length) := by
  have := congrArg List.length hpq
  rw [List.length_drop, List.length_append, hpq2, List.length_append] at this
  exact this
 have e1 : endAt l (i + 1) = ((i + 1 + p.length : Nat) : Int) := by
  unfold endAt
  rw [hpq, scan_append p 1 [] q hp]
  simp only [List.nil_append, hpq2, List.length_append]
  omega
 have e2 : endAt (l.drop (i + 1)) 0 = (p.length : Int) := by
  unfold endAt
  rw [List.drop_zero, hpq, scan_append p 1 [] q hp]
  simp only [List.nil_append, List.length_append]
  omega
 rw [e1, e2]
 omega
theorem first_at {l : List POp} (h1 : one l) (i : Nat) (hi : i < l.length) (n : Nat) (ha : arIs l[i] (n + 1)) : i + 1 < l.length := by
 obtain ⟨r, hr⟩ := one_places l h1 i hi
 rw [List.drop_eq_getElem_cons hi, scan_cons, ha] at hr
 simp only [if_true] at hr
 rcases Nat.lt_or_ge (i + 1) l.length with h | h
 ·exact h
 ·rw [List.drop_of_length_le h] at hr
  have e : (0 + (((n + 1 : Nat) : Int), (0 : Int)).1.toNat) = n + 1 := by simp
  rw [e] at hr
  cases hr
end Go.Proofs.YtgdijfhdpgdanaaGreatDoor.Pure
namespace Go.Proofs.YtgdijfhdpgdanaaGreatDoor.Base
open Go.RowKit Go.Proofs.YtgdijfhdpgdanaaGreatDoorW.PrintWords Go.Proofs.YtgdijfhdpgdanaaGreatDoorW.PrintLast Go.Proofs.YtgdijfhdpgdanaaGreatDoorW.PrintMore
theorem ev_succ {α : Type} {g : Nat → Option α} {r : α} (h : Ev (fun k => g (k + 1)) r) : Ev g r := Ev.step (f := fun k => g (k + 1)) (fun _ => rfl) h
end Go.Proofs.YtgdijfhdpgdanaaGreatDoor.Base
