import Derived.Test.YtgdijfhdpgdanaaGreatDoorKProductBehindsG44
import Derived.Test.YtgdijfhdpgdanaaGreatDoorKProductBehindsG39
namespace Go.Proofs.YtgdijfhdpgdanaaGreatDoor.Pure
open Go.RowKit Go.Proofs.YtgdijfhdpgdanaaGreatDoor Go.Proofs.YtgdijfhdpgdanaaGreatDoor.B Go.Proofs.YtgdijfhdpgdanaaGreatDoor.Base Go.Proofs.YtgdijfhdpgdanaaGreatDoorW.PrintWords Go.Proofs.YtgdijfhdpgdanaaGreatDoorW.PrintLast Go.Proofs.YtgdijfhdpgdanaaGreatDoorW.PrintMore
set_option linter.unusedVariables false
set_option linter.unusedSimpArgs false
theorem pushS_app (n : Int) (s t : List Int) : pushS n (s ++ t) = (match pushS n t with | .error c => .error c | .ok u => .ok (s ++ u)) := by
 unfold pushS
 split <;> simp
theorem dropLast_app (s t : List Int) (h : 0 < t.length) : (s ++ t).dropLast = s ++ t.dropLast := List.dropLast_append_of_ne_nil (by intro e; rw [e] at h; simp at h)
theorem getLastD_app (s t : List Int) (h : 0 < t.length) : (s ++ t).getLastD 0 = t.getLastD 0 := by
 have hne : t ≠ [] := by intro e; rw [e] at h; simp at h
 rw [List.getLastD_eq_getLast?, List.getLastD_eq_getLast?, List.getLast?_append]
 cases h2 : t.getLast? with
 | none => exact absurd (List.getLast?_eq_none_iff.1 h2) hne
 | some x => rfl
theorem stepS_app (env : List Int) (o : POp) (s t : List Int) (h10 : o.f0 = 10 → 1 ≤ t.length) (h2 : ¬ (o.f0 = 1 ∨ o.f0 = 2 ∨ o.f0 = 11 ∨ o.f0 = 12 ∨ o.f0 = 10) → 2 ≤ t.length) : stepS env o (s ++ t) = (match stepS env o t with | .error c => .error c | .ok u => .ok (s ++ u)) := by
 unfold stepS
 by_cases k1 : o.f0 = 1
 ·simp only [if_pos k1]; exact pushS_app _ _ _
 by_cases k2 : o.f0 = 2
 ·simp only [if_neg k1, if_pos k2]; exact pushS_app _ _ _
 by_cases k3 : o.f0 = 11
 ·simp only [if_neg k1, if_neg k2, if_pos k3]; exact pushS_app _ _ _
 by_cases k4 : o.f0 = 12
 ·simp only [if_neg k1, if_neg k2, if_neg k3, if_pos k4]; exact pushS_app _ _ _
 by_cases k5 : o.f0 = 10
 ·simp only [if_neg k1, if_neg k2, if_neg k3, if_neg k4, if_pos k5]
  rw [dropLast_app _ _ (h10 k5), getLastD_app _ _ (h10 k5)]
  exact pushS_app _ _ _
 ·simp only [if_neg k1, if_neg k2, if_neg k3, if_neg k4, if_neg k5]
  have h := h2 (by omega)
  have hd : 0 < t.dropLast.length := by rw [List.length_dropLast]; omega
  rw [dropLast_app _ _ (by omega), getLastD_app _ _ (by omega), dropLast_app _ _ hd, getLastD_app _ _ hd]
  exact pushS_app _ _ _
theorem run_app (env : List Int) {n : Int} (r : List POp) : ∀ (l : List POp) (m : Nat), (∀ o ∈ l, fitE n o = 0) → scan l m = .ok [] → runS env (l ++ r) = (match runS env r with | .error c => .error c | .ok s => match runS env l with | .error c => .error c | .ok t => .ok (s ++ t))
 | [], m, hf, hs => by
  show runS env r = _
  cases runS env r <;> simp [runS]
 | o :: l, 0, hf, hs => by rw [scan_zero] at hs; cases hs
 | o :: l, m + 1, hf, hs => by
  rw [scan_cons] at hs
  split at hs
  ·rename_i hp
   have ih := run_app env r l _ (fun x hx => hf x (List.mem_cons_of_mem _ hx)) hs
   rw [List.cons_append, runS, ih]
   cases hr : runS env r with
   | error c => rfl
   | ok s =>
    cases hl : runS env l with
    | error c => simp [runS, hl]
    | ok t =>
     obtain ⟨k1, k2, k3⟩ := parts_of_kind hp (hf o (by simp))
     obtain ⟨a, _⟩ := run_len env l _ t (fun x hx => hf x (List.mem_cons_of_mem _ hx)) hs hl
     rw [k3] at a
     simp only [runS, hl]
     refine stepS_app env o s t (fun e => ?_) (fun e => ?_)
     ·rw [if_neg (by omega), if_pos e] at a; omega
     ·rw [if_neg (by omega), if_neg (by omega)] at a; omega
  ·cases hs
def res (n : Int) : Int × Int := if -1000000 ≤ n ∧ n ≤ 1000000 then (n, 0) else (0, 8)
def wOf (x : Except Int (List Int)) : Int × Int := match x with | .error c => (0, c) | .ok stk => (stk.getLastD 0, 0)
def workedS (env : List Int) (l : List POp) : Int × Int := wOf (runS env l)
theorem w_push (n : Int) (s : List Int) : wOf (pushS n s) = res n := by
 unfold pushS res
 by_cases c : n < -1000000 ∨ 1000000 < n
 ·rw [if_pos c, if_neg (by omega)]; rfl
 ·rw [if_neg c, if_pos (by omega)]
  show ((s ++ [n]).getLastD 0, (0 : Int)) = _
  simp
theorem j2_ev (n : Int) (b : Bool) : Ev (fun k => zAD.j2 k n b) (res (if b = true then 1 else n)) := by
 refine ev_succ ?_
 cases b
 ·simp only [zAD.j2, Bool.false_eq_true, if_false]
  refine ev_call (inE_eq _ _ _) ?_
  unfold res
  by_cases c : -1000000 ≤ n ∧ n ≤ 1000000
  ·rw [decide_eq_true c, if_pos c]; exact Ev.now _
  ·rw [decide_eq_false c, if_neg c]; exact Ev.now _
 ·simp only [zAD.j2, if_true]
  refine ev_call (inE_eq _ _ _) ?_
  exact Ev.now _
theorem rdT_zero (o : POp) (l : List POp) : zAI (o :: l) 0 = o := rfl
theorem split_of {l : List POp} (h : one l) (hl : l.length ≤ 60) : splitS l = (partsL l, 0) := by unfold splitS; rw [endsS_of_one h hl]; rfl
theorem fin0 (o : POp) (env : List Int) (n : Int) (hf : fitE n o = 0) (hn : n = env.length) (a : arIs o 0) : Ev (fun k => zAD.l1 k [o] env [] [] (-1)) (wOf (stepS env o [])) := by
 obtain ⟨k1, k2, k3⟩ := parts_of_kind (by have : partsS o.f0 = (((0 : Nat) : Int), 0) := a; rw [this]) hf
 have hk : (partsS o.f0).1.toNat = 0 := by have : partsS o.f0 = (((0 : Nat) : Int), 0) := a; rw [this]; rfl
 rw [hk] at k3
 have hc : o.f0 = 1 ∨ o.f0 = 2 ∨ o.f0 = 11 ∨ o.f0 = 12 := by
  by_cases c : o.f0 = 1 ∨ o.f0 = 2 ∨ o.f0 = 11 ∨ o.f0 = 12
  ·exact c
  ·rw [if_neg c] at k3
   split at k3 <;> omega
 have hneg : ¬ ((-1 : Int) ≥ 0) := by omega
 have hpos : (0 : Int) < (([o] : List POp).length : Int) := by simp
 refine ev_succ ?_
 unfold stepS
 rcases hc with e | e | e | e
 ·simp only [zAD.l1, ↓reduceIte, hneg, hpos, rdT_zero, e, Int.reduceEq, w_push]
  exact j2_ev _ false
 ·have hv : 0 ≤ o.f1 ∧ o.f1 < (env.length : Int) := by
   unfold fitE at hf
   rw [if_neg (by omega), if_neg (by omega), if_pos e] at hf
   split at hf
   ·omega
   ·cases hf
  simp only [zAD.l1, ↓reduceIte, hneg, hpos, rdT_zero, e, Int.reduceEq, w_push, hv.1, hv.2]
  exact j2_ev _ false
 ·simp only [zAD.l1, ↓reduceIte, hneg, hpos, rdT_zero, e, Int.reduceEq, w_push]
  exact j2_ev 0 true
 ·simp only [zAD.l1, ↓reduceIte, hneg, hpos, rdT_zero, e, Int.reduceEq, w_push]
  exact j2_ev 0 false
theorem un_kind {o : POp} {n : Int} (hf : fitE n o = 0) (a : arIs o 1) : o.f0 = 10 := by
 have ha : partsS o.f0 = (((1 : Nat) : Int), 0) := a
 obtain ⟨k1, k2, k3⟩ := parts_of_kind (by rw [ha]) hf
 rw [ha] at k3
 by_cases c : o.f0 = 1 ∨ o.f0 = 2 ∨ o.f0 = 11 ∨ o.f0 = 12
 ·rw [if_pos c] at k3; cases k3
 ·rw [if_neg c] at k3
  by_cases d : o.f0 = 10
  ·exact d
  ·rw [if_neg d] at k3; cases k3
theorem bin_kind {o : POp} {n : Int} (hf : fitE n o = 0) (a : arIs o 2) : 3 ≤ o.f0 ∧ o.f0 ≤ 9 := by
 have ha : partsS o.f0 = (((2 : Nat) : Int), 0) := a
 obtain ⟨k1, k2, k3⟩ := parts_of_kind (by rw [ha]) hf
 rw [ha] at k3
 by_cases c : o.f0 = 1 ∨ o.f0 = 2 ∨ o.f0 = 11 ∨ o.f0 = 12
 ·rw [if_pos c] at k3; cases k3
 ·rw [if_neg c] at k3
  by_cases d : o.f0 = 10
  ·rw [if_pos d] at k3; cases k3
  ·omega
theorem fin1 (o : POp) (p : List POp) (env : List Int) (ps : List (List POp)) (x : Int) (hk : o.f0 = 10) (hx : x = 0 ∨ x = 1) : Ev (fun k => zAD.l1 k (o :: p) env ps [x] (-1)) (wOf (stepS env o [x])) := by
 have hneg : ¬ ((-1 : Int) ≥ 0) := by omega
 have hpos : (0 : Int) < ((o :: p).length : Int) := by rw [List.length_cons]; omega
 have h1 : (0 : Int) < (([x] : List Int).length : Int) := by simp
 have hr : rd [x] 0 = x := rfl
 refine ev_succ ?_
 unfold stepS
 simp only [zAD.l1, ↓reduceIte, hneg, hpos, rdT_zero, hk, Int.reduceEq, w_push, h1, hr]
 rcases hx with rfl | rfl
 ·exact j2_ev 0 true
 ·exact j2_ev 0 false
theorem and01 {a b : Int} (ha : a = 0 ∨ a = 1) (hb : b = 0 ∨ b = 1) : Go.bits .and .i64 a b = (if a = 1 ∧ b = 1 then 1 else 0) ∧ Go.bits .or .i64 a b = (if a = 1 ∨ b = 1 then 1 else 0) := by
 rcases ha with rfl | rfl <;> rcases hb with rfl | rfl <;> decide +kernel
theorem fin2 (o : POp) (p : List POp) (env : List Int) (ps : List (List POp)) (a b : Int) (hk : 3 ≤ o.f0 ∧ o.f0 ≤ 9) (ha : -1000000 ≤ a ∧ a ≤ 1000000) (hb : -1000000 ≤ b ∧ b ≤ 1000000) (h01 : 8 ≤ o.f0 → (a = 0 ∨ a = 1) ∧ (b = 0 ∨ b = 1)) :
  Ev (fun k => zAD.l1 k (o :: p) env ps [a, b] (-1)) (wOf (stepS env o [b, a])) := by
 have hneg : ¬ ((-1 : Int) ≥ 0) := by omega
 have hpos : (0 : Int) < ((o :: p).length : Int) := by rw [List.length_cons]; omega
 have h1 : (0 : Int) < (([a, b] : List Int).length : Int) := by simp
 have h2 : (1 : Int) < (([a, b] : List Int).length : Int) := by simp
 have hr : rd [a, b] 0 = a := rfl
 have hr1 : rd [a, b] 1 = b := rfl
 have hm : (a * b).natAbs ≤ 1000000 * 1000000 := by rw [Int.natAbs_mul]; exact Nat.mul_le_mul (by omega) (by omega)
 have e1 : wrap64 (a + b) = a + b := wrap_id (by omega) (by omega)
 have e2 : wrap64 (a - b) = a - b := wrap_id (by omega) (by omega)
 have e3 : wrap64 (a * b) = a * b := wrap_id (by omega) (by omega)
 have hs : stepS env o [b, a] = pushS (doVal o.f0 a b) [] := by
  unfold stepS
  rw [if_neg (by omega), if_neg (by omega), if_neg (by omega), if_neg (by omega), if_neg (by omega)]
  rfl
 have ff : ((false : Bool) = true) = False := by simp
 rw [hs, w_push]
 refine ev_succ ?_
 have : o.f0 = 3 ∨ o.f0 = 4 ∨ o.f0 = 5 ∨ o.f0 = 6 ∨ o.f0 = 7 ∨ o.f0 = 8 ∨ o.f0 = 9 := by omega
 rcases this with e | e | e | e | e | e | e
 ·simp only [zAD.l1, ↓reduceIte, hneg, hpos, rdT_zero, e, Int.reduceEq, h1, h2, hr, hr1, e1, doVal]
  exact j2_ev _ false
 ·simp only [zAD.l1, ↓reduceIte, hneg, hpos, rdT_zero, e, Int.reduceEq, h1, h2, hr, hr1, e2, doVal]
  exact j2_ev _ false
 ·simp only [zAD.l1, ↓reduceIte, hneg, hpos, rdT_zero, e, Int.reduceEq, h1, h2, hr, hr1, e3, doVal]
  exact j2_ev _ false
 ·simp only [zAD.l1, ↓reduceIte, hneg, hpos, rdT_zero, e, Int.reduceEq, h1, h2, hr, hr1, doVal]
  refine ev_eq (j2_ev 0 (a == b)) ?_
  by_cases c : a = b
  ·rw [if_pos c, if_pos (beq_iff_eq.2 c)]
  ·rw [if_neg c, if_neg (by simpa using c)]
 ·simp only [zAD.l1, ↓reduceIte, hneg, hpos, rdT_zero, e, Int.reduceEq, h1, h2, hr, hr1, doVal]
  refine ev_eq (j2_ev 0 (decide (a < b))) ?_
  by_cases c : a < b
  ·rw [if_pos c, if_pos (decide_eq_true c)]
  ·rw [if_neg c, if_neg (by simpa using c)]
 ·obtain ⟨qa, qb⟩ := h01 (by omega)
  simp only [zAD.l1, ↓reduceIte, hneg, hpos, rdT_zero, e, Int.reduceEq, h1, h2, hr, hr1, doVal, (and01 qa qb).1]
  rcases qa with rfl | rfl
  ·simp only [↓reduceIte, Int.reduceEq, false_and]
   exact j2_ev 0 false
  ·rcases qb with rfl | rfl
   ·exact j2_ev 0 false
   ·exact j2_ev 0 true
 ·obtain ⟨qa, qb⟩ := h01 (by omega)
  simp only [zAD.l1, ↓reduceIte, hneg, hpos, rdT_zero, e, Int.reduceEq, h1, h2, hr, hr1, doVal, (and01 qa qb).2]
  rcases qa with rfl | rfl
  ·rcases qb with rfl | rfl
   ·exact j2_ev 0 false
   ·exact j2_ev 0 true
  ·simp only [↓reduceIte, true_or]
   exact j2_ev 0 true
def truthy (env : List Int) (l : List POp) : Prop := mkH l = true → ∀ stk, runS env l = .ok stk → stk.getLastD 0 = 0 ∨ stk.getLastD 0 = 1
theorem run_one (env : List Int) {n : Int} {l : List POp} (h1 : one l) (hf : ∀ o ∈ l, fitE n o = 0) {stk : List Int} (h : runS env l = .ok stk) : ∃ x, stk = [x] ∧ -1000000 ≤ x ∧ x ≤ 1000000 := by
 obtain ⟨a, b⟩ := run_len env l 1 stk hf h1 h
 match stk, a with
 | [x], _ => exact ⟨x, rfl, b x (by simp)⟩
theorem run_err_ne (env : List Int) : ∀ (l : List POp) (c : Int), runS env l = .error c → c ≠ 0
 | [], c, h => by cases h
 | o :: l, c, h => by
  unfold runS at h
  split at h
  ·rename_i c' hr
   cases h
   exact run_err_ne env l _ hr
  ·rename_i s hr
   obtain ⟨n, s', e, _⟩ := stepS_cases env o s
   rw [e] at h
   rw [pushS_err h]
   decide
theorem worked_ev (env : List Int) (n : Int) (hn : n = env.length) : ∀ l, one l → (∀ o ∈ l, fitE n o = 0) → typB l = true → l.length ≤ 60 → Ev (fun k => zAD.f k l env) (workedS env l) ∧ truthy env l := by
 refine one_ind ?_ ?_ ?_
 ·intro o a hf ht hl
  refine ⟨?_, ?_⟩
  ·refine ev_succ ?_
   simp only [zAD.f]
   refine ev_bind (ev_eq (splitOf_ev [o]) (split_of (one_leaf a) (by simp))) ?_
   rw [partsL_leaf a]
   refine ev_succ ?_
   have h0 : ¬ ((0 : Int) < (([] : List (List POp)).length : Int)) := by simp
   have w0 : wrap64 ((([] : List (List POp)).length : Int) - 1) = -1 := by simp [wrap64]
   simp only [zAD.l0, ↓reduceIte, h0, w0]
   exact fin0 o env n (hf o (by simp)) hn a
  ·intro hm stk hs
   have hk : decide (6 ≤ o.f0 ∧ o.f0 ≤ 12) = true := hm
   have hk := of_decide_eq_true hk
   have hfo := hf o (by simp)
   have ha : partsS o.f0 = (((0 : Nat) : Int), 0) := a
   obtain ⟨k1, k2, k3⟩ := parts_of_kind (by rw [ha]) hfo
   rw [ha] at k3
   have hs : stepS env o [] = .ok stk := hs
   by_cases c : o.f0 = 11
   ·unfold stepS at hs
    rw [if_neg (by omega), if_neg (by omega), if_pos c] at hs
    obtain ⟨rfl, _⟩ := pushS_ok hs
    exact .inr rfl
   ·have c2 : o.f0 = 12 := by
     by_cases d : o.f0 = 1 ∨ o.f0 = 2 ∨ o.f0 = 11 ∨ o.f0 = 12
     ·omega
     ·rw [if_neg d] at k3
      split at k3 <;> cases k3
    unfold stepS at hs
    rw [if_neg (by omega), if_neg (by omega), if_neg c, if_pos c2] at hs
    obtain ⟨rfl, _⟩ := pushS_ok hs
    exact .inl rfl
 ·intro o p a hp ih hf ht hl
  have hfo := hf o (by simp)
  have hfp : ∀ x ∈ p, fitE n x = 0 := fun x hx => hf x (List.mem_cons_of_mem _ hx)
  have hk := un_kind hfo a
  rw [typB_un a hp, fitsAt_zero, partsL_un a hp, Bool.and_eq_true] at ht
  obtain ⟨ht1, ht2⟩ := ht
  have hmk : mkH p = true := by
   have : (mkH p == tk o.f0) = true := by simpa using ht1
   rw [beq_iff_eq.1 this]
   exact decide_eq_true (by omega)
  obtain ⟨ih1, ih2⟩ := ih hfp ht2 (by simp at hl; omega)
  have hrun : runS env (o :: p) = (match runS env p with | .error c => .error c | .ok stk => stepS env o stk) := rfl
  refine ⟨?_, ?_⟩
  ·refine ev_succ ?_
   simp only [zAD.f]
   refine ev_bind (ev_eq (splitOf_ev (o :: p)) (split_of (one_un a hp) hl)) ?_
   rw [partsL_un a hp]
   have h0 : (0 : Int) < (([p] : List (List POp)).length : Int) := by simp
   have h1 : ¬ ((1 : Int) < (([p] : List (List POp)).length : Int)) := by simp
   have w0 : wrap64 (0 + 1) = 1 := by simp [wrap64]
   have w1 : wrap64 ((([p] : List (List POp)).length : Int) - 1) = 0 := by simp [wrap64]
   have w2 : wrap64 (0 - 1) = -1 := by simp [wrap64]
   have l0 : ([] : List Int).length < 17592186044416 := by decide
   have l1 : (0 : Int) < ((([] : List Int) ++ [0]).length : Int) := by decide
   have g0 : (0 : Int) ≥ 0 := by decide
   have gp : zBB [p] 0 = p := rfl
   refine ev_succ (ev_succ ?_)
   simp only [zAD.l0, ↓reduceIte, h0, h1, w0, w1, l0]
   refine ev_succ ?_
   simp only [zAD.l1, ↓reduceIte, g0, h0, gp, Int.le_refl]
   refine ev_bind ih1 ?_
   unfold workedS
   rw [hrun]
   cases hr : runS env p with
   | error c =>
    have hc : c ≠ 0 := run_err_ne env p c hr
    simp only [wOf, hc, ↓reduceIte]
    exact Ev.now _
   | ok stk =>
    obtain ⟨x, rfl, hx⟩ := run_one env hp hfp hr
    have hx01 := ih2 hmk _ hr
    have hx01 : x = 0 ∨ x = 1 := hx01
    simp only [wOf, ↓reduceIte, l1, w2]
    exact fin1 o p env [p] x hk hx01
  ·intro hm stk hs
   rw [hrun] at hs
   cases hr : runS env p with
   | error c => rw [hr] at hs; cases hs
   | ok s =>
    rw [hr] at hs
    obtain ⟨x, rfl, hx⟩ := run_one env hp hfp hr
    have hx01 : x = 0 ∨ x = 1 := ih2 hmk _ hr
    have hs : stepS env o [x] = .ok stk := hs
    unfold stepS at hs
    rw [if_neg (by omega), if_neg (by omega), if_neg (by omega), if_neg (by omega), if_pos hk] at hs
    obtain ⟨rfl, _⟩ := pushS_ok hs
    show (1 - x = 0 ∨ 1 - x = 1)
    omega
 ·intro o p q a hp hq ihp ihq hf ht hl
  have hfo := hf o (by simp)
  have hfp : ∀ x ∈ p, fitE n x = 0 := fun x hx => hf x (by simp [hx])
  have hfq : ∀ x ∈ q, fitE n x = 0 := fun x hx => hf x (by simp [hx])
  have hk := bin_kind hfo a
  rw [typB_bin a hp hq, fitsAt_zero, partsL_bin a hp hq, Bool.and_eq_true, Bool.and_eq_true] at ht
  obtain ⟨ht1, ht2, ht3⟩ := ht
  have hmk : 8 ≤ o.f0 → mkH p = true ∧ mkH q = true := by
   intro h8
   have : (mkH p == tk o.f0) = true ∧ (mkH q == tk o.f0) = true := by simpa using ht1
   rw [beq_iff_eq.1 this.1, beq_iff_eq.1 this.2]
   exact ⟨decide_eq_true (by omega), decide_eq_true (by omega)⟩
  simp at hl
  obtain ⟨ihp1, ihp2⟩ := ihp hfp ht2 (by omega)
  obtain ⟨ihq1, ihq2⟩ := ihq hfq ht3 (by omega)
  have hrun : runS env (o :: (p ++ q)) = (match runS env q with | .error c => .error c | .ok s => match runS env p with | .error c => .error c | .ok t => stepS env o (s ++ t)) := by
   rw [runS, run_app env q p 1 hfp hp]
   cases runS env q with
   | error c => rfl
   | ok s => cases runS env p <;> rfl
  refine ⟨?_, ?_⟩
  ·refine ev_succ ?_
   simp only [zAD.f]
   refine ev_bind (ev_eq (splitOf_ev (o :: (p ++ q))) (split_of (one_bin a hp hq) (by simp; omega))) ?_
   rw [partsL_bin a hp hq]
   have h0 : (0 : Int) < (([p, q] : List (List POp)).length : Int) := by simp
   have h1 : (1 : Int) < (([p, q] : List (List POp)).length : Int) := by simp
   have h2 : ¬ ((2 : Int) < (([p, q] : List (List POp)).length : Int)) := by simp
   have w0 : wrap64 (0 + 1) = 1 := by simp [wrap64]
   have w0' : wrap64 (1 + 1) = 2 := by simp [wrap64]
   have w1 : wrap64 ((([p, q] : List (List POp)).length : Int) - 1) = 1 := by simp [wrap64]
   have w2 : wrap64 (0 - 1) = -1 := by simp [wrap64]
   have w3 : wrap64 (1 - 1) = 0 := by simp [wrap64]
   have l0 : ([] : List Int).length < 17592186044416 := by decide
   have l0' : (([] : List Int) ++ [0]).length < 17592186044416 := by decide
   have l1 : (1 : Int) < ((([] : List Int) ++ [0] ++ [0]).length : Int) := by decide
   have l2 : ∀ b : Int, (0 : Int) < (((([] : List Int) ++ [0] ++ [0]).set (1 : Int).toNat b).length : Int) := fun b => by simp
   have g0 : (0 : Int) ≥ 0 := by decide
   have g1 : (1 : Int) ≥ 0 := by decide
   have g1' : (0 : Int) ≤ 1 := by decide
   have gp : zBB [p, q] 0 = p := rfl
   have gq : zBB [p, q] 1 = q := rfl
   refine ev_succ (ev_succ (ev_succ ?_))
   simp only [zAD.l0, ↓reduceIte, h0, h1, h2, w0, w0', w1, l0, l0']
   refine ev_succ ?_
   simp only [zAD.l1, ↓reduceIte, g1, g1', h1, gq]
   refine ev_bind ihq1 ?_
   unfold workedS
   rw [hrun]
   cases hrq : runS env q with
   | error c =>
    have hc : c ≠ 0 := run_err_ne env q c hrq
    simp only [wOf, hc, ↓reduceIte]
    exact Ev.now _
   | ok s =>
    obtain ⟨b, rfl, hb⟩ := run_one env hq hfq hrq
    simp only [wOf, ↓reduceIte, l1, w3]
    refine ev_succ ?_
    simp only [zAD.l1, ↓reduceIte, g0, h0, gp, Int.le_refl]
    refine ev_bind ihp1 ?_
    unfold workedS
    cases hrp : runS env p with
    | error c =>
     have hc : c ≠ 0 := run_err_ne env p c hrp
     simp only [wOf, hc, ↓reduceIte]
     exact Ev.now _
    | ok t =>
     obtain ⟨x, rfl, hx⟩ := run_one env hp hfp hrp
     simp only [wOf, ↓reduceIte, l2, w2]
     exact fin2 o (p ++ q) env [p, q] x b hk hx hb (fun h8 => ⟨ihp2 (hmk h8).1 _ hrp, ihq2 (hmk h8).2 _ hrq⟩)
  ·intro hm stk hs
   rw [hrun] at hs
   cases hrq : runS env q with
   | error c => rw [hrq] at hs; cases hs
   | ok s =>
    cases hrp : runS env p with
    | error c => rw [hrq, hrp] at hs; cases hs
    | ok t =>
     rw [hrq, hrp] at hs
     obtain ⟨b, rfl, hb⟩ := run_one env hq hfq hrq
     obtain ⟨x, rfl, hx⟩ := run_one env hp hfp hrp
     have hs : stepS env o [b, x] = .ok stk := hs
     have hk6 : decide (6 ≤ o.f0 ∧ o.f0 ≤ 12) = true := hm
     have hk6 := of_decide_eq_true hk6
     unfold stepS at hs
     rw [if_neg (by omega), if_neg (by omega), if_neg (by omega), if_neg (by omega), if_neg (by omega)] at hs
     obtain ⟨rfl, _⟩ := pushS_ok hs
     show (doVal o.f0 x b = 0 ∨ doVal o.f0 x b = 1)
     unfold doVal
     rw [if_neg (by omega), if_neg (by omega), if_neg (by omega)]
     by_cases c6 : o.f0 = 6
     ·rw [if_pos c6]; split <;> simp
     rw [if_neg c6]
     by_cases c7 : o.f0 = 7
     ·rw [if_pos c7]; split <;> simp
     rw [if_neg c7]
     have q1 : x = 0 ∨ x = 1 := ihp2 (hmk (by omega)).1 _ hrp
     have q2 : b = 0 ∨ b = 1 := ihq2 (hmk (by omega)).2 _ hrq
     rw [(and01 q1 q2).1, (and01 q1 q2).2]
     split <;> split <;> simp
theorem evaluated_loop (l : List POp) (env : List Int) (hm : env.length ≤ 6) (h : Ev (fun k => zAD.f k l env) (workedS env l)) (d : Nat) : ∀ i : Nat, i + d = env.length →
  Ev (fun k => zAW.l0 k l env i) (if (env.drop i).all inR = true then workedS env l else (0, 2)) := by
 induction d with
 | zero =>
  intro i hi
  rw [List.drop_of_length_le (by omega)]
  refine ev_succ ?_
  simp (disch := omega) only [zAW.l0, if_neg, List.all_nil, if_true]
  exact ev_bind h (Ev.now _)
 | succ d ih =>
  intro i hi
  have hlt : i < env.length := by omega
  rw [List.drop_eq_getElem_cons hlt, List.all_cons]
  refine ev_succ ?_
  have c1 : (i : Int) < env.length := by omega
  have c2 : (0 : Int) ≤ (i : Int) := by omega
  have w1 : wrap64 ((i : Int) + 1) = (i : Int) + 1 := wrap_id (by omega) (by omega)
  simp only [zAW.l0, ↓reduceIte, c1, c2, w1, rd_get env i hlt]
  refine ev_call (inE_eq _ _ _) ?_
  by_cases c : -1000000 ≤ env[i] ∧ env[i] ≤ 1000000
  ·have hi : inR env[i] = true := decide_eq_true c
   rw [decide_eq_true c, hi, Bool.true_and]
   simp only [↓reduceIte]
   exact ih (i + 1) (by omega)
  ·have hi : inR env[i] = false := decide_eq_false c
   rw [decide_eq_false c, hi, Bool.false_and]
   exact Ev.now _
theorem evaluated_ev (l : List POp) (env : List Int) (hm : env.length ≤ 9223372036854775807) : Ev (fun k => zAW.f k l env) (evalS l env) := by
 unfold zAW.f evalS
 refine ev_bind (exprChecked_ev l env.length ⟨by omega, by omega⟩) ?_
 by_cases h : (exprS l env.length).2 = 0
 ·simp only [if_pos h]
  obtain ⟨⟨e0, e6⟩, h1, h60, hf, ht, _⟩ := exprS_ok h
  have hw := (worked_ev env env.length rfl l h1 hf ht h60).1
  have := evaluated_loop l env (by omega) hw env.length 0 (by omega)
  exact this
 ·simp only [if_neg h]
  exact Ev.now _
def yesS (env : List Int) (p : List POp) : Bool := if (evalS p env).2 = 0 then (evalS p env).1 == 1 else false
def letterS (vs : List PVar) (rs : List PRule) (ps : List (List POp)) (c : Int) : List Bool × Int := if propsS vs rs ps = 0 then (if (valuesS vs rs c).2 = 0 then (ps.map (yesS (valuesS vs rs c).1), 0) else ([], (valuesS vs rs c).2)) else ([], propsS vs rs ps)
theorem propsS_len {vs : List PVar} {rs : List PRule} {ps : List (List POp)} (h : propsS vs rs ps = 0) : ps.length ≤ 6 := by
 unfold propsS at h
 split at h
 ·split at h <;> omega
 ·rename_i h1; exact absurd h h1
theorem letter_l0 (env : List Int) (ps : List (List POp)) (hp : ps.length ≤ 6) (d : Nat) : ∀ (i : Nat) (acc : List Bool), i + d = ps.length → acc.length = ps.length → Ev (fun k => zAx.l0 k env acc ps (ps.length : Int) i) (acc.take i ++ (ps.drop i).map (yesS env), 0) := by
 induction d with
 | zero =>
  intro i acc hi ha
  rw [List.drop_of_length_le (by omega), List.take_of_length_le (by omega), List.map_nil, List.append_nil]
  have c1 : ¬ (i : Int) < (ps.length : Int) := by omega
  refine ev_succ ?_
  simp only [zAx.l0, ↓reduceIte, c1]
  exact Ev.now _
 | succ d ih =>
  intro i acc hi ha
  have hil : i < ps.length := by omega
  have c1 : (i : Int) < (ps.length : Int) := by omega
  have c2 : (0 : Int) ≤ (i : Int) := by omega
  have c3 : (i : Int) < (acc.length : Int) := by omega
  have w1 : wrap64 ((i : Int) + 1) = ((i + 1 : Nat) : Int) := by rw [wrap_id (by omega) (by omega)]; rfl
  have he : zBN.f ps[i] env = some (evalS ps[i] env) := rfl
  have key : ∀ b : Bool, b = yesS env ps[i] → Ev (fun k => zAx.l0 k env (acc.set i b) ps (ps.length : Int) ((i + 1 : Nat) : Int)) (acc.take i ++ (ps.drop i).map (yesS env), 0) := by
   intro b hb
   refine ev_eq (ih (i + 1) (acc.set i b) (by omega) (by rw [List.length_set]; exact ha)) ?_
   rw [List.drop_eq_getElem_cons hil, List.map_cons, ← hb]
   have hlt : i < (acc.set i b).length := by rw [List.length_set]; omega
   rw [List.take_succ_eq_append_getElem hlt, List.getElem_set_self, List.take_set_of_le (Nat.le_refl _), List.append_assoc]
   rfl
  refine ev_succ ?_
  simp only [zAx.l0, ↓reduceIte, c1, c2, rdL_get ps i hil, he, x_bind]
  by_cases h : (evalS ps[i] env).2 = 0
  ·simp only [h, ↓reduceIte, c3, w1, Int.toNat_natCast]
   exact key _ (by unfold yesS; rw [if_pos h])
  ·simp only [h, ↓reduceIte, c3, w1, Int.toNat_natCast]
   exact key _ (by unfold yesS; rw [if_neg h])
theorem letter_ev (vs : List PVar) (rs : List PRule) (ps : List (List POp)) (c : Int) : Ev (fun k => zAx.f k vs rs ps c) (letterS vs rs ps c) := by
 unfold zAx.f letterS
 refine ev_bind (props_ev vs rs ps) ?_
 by_cases h : propsS vs rs ps = 0
 ·have hp := propsS_len h
  simp only [h, ↓reduceIte]
  refine ev_bind (values_ev vs rs c) ?_
  by_cases h2 : (valuesS vs rs c).2 = 0
  ·have c1 : (0 : Int) ≤ (ps.length : Int) := by omega
   have c2 : (ps.length : Int).toNat ≤ 281474976710656 := by omega
   simp only [h2, c1, c2, ↓reduceIte]
   exact letter_l0 _ ps hp ps.length 0 _ (by omega) (by simp)
  ·simp only [h2, ↓reduceIte]
   exact Ev.now _
 ·simp only [h, ↓reduceIte]
  exact Ev.now _
theorem letterOf_l0 (env : List Int) (he : env.length ≤ 6) (ps : List (List POp)) (hp : ps.length ≤ 6) (d : Nat) : ∀ (i : Nat), i + d = ps.length → Ev (fun k => zAd.l0 k ps env ((ps.take i).map (yesS env)) i) (ps.map (yesS env), 0) := by
 induction d with
 | zero =>
  intro i hi
  rw [List.take_of_length_le (by omega)]
  have c1 : ¬ (i : Int) < (ps.length : Int) := by omega
  refine ev_succ ?_
  simp only [zAd.l0, ↓reduceIte, c1]
  exact Ev.now _
 | succ d ih =>
  intro i hi
  have hil : i < ps.length := by omega
  have c1 : (i : Int) < (ps.length : Int) := by omega
  have c2 : (0 : Int) ≤ (i : Int) := by omega
  have c3 : ((ps.take i).map (yesS env)).length < 140737488355328 := by rw [List.length_map, List.length_take]; omega
  have w1 : wrap64 ((i : Int) + 1) = ((i + 1 : Nat) : Int) := by rw [wrap_id (by omega) (by omega)]; rfl
  have h := ih (i + 1) (by omega)
  rw [List.take_succ_eq_append_getElem hil, List.map_append, List.map_cons, List.map_nil] at h
  refine ev_succ ?_
  simp only [zAd.l0, ↓reduceIte, c1, c2, rdL_get ps i hil]
  refine ev_bind (evaluated_ev ps[i] env (by omega)) ?_
  by_cases h2 : (evalS ps[i] env).2 = 0
  ·have e : yesS env ps[i] = ((evalS ps[i] env).1 == 1) := by unfold yesS; rw [if_pos h2]
   rw [e] at h
   simp only [h2, c3, w1, ↓reduceIte]
   exact h
  ·have e : yesS env ps[i] = false := by unfold yesS; rw [if_neg h2]
   rw [e] at h
   simp only [h2, c3, w1, ↓reduceIte]
   exact h
theorem letterOf_ev (vs : List PVar) (rs : List PRule) (ps : List (List POp)) (c : Int) : Ev (fun k => zAd.f k vs rs ps c) (letterS vs rs ps c) := by
 unfold zAd.f letterS
 refine ev_bind (propsFault_ev vs rs ps) ?_
 by_cases h : propsS vs rs ps = 0
 ·have hp := propsS_len h
  simp only [h, ↓reduceIte]
  refine ev_bind (valuesOf_ev vs rs c) ?_
  by_cases h2 : (valuesS vs rs c).2 = 0
  ·simp only [h2, ↓reduceIte]
   exact letterOf_l0 _ (valuesS_len vs rs c) ps hp ps.length 0 (by omega)
  ·simp only [h2, ↓reduceIte]
   exact Ev.now _
 ·simp only [h, ↓reduceIte]
  exact Ev.now _
theorem aheadOf_loop (l : List POp) (hl : l.length ≤ 1000000) (d : Nat) : ∀ (i : Nat) (acc : List Int), i + d = l.length → acc.length ≤ i → Ev (fun k => zAf.l0 k l acc i) (acc ++ aheadL (l.drop i) i, 0) := by
 induction d with
 | zero =>
  intro i acc hi ha
  rw [List.drop_of_length_le (by omega)]
  exact ev_now (fun k => by simp (disch := omega) only [zAf.l0, if_neg, aheadL, List.append_nil])
 | succ d ih =>
  intro i acc hi ha
  have hlt : i < l.length := by omega
  have hg : zAI l i = l[i] := getD_get _ _ _ hlt
  rw [List.drop_eq_getElem_cons hlt]
  unfold aheadL
  by_cases h : ahd l[i].f0 = true
  ·rw [if_pos h]
   refine Ev.step (fun k => ?_) (ev_eq (ih (i + 1) (acc ++ [(i : Int)]) (by omega) (by simp; omega)) (by simp))
   simp (disch := omega) only [zAf.l0, if_pos, hg, looksAhead_eq, h, Option.bind_some, wrap_id]
   rfl
  ·rw [if_neg h]
   refine Ev.step (fun k => ?_) (ih (i + 1) acc (by omega) (by omega))
   simp (disch := omega) only [zAf.l0, if_pos, hg, looksAhead_eq, if_neg h, Option.bind_some, wrap_id]
   rfl
theorem aheadOf_ev (l : List POp) (n : Int) : Ev (fun k => zAf.f k l n) (aheadS l n) := by
 unfold zAf.f aheadS
 refine ev_bind (formulaFault_ev l n) ?_
 by_cases h : checkS l n = 0
 ·simp only [if_pos h]
  exact aheadOf_loop l (by have := (checkS_ok h).2.2.1; omega) l.length 0 [] (by omega) (by simp)
 ·simp only [if_neg h]
  exact Ev.now _
def pw (b : Nat) : Int := 2 ^ b
theorem pw_succ (b : Nat) : pw (b + 1) = pw b * 2 := Int.pow_succ 2 b
theorem pw_bd {b : Nat} (h : b ≤ 6) : 1 ≤ pw b ∧ pw b ≤ 64 := by
 have : b = 0 ∨ b = 1 ∨ b = 2 ∨ b = 3 ∨ b = 4 ∨ b = 5 ∨ b = 6 := by omega
 rcases this with e | e | e | e | e | e | e <;> (rw [e]; decide)
theorem propsS_model {vs : List PVar} {rs : List PRule} {ps : List (List POp)} (h : propsS vs rs ps = 0) : modelS vs rs = 0 := by
 unfold propsS at h
 by_cases hc : modelS vs rs = 0
 ·exact hc
 ·rw [if_neg hc] at h; exact absurd h hc
theorem taskS_ok {vs : List PVar} {rs : List PRule} {ps : List (List POp)} {f : List POp} (h : taskS vs rs ps f = 0) : modelS vs rs = 0 ∧ propsS vs rs ps = 0 ∧ checkS f (ps.length : Int) = 0 := by
 unfold taskS at h
 by_cases hc : propsS vs rs ps = 0
 ·rw [if_pos hc] at h; exact ⟨propsS_model hc, hc, h⟩
 ·rw [if_neg hc] at h; exact absurd h hc
abbrev PSpot := S31
def manyN (l : List POp) : Nat := 2 ^ cA l
theorem manyN_pw (l : List POp) : (manyN l : Int) = pw (cA l) := by unfold manyN pw; push_cast; rfl
theorem manyN_le {l : List POp} (h : cA l ≤ 6) : manyN l ≤ 64 := by
 have := pw_bd h
 have := manyN_pw l
 omega
theorem shl_all : ∀ b : Fin 7, shl .i64 1 (b.val : Int) = 2 ^ b.val := by decide +kernel
theorem claims_ev (vs : List PVar) (rs : List PRule) (ps : List (List POp)) (l : List POp) (hc : checkS l (ps.length : Int) = 0) : Ev (fun k => zA4.f k vs rs ps l) (manyN l : Int) := by
 unfold zA4.f
 have h := ahead_ev l (ps.length : Int)
 have hA := (checkS_fit hc).1
 have ha : aheadS l (ps.length : Int) = (aheadL l 0, 0) := by unfold aheadS; rw [if_pos hc]
 rw [ha] at h
 refine ev_bind h (ev_eq (Ev.now _) ?_)
 show shl .i64 1 ((aheadL l 0).length : Int) = _
 rw [aheadL_cA, manyN_pw]
 exact shl_all ⟨cA l, by omega⟩
theorem many_l0 (ps : List Int) (hp : ps.length ≤ 6) (d : Nat) : ∀ i : Nat, i + d = ps.length → Ev (fun k => zAY.l0 k ps (pw i) (i : Int)) (pw ps.length) := by
 induction d with
 | zero =>
  intro i hi
  obtain rfl : i = ps.length := by omega
  have c1 : ¬ ((ps.length : Nat) : Int) < (ps.length : Int) := by omega
  refine ev_succ ?_
  simp only [zAY.l0, ↓reduceIte, c1]
  exact Ev.now _
 | succ d ih =>
  intro i hi
  have c1 : (i : Int) < (ps.length : Int) := by omega
  have hb := pw_bd (show i ≤ 6 by omega)
  have w1 : wrap64 (pw i * 2) = pw (i + 1) := by rw [pw_succ, wrap_id (by omega) (by omega)]
  have w2 : wrap64 ((i : Int) + 1) = ((i + 1 : Nat) : Int) := by rw [wrap_id (by omega) (by omega)]; rfl
  refine ev_succ ?_
  simp only [zAY.l0, ↓reduceIte, c1, w1, w2]
  exact ih (i + 1) (by omega)
theorem many_ev (vs : List PVar) (rs : List PRule) (ps : List (List POp)) (l : List POp) (hc : checkS l (ps.length : Int) = 0) : Ev (fun k => zAY.f k vs rs ps l) (manyN l : Int) := by
 unfold zAY.f
 have h := aheadOf_ev l (ps.length : Int)
 have hA := (checkS_fit hc).1
 have ha : aheadS l (ps.length : Int) = (aheadL l 0, 0) := by unfold aheadS; rw [if_pos hc]
 rw [ha] at h
 refine ev_bind h ?_
 rw [manyN_pw, ← aheadL_cA l 0]
 exact many_l0 (aheadL l 0) (by rw [aheadL_cA]; exact hA) (aheadL l 0).length 0 (by omega)
def encR : List PVar → List Int → Option Int
 | v :: vs, x :: xs => if x < v.f1 ∨ v.f2 < x then none else (encR vs xs).map fun n => (x - v.f1) * prodV vs + n
 | _, _ => some 0
def encP (a : Int) (p : Int) (r : Option Int) : Int × Int := match r with | none => (0, 9) | some n => (a * p + n, 0)
theorem encP_step (a x p : Int) (v : PVar) (r : Option Int) : encP a ((v.f2 - v.f1 + 1) * p) (r.map fun n => (x - v.f1) * p + n) = encP (a * (v.f2 - v.f1 + 1) + x - v.f1) p r := by
 cases r with
 | none => rfl
 | some n =>
  simp only [encP, Option.map_some, Prod.mk.injEq, and_true]
  generalize v.f2 - v.f1 + 1 = S
  rw [Int.sub_mul, Int.sub_mul, Int.add_mul, Int.mul_assoc]
  omega
theorem code_l0 (vs : List PVar) (hv : vs.length ≤ 6) (ho : ∀ v ∈ vs, VOk v) (xs : List Int) (hx : xs.length = vs.length) (d : Nat) : ∀ (i : Nat) (a : Int), i + d = vs.length → 0 ≤ a → (a + 1) * prodV (vs.drop i) ≤ 4096 →
  Ev (fun k => zA5.l0 k xs a vs (vs.length : Int) i) (encP a (prodV (vs.drop i)) (encR (vs.drop i) (xs.drop i))) := by
 induction d with
 | zero =>
  intro i a hi ha hp
  rw [List.drop_of_length_le (by omega), List.drop_of_length_le (by omega)]
  have c1 : ¬ (i : Int) < (vs.length : Int) := by omega
  refine ev_succ ?_
  simp only [zA5.l0, ↓reduceIte, c1, encR, encP, prodV, Int.mul_one, Int.add_zero]
  exact Ev.now _
 | succ d ih =>
  intro i a hi ha hp
  have hil : i < vs.length := by omega
  have hxl : i < xs.length := by omega
  have c1 : (i : Int) < (vs.length : Int) := by omega
  have c2 : (0 : Int) ≤ (i : Int) := by omega
  have c3 : (i : Int) < (xs.length : Int) := by omega
  have w1 : wrap64 ((i : Int) + 1) = ((i + 1 : Nat) : Int) := by rw [wrap_id (by omega) (by omega)]; rfl
  have hvi := ho _ (List.getElem_mem hil)
  rw [List.drop_eq_getElem_cons hil] at hp ⊢
  rw [List.drop_eq_getElem_cons hxl, encR]
  obtain ⟨p1, p2, p3⟩ := part_prod (a := a + 1) (by omega) hvi (drop_ok ho _) hp
  have e : (a + 1) * (vs[i].f2 - vs[i].f1 + 1) = a * (vs[i].f2 - vs[i].f1 + 1) + (vs[i].f2 - vs[i].f1 + 1) := by rw [Int.add_mul, Int.one_mul]
  have hs1 : 0 ≤ a * (vs[i].f2 - vs[i].f1 + 1) := Int.mul_nonneg ha (by unfold VOk at hvi; omega)
  refine ev_succ ?_
  by_cases b1 : xs[i] < vs[i].f1
  ·rw [if_pos (.inl b1)]
   simp only [zA5.l0, ↓reduceIte, c1, c2, c3, rdV_get vs i hil, rd_get xs i hxl, b1]
   exact Ev.now _
  by_cases b2 : xs[i] > vs[i].f2
  ·rw [if_pos (.inr b2)]
   simp only [zA5.l0, ↓reduceIte, c1, c2, c3, rdV_get vs i hil, rd_get xs i hxl, b1, b2]
   exact Ev.now _
  rw [if_neg (by omega)]
  have hvi' := hvi
  unfold VOk at hvi'
  have w2 : wrap64 (a * (vs[i].f2 - vs[i].f1 + 1)) = a * (vs[i].f2 - vs[i].f1 + 1) := wrap_id (by omega) (by omega)
  have w3 : wrap64 (a * (vs[i].f2 - vs[i].f1 + 1) + xs[i]) = a * (vs[i].f2 - vs[i].f1 + 1) + xs[i] := wrap_id (by omega) (by omega)
  have w4 : wrap64 (a * (vs[i].f2 - vs[i].f1 + 1) + xs[i] - vs[i].f1) = a * (vs[i].f2 - vs[i].f1 + 1) + xs[i] - vs[i].f1 := wrap_id (by omega) (by omega)
  simp only [zA5.l0, ↓reduceIte, c1, c2, c3, rdV_get vs i hil, rd_get xs i hxl, b1, b2, w1, span_wrap hvi, w2, w3, w4]
  rw [prodV_cons, encP_step]
  refine ih (i + 1) _ (by omega) (by omega) ?_
  have hpr := prodV_pos (drop_ok ho (i + 1))
  have : (a * (vs[i].f2 - vs[i].f1 + 1) + xs[i] - vs[i].f1 + 1) * prodV (vs.drop (i + 1)) ≤ (a + 1) * (vs[i].f2 - vs[i].f1 + 1) * prodV (vs.drop (i + 1)) := Int.mul_le_mul (by omega) (Int.le_refl _) (by omega) (by omega)
  omega
theorem encR_bd : ∀ (vs : List PVar) (xs : List Int), (∀ v ∈ vs, VOk v) → xs.length = vs.length → ∀ n, encR vs xs = some n → 0 ≤ n ∧ n < prodV vs
 | [], xs, _, _, n, h => by
  simp only [encR, Option.some.injEq] at h
  subst h
  unfold prodV
  decide
 | v :: vs, [], _, hl, n, h => by simp at hl
 | v :: vs, x :: xs, ho, hl, n, h => by
  unfold encR at h
  split at h
  ·cases h
  rename_i hb
  obtain ⟨m, hm, rfl⟩ := Option.map_eq_some_iff.1 h
  obtain ⟨m0, m1⟩ := encR_bd vs xs (fun u hu => ho u (by simp [hu])) (by simpa using hl) m hm
  have hpr := prodV_pos (l := vs) (fun u hu => ho u (by simp [hu]))
  have h0 : 0 ≤ (x - v.f1) * prodV vs := Int.mul_nonneg (by omega) (by omega)
  have h1 : (x - v.f1 + 1) * prodV vs ≤ (v.f2 - v.f1 + 1) * prodV vs := Int.mul_le_mul (by omega) (Int.le_refl _) (by omega) (by omega)
  rw [Int.add_mul, Int.one_mul] at h1
  rw [prodV_cons]
  omega
theorem codeOf_l0 (vs : List PVar) (rs : List PRule) (hv : vs.length ≤ 6) (ho : ∀ v ∈ vs, VOk v) (hp0 : prodV vs ≤ 4096) (xs : List Int) (hx : xs.length = vs.length) (d : Nat) : ∀ (i : Nat) (a : Int), i + d = vs.length → 0 ≤ a → a + prodV (vs.drop i) ≤ 4096 →
  Ev (fun k => zAT.l0 k xs a i vs rs) (encP a 1 (encR (vs.drop i) (xs.drop i))) := by
 induction d with
 | zero =>
  intro i a hi ha hp
  rw [List.drop_of_length_le (by omega), List.drop_of_length_le (by omega)]
  have c1 : ¬ (i : Int) < (xs.length : Int) := by omega
  refine ev_succ ?_
  simp only [zAT.l0, ↓reduceIte, c1, encR, encP, prodV, Int.mul_one, Int.add_zero]
  exact Ev.now _
 | succ d ih =>
  intro i a hi ha hp
  have hil : i < vs.length := by omega
  have hxl : i < xs.length := by omega
  have c1 : (i : Int) < (vs.length : Int) := by omega
  have c2 : (0 : Int) ≤ (i : Int) := by omega
  have c3 : (i : Int) < (xs.length : Int) := by omega
  have w1 : wrap64 ((i : Int) + 1) = ((i + 1 : Nat) : Int) := by rw [wrap_id (by omega) (by omega)]; rfl
  have hvi := ho _ (List.getElem_mem hil)
  rw [List.drop_eq_getElem_cons hil] at hp ⊢
  rw [List.drop_eq_getElem_cons hxl, encR]
  refine ev_succ ?_
  by_cases b1 : vs[i].f1 ≤ xs[i] ∧ xs[i] ≤ vs[i].f2
  case neg =>
   have d1 : decide (vs[i].f1 ≤ xs[i] ∧ xs[i] ≤ vs[i].f2) = false := decide_eq_false b1
   rw [if_pos (by omega)]
   simp only [zAT.l0, ↓reduceIte, c1, c2, c3, rdV_get vs i hil, rd_get xs i hxl, inE_eq, x_bind, d1, Bool.false_eq_true]
   exact Ev.now _
  have d1 : decide (vs[i].f1 ≤ xs[i] ∧ xs[i] ≤ vs[i].f2) = true := decide_eq_true b1
  rw [if_neg (by omega)]
  simp only [zAT.l0, ↓reduceIte, c1, c2, c3, rdV_get vs i hil, rd_get xs i hxl, inE_eq, x_bind, d1]
  refine ev_bind (behind_ev vs rs hv ho hp0 (i + 1) (by omega) (i : Int) (by omega)) ?_
  have hpr := prodV_pos (drop_ok ho (i + 1))
  have hvi' := hvi
  unfold VOk at hvi'
  rw [prodV_cons] at hp
  have h0 : 0 ≤ (xs[i] - vs[i].f1) * prodV (vs.drop (i + 1)) := Int.mul_nonneg (by omega) (by omega)
  have h1 : (xs[i] - vs[i].f1 + 1) * prodV (vs.drop (i + 1)) ≤ (vs[i].f2 - vs[i].f1 + 1) * prodV (vs.drop (i + 1)) := Int.mul_le_mul (by omega) (Int.le_refl _) (by omega) (by omega)
  rw [Int.add_mul, Int.one_mul] at h1
  have w2 : wrap64 (xs[i] - vs[i].f1) = xs[i] - vs[i].f1 := wrap_id (by omega) (by omega)
  have w3 : wrap64 ((xs[i] - vs[i].f1) * prodV (vs.drop (i + 1))) = (xs[i] - vs[i].f1) * prodV (vs.drop (i + 1)) := wrap_id (by omega) (by omega)
  have w4 : wrap64 (a + (xs[i] - vs[i].f1) * prodV (vs.drop (i + 1))) = a + (xs[i] - vs[i].f1) * prodV (vs.drop (i + 1)) := wrap_id (by omega) (by omega)
  simp only [w1, w2, w3, w4]
  refine ev_eq (ih (i + 1) _ (by omega) (by omega) (by omega)) ?_
  cases encR (vs.drop (i + 1)) (xs.drop (i + 1)) with
  | none => rfl
  | some n => simp only [encP, Option.map_some, Int.mul_one, Int.add_assoc]
def codeS (vs : List PVar) (rs : List PRule) (xs : List Int) : Int × Int := if modelS vs rs = 0 then (if xs.length = vs.length then encP 0 1 (encR vs xs) else (0, 9)) else (0, modelS vs rs)
theorem encP_zero (p : Int) (r : Option Int) : encP 0 p r = encP 0 1 r := by
 cases r with
 | none => rfl
 | some n => simp only [encP, Int.zero_mul]
theorem code_ev (vs : List PVar) (rs : List PRule) (xs : List Int) : Ev (fun k => zA5.f k vs rs xs) (codeS vs rs xs) := by
 unfold zA5.f codeS
 refine ev_bind (modelCheck_ev vs rs) ?_
 by_cases h : modelS vs rs = 0
 ·obtain ⟨ho, hp⟩ := vars_ok (modelS_vars h)
  simp only [h, ↓reduceIte]
  by_cases h2 : xs.length = vs.length
  ·have c1 : (xs.length : Int) = (vs.length : Int) := by omega
   simp only [h2, ↓reduceIte]
   have := code_l0 vs (modelS_len h) ho xs h2 vs.length 0 0 (by omega) (Int.le_refl _) (by rw [Int.zero_add, Int.one_mul]; exact hp)
   rw [encP_zero] at this
   exact this
  ·have c1 : ¬ (xs.length : Int) = (vs.length : Int) := by omega
   simp only [h2, c1, ↓reduceIte]
   exact Ev.now _
 ·simp only [h, ↓reduceIte]
  exact Ev.now _
theorem codeOf_ev (vs : List PVar) (rs : List PRule) (xs : List Int) : Ev (fun k => zAT.f k vs rs xs) (codeS vs rs xs) := by
 unfold zAT.f codeS
 refine ev_bind (modelFault_ev vs rs) ?_
 by_cases h : modelS vs rs = 0
 ·obtain ⟨ho, hp⟩ := vars_ok (modelS_vars h)
  simp only [h, ↓reduceIte]
  by_cases h2 : xs.length = vs.length
  ·have c1 : (xs.length : Int) = (vs.length : Int) := by omega
   simp only [h2, ↓reduceIte]
   exact codeOf_l0 vs rs (modelS_len h) ho hp xs h2 vs.length 0 0 (by omega) (Int.le_refl _) (by rw [Int.zero_add]; exact hp)
  ·have c1 : ¬ (xs.length : Int) = (vs.length : Int) := by omega
   simp only [h2, c1, ↓reduceIte]
   exact Ev.now _
 ·simp only [h, ↓reduceIte]
  exact Ev.now _
end Go.Proofs.YtgdijfhdpgdanaaGreatDoor.Pure
