import Derived.Test.YtgdijfhdpgdanaaGreatDoorKProductBehindsG29
import Derived.Test.YtgdijfhdpgdanaaGreatDoorKProductBehindsG43
import Derived.Test.YtgdijfhdpgdanaaGreatDoorKProductBehindsG37
namespace Go.Proofs.YtgdijfhdpgdanaaGreatDoor.Pure
open Go.RowKit Go.Proofs.YtgdijfhdpgdanaaGreatDoor Go.Proofs.YtgdijfhdpgdanaaGreatDoor.B Go.Proofs.YtgdijfhdpgdanaaGreatDoor.Base Go.Proofs.YtgdijfhdpgdanaaGreatDoorW.PrintWords Go.Proofs.YtgdijfhdpgdanaaGreatDoorW.PrintLast Go.Proofs.YtgdijfhdpgdanaaGreatDoorW.PrintMore
set_option linter.unusedVariables false
set_option linter.unusedSimpArgs false
abbrev PVar := S113
abbrev PSet := S104
abbrev PRule := S102
theorem rdV_get (l : List PVar) (i : Nat) (h : i < l.length) : zAO l (i : Int) = l[i] := by unfold zAO; simp [h]
theorem rdS_get (l : List PSet) (i : Nat) (h : i < l.length) : zAc l (i : Int) = l[i] := by unfold zAc; simp [h]
theorem rdR_get (l : List PRule) (i : Nat) (h : i < l.length) : zAh l (i : Int) = l[i] := by unfold zAh; simp [h]
theorem x_bind {α β : Type} (a : α) (f : α → Option β) : (some a).bind f = f a := rfl
theorem bt_at (s : ByteArray) (i : Nat) (h : i < s.size) : bt s (i : Int) = ((s.data.toList.getD i 0).toNat : Int) := by
 have h' : i < s.data.size := h
 unfold bt
 rw [dif_pos (by simpa using h)]
 rw [List.getD_eq_getElem?_getD, List.getElem?_eq_getElem (by simpa using h')]
 rfl
theorem nameMay_loop (s : ByteArray) (hs : s.size ≤ 8) (d : Nat) : ∀ i : Nat, i + d = s.size → Ev (fun k => zAQ.l0 k s i) ((List.range' i d).all (nameAt s.data.toList)) := by
 induction d with
 | zero =>
  intro i hi
  have c1 : ¬ (i : Int) < (s.size : Int) := by omega
  refine ev_succ ?_
  simp only [zAQ.l0, ↓reduceIte, c1]
  exact Ev.now _
 | succ d ih =>
  intro i hi
  have c1 : (i : Int) < (s.size : Int) := by omega
  have c2 : (0 : Int) ≤ (i : Int) := by omega
  have w1 : wrap64 ((i : Int) + 1) = ((i + 1 : Nat) : Int) := by rw [wrap_id (by omega) (by omega)]; rfl
  obtain ⟨c, hc⟩ : ∃ c : Nat, (s.data.toList.getD i 0).toNat = c := ⟨_, rfl⟩
  have hlt : c < 256 := by rw [← hc]; exact UInt8.toNat_lt _
  have hb : bt s (i : Int) = (c : Int) := by rw [bt_at s i (by omega), hc]
  have hw : wrap64 (c : Int) = (c : Int) := wrap_id (by omega) (by omega)
  have hn : nameAt s.data.toList i = if (c < 97 ∨ 122 < c) ∧ (c < 48 ∨ 57 < c ∨ i = 0) then false else true := by unfold nameAt; rw [hc]
  have hi1 := ih (i + 1) (by omega)
  refine ev_succ ?_
  rw [List.range'_succ, List.all_cons, hn]
  by_cases a1 : 97 ≤ (c : Int) ∧ (c : Int) ≤ 122
  ·have d1 : decide (97 ≤ (c : Int) ∧ (c : Int) ≤ 122) = true := decide_eq_true a1
   have d2 : decide (48 ≤ (c : Int) ∧ (c : Int) ≤ 57) = false := decide_eq_false (by omega)
   rw [if_neg (by omega), Bool.true_and]
   simp only [zAQ.l0, ↓reduceIte, c1, c2, inE_eq, x_bind, hb, hw, d1, d2, w1, Bool.false_eq_true, ite_self]
   exact hi1
  ·have d1 : decide (97 ≤ (c : Int) ∧ (c : Int) ≤ 122) = false := decide_eq_false a1
   by_cases a2 : 48 ≤ (c : Int) ∧ (c : Int) ≤ 57
   ·have d2 : decide (48 ≤ (c : Int) ∧ (c : Int) ≤ 57) = true := decide_eq_true a2
    by_cases a3 : i = 0
    ·have c3 : ((i : Int) = 0) = True := eq_true (by omega)
     rw [if_pos (by omega), Bool.false_and]
     simp only [zAQ.l0, ↓reduceIte, c1, c2, inE_eq, x_bind, hb, hw, d1, d2, w1, Bool.false_eq_true, c3]
     exact Ev.now _
    ·have c3 : ¬ (i : Int) = 0 := by omega
     rw [if_neg (by omega), Bool.true_and]
     simp only [zAQ.l0, ↓reduceIte, c1, c2, inE_eq, x_bind, hb, hw, d1, d2, w1, Bool.false_eq_true, c3]
     exact hi1
   ·have d2 : decide (48 ≤ (c : Int) ∧ (c : Int) ≤ 57) = false := decide_eq_false a2
    rw [if_pos (by omega), Bool.false_and]
    simp only [zAQ.l0, ↓reduceIte, c1, c2, inE_eq, x_bind, hb, hw, d1, d2, w1, Bool.false_eq_true]
    exact Ev.now _
theorem nameMay_ev (s : ByteArray) : Ev (fun k => zAQ.f k s) (nameB s) := by
 unfold zAQ.f nameB
 have jf : Ev (fun k => zAQ.j0 k s true) false := by
  refine ev_succ ?_
  simp only [zAQ.j0, ↓reduceIte]
  exact Ev.now _
 simp only [inE_eq, x_bind]
 by_cases h1 : s.size = 0
 ·have d1 : decide ((1 : Int) ≤ (s.size : Int) ∧ (s.size : Int) ≤ 8) = false := decide_eq_false (by omega)
  simp only [d1, Bool.false_eq_true, ↓reduceIte]
  rw [if_pos (.inl h1)]
  exact jf
 by_cases h2 : 8 < s.size
 ·have d1 : decide ((1 : Int) ≤ (s.size : Int) ∧ (s.size : Int) ≤ 8) = false := decide_eq_false (by omega)
  simp only [d1, Bool.false_eq_true, ↓reduceIte]
  rw [if_pos (.inr (.inl h2))]
  exact jf
 have d1 : decide ((1 : Int) ≤ (s.size : Int) ∧ (s.size : Int) ≤ 8) = true := decide_eq_true (by omega)
 simp only [d1, ↓reduceIte]
 by_cases h3 : s.toList = [121, 101, 115]
 ·simp only [if_pos h3]
  rw [if_pos (.inr (.inr (.inl h3)))]
  exact jf
 simp only [if_neg h3]
 by_cases h4 : s.toList = [110, 111]
 ·have d4 : (s.toList == ([110, 111] : List UInt8)) = true := beq_iff_eq.mpr h4
  simp only [d4]
  rw [if_pos (.inr (.inr (.inr h4)))]
  exact jf
 have d4 : (s.toList == ([110, 111] : List UInt8)) = false := beq_eq_false_iff_ne.mpr h4
 simp only [d4]
 rw [if_neg (by rintro (h | h | h | h); exact h1 h; exact h2 h; exact h3 h; exact h4 h)]
 refine ev_succ ?_
 simp only [zAQ.j0, Bool.false_eq_true, ↓reduceIte]
 rw [List.range_eq_range']
 exact nameMay_loop s (by omega) s.size 0 (by omega)
def varsS (l : List PVar) : Int := if 6 < l.length then 1 else varsL l [] 1
theorem variables_eq (l : List PVar) : zBJ.f l = some (varsS l) := rfl
def badR (v : PVar) : Prop := v.f1 < -1000 ∨ v.f2 > 1000 ∨ v.f1 > v.f2 ∨ v.f3 < v.f1 ∨ v.f3 > v.f2
theorem vars_tail (l : List PVar) (hl : l.length ≤ 6) (v : PVar) (i : Nat) (hi : i < l.length) (st : Int) (hst : 0 ≤ st ∧ st ≤ 4096) (R : Int) (hR : ¬ badR v → ¬ v.f2 - v.f1 ≥ 64 → ¬ st * (v.f2 - v.f1 + 1) > 4096 → Ev (fun k => zAB.l0 k l (st * (v.f2 - v.f1 + 1)) ((i + 1 : Nat) : Int)) R) :
  Ev (fun k => zAB.l1 k l st i i v.f0 v.f1 v.f2 v.f3) (if v.f1 < -1000 ∨ v.f2 > 1000 ∨ v.f1 > v.f2 ∨ v.f3 < v.f1 ∨ v.f3 > v.f2 then 2 else if v.f2 - v.f1 ≥ 64 then 1 else if st * (v.f2 - v.f1 + 1) > 4096 then 1 else R) := by
 obtain ⟨vn, a, b, c⟩ := v
 dsimp only [badR] at hR ⊢
 have c1 : ¬ (i : Int) < (i : Int) := by omega
 have j2t : Ev (fun k => zAB.j2 k l st i true vn a b c) 2 := by
  refine ev_succ ?_
  simp only [zAB.j2, ↓reduceIte]
  exact Ev.now _
 refine ev_succ ?_
 by_cases h1 : -1000 ≤ a ∧ a ≤ 1000
 case neg =>
  have d1 : decide (-1000 ≤ a ∧ a ≤ 1000) = false := decide_eq_false h1
  rw [if_pos (by omega)]
  simp only [zAB.l1, ↓reduceIte, c1, inE_eq, x_bind, d1, Bool.false_eq_true]
  exact j2t
 have d1 : decide (-1000 ≤ a ∧ a ≤ 1000) = true := decide_eq_true h1
 by_cases h2 : a ≤ b ∧ b ≤ 1000
 case neg =>
  have d2 : decide (a ≤ b ∧ b ≤ 1000) = false := decide_eq_false h2
  rw [if_pos (by omega)]
  simp only [zAB.l1, ↓reduceIte, c1, inE_eq, x_bind, d1, d2, Bool.false_eq_true]
  exact j2t
 have d2 : decide (a ≤ b ∧ b ≤ 1000) = true := decide_eq_true h2
 by_cases h3 : a ≤ c ∧ c ≤ b
 case neg =>
  have d3 : decide (a ≤ c ∧ c ≤ b) = false := decide_eq_false h3
  rw [if_pos (by omega)]
  simp only [zAB.l1, ↓reduceIte, c1, inE_eq, x_bind, d1, d2, d3, Bool.not_false]
  exact j2t
 have d3 : decide (a ≤ c ∧ c ≤ b) = true := decide_eq_true h3
 have hb : ¬ (a < -1000 ∨ b > 1000 ∨ a > b ∨ c < a ∨ c > b) := by omega
 rw [if_neg hb]
 simp only [zAB.l1, ↓reduceIte, c1, inE_eq, x_bind, d1, d2, d3, Bool.not_true]
 refine ev_succ ?_
 have w1 : wrap64 (b - a) = b - a := wrap_id (by omega) (by omega)
 have w2 : wrap64 (b - a + 1) = b - a + 1 := wrap_id (by omega) (by omega)
 by_cases h4 : b - a ≥ 64
 ·have c4 : b - a > 63 := by omega
  rw [if_pos h4]
  simp only [zAB.j2, Bool.false_eq_true, ↓reduceIte, w1, c4]
  exact Ev.now _
 have c4 : ¬ b - a > 63 := by omega
 rw [if_neg h4]
 have hp0 : 0 ≤ st * (b - a + 1) := Int.mul_nonneg hst.1 (by omega)
 have hp1 : st * (b - a + 1) ≤ 4096 * 64 := Int.mul_le_mul hst.2 (by omega) (by omega) (by omega)
 have w3 : wrap64 (st * (b - a + 1)) = st * (b - a + 1) := wrap_id (by omega) (by omega)
 by_cases h5 : st * (b - a + 1) > 4096
 ·rw [if_pos h5]
  simp only [zAB.j2, Bool.false_eq_true, ↓reduceIte, w1, w2, w3, c4, h5]
  exact Ev.now _
 rw [if_neg h5]
 have w4 : wrap64 ((i : Int) + 1) = ((i + 1 : Nat) : Int) := by rw [wrap_id (by omega) (by omega)]; rfl
 simp only [zAB.j2, Bool.false_eq_true, ↓reduceIte, w1, w2, w3, w4, c4, h5]
 exact hR hb h4 h5
theorem vars_l1 (l : List PVar) (hl : l.length ≤ 6) (v : PVar) (i : Nat) (hi : i < l.length) (st : Int) (R : Int) (hR : Ev (fun k => zAB.l1 k l st i i v.f0 v.f1 v.f2 v.f3) R) (d : Nat) : ∀ j : Nat, j + d = i →
  Ev (fun k => zAB.l1 k l st i j v.f0 v.f1 v.f2 v.f3) (if (((l.take i).drop j).map (·.f0)).any (fun s => s.toList == v.f0.toList) = true then 7 else R) := by
 induction d with
 | zero =>
  intro j hj
  obtain rfl : j = i := by omega
  rw [List.drop_of_length_le (by rw [List.length_take]; omega)]
  exact hR
 | succ d ih =>
  intro j hj
  have hjl : j < l.length := by omega
  have c1 : (j : Int) < (i : Int) := by omega
  have c2 : (0 : Int) ≤ (j : Int) := by omega
  have c3 : (j : Int) < (l.length : Int) := by omega
  have w1 : wrap64 ((j : Int) + 1) = ((j + 1 : Nat) : Int) := by rw [wrap_id (by omega) (by omega)]; rfl
  have hd : (l.take i).drop j = l[j] :: (l.take i).drop (j + 1) := by
   have hlt : j < (l.take i).length := by rw [List.length_take]; omega
   rw [List.drop_eq_getElem_cons hlt, List.getElem_take]
  refine ev_succ ?_
  rw [hd, List.map_cons, List.any_cons]
  by_cases e : l[j].f0.toList = v.f0.toList
  ·have b1 : (l[j].f0.toList == v.f0.toList) = true := beq_iff_eq.2 e
   rw [b1, Bool.true_or, if_pos rfl]
   simp only [zAB.l1, ↓reduceIte, c1, c2, c3, rdV_get l j hjl, e]
   exact Ev.now _
  ·have b1 : (l[j].f0.toList == v.f0.toList) = false := beq_eq_false_iff_ne.2 e
   rw [b1, Bool.false_or]
   simp only [zAB.l1, ↓reduceIte, c1, c2, c3, rdV_get l j hjl, e, w1]
   exact ih (j + 1) (by omega)
theorem vars_l0 (l : List PVar) (hl : l.length ≤ 6) (d : Nat) : ∀ (i : Nat) (st : Int), i + d = l.length → 0 ≤ st ∧ st ≤ 4096 → Ev (fun k => zAB.l0 k l st i) (varsL (l.drop i) ((l.take i).map (·.f0)) st) := by
 induction d with
 | zero =>
  intro i st hi hst
  rw [List.drop_of_length_le (by omega)]
  have c1 : ¬ (i : Int) < (l.length : Int) := by omega
  refine ev_succ ?_
  simp only [zAB.l0, ↓reduceIte, c1]
  exact Ev.now _
 | succ d ih =>
  intro i st hi hst
  have hil : i < l.length := by omega
  have c1 : (i : Int) < (l.length : Int) := by omega
  have c2 : (0 : Int) ≤ (i : Int) := by omega
  refine ev_succ ?_
  simp only [zAB.l0, ↓reduceIte, c1, c2, rdV_get l i hil]
  refine ev_bind (nameMay_ev l[i].f0) ?_
  rw [List.drop_eq_getElem_cons hil, varsL]
  cases hb : nameB l[i].f0 with
  | false =>
   simp only [Bool.false_eq_true, ↓reduceIte]
   exact Ev.now _
  | true =>
   simp only [Bool.true_eq_false, ↓reduceIte]
   have h0 := vars_l1 l hl l[i] i hil st _ (vars_tail l hl l[i] i hil st hst (varsL (l.drop (i + 1)) ((l.take (i + 1)).map (·.f0)) (st * (l[i].f2 - l[i].f1 + 1))) (fun _ h4 h5 => ih (i + 1) _ (by omega) ⟨?_, by omega⟩)) i 0 (by omega)
   ·rw [List.drop_zero, List.take_succ_eq_append_getElem hil, List.map_append] at h0
    exact h0
   ·rename_i hbr
    unfold badR at hbr
    exact Int.mul_nonneg hst.1 (by omega)
theorem varsFault_ev (l : List PVar) : Ev (fun k => zAB.f k l) (varsS l) := by
 unfold zAB.f varsS
 by_cases h : 6 < l.length
 ·have c1 : (l.length : Int) > 6 := by omega
  simp only [c1, h, ↓reduceIte]
  exact Ev.now _
 ·have c1 : ¬ (l.length : Int) > 6 := by omega
  simp only [c1, h, ↓reduceIte]
  exact vars_l0 l (by omega) l.length 0 1 (by omega) (by decide)
def kindS (l : List POp) (n : Int) (t : Bool) : Int := if (exprS l n).2 = 0 then (if ((exprS l n).1 != t) = true then 5 else 0) else (exprS l n).2
theorem kind_ev (l : List POp) (n : Int) (t : Bool) (w : -9223372036854775808 ≤ n ∧ n ≤ 9223372036854775807) : Ev (fun k => zBC.f k l n t) (kindS l n t) := by
 unfold zBC.f kindS
 refine ev_bind (exprCheck_ev l n w) ?_
 by_cases h : (exprS l n).2 = 0
 ·simp only [h, ↓reduceIte]
  split <;> exact Ev.now _
 ·simp only [h, ↓reduceIte]
  exact Ev.now _
theorem kindFault_ev (l : List POp) (n : Int) (t : Bool) (w : -9223372036854775808 ≤ n ∧ n ≤ 9223372036854775807) : Ev (fun k => zAq.f k l n t) (kindS l n t) := by
 unfold zAq.f kindS
 refine ev_bind (exprChecked_ev l n w) ?_
 by_cases h : (exprS l n).2 = 0
 ·simp only [h, ↓reduceIte]
  split <;> exact Ev.now _
 ·simp only [h, ↓reduceIte]
  exact Ev.now _
def setsS (n : Int) : List PSet → List Int → Int
 | [], _ => 0
 | s :: r, seen => if s.f0 < 0 ∨ s.f0 ≥ n then 2 else if seen.any (fun x => x == s.f0) = true then 7 else if kindS s.f1 n false = 0 then setsS n r (seen ++ [s.f0]) else kindS s.f1 n false
def ruleS (l0 : List POp) (l1 : List PSet) (n : Int) : Int := if 6 < l1.length then 1 else if kindS l0 n true = 0 then setsS n l1 [] else kindS l0 n true
theorem setsL_ev (n : Int) (w : -9223372036854775808 ≤ n ∧ n ≤ 9223372036854775807) : ∀ (l : List PSet) (seen : List Int), Ev (fun k => setsL k l seen n) (setsS n l seen)
 | [], _ => Ev.now _
 | s :: r, seen => by
  unfold setsL setsS
  by_cases h1 : s.f0 < 0 ∨ s.f0 ≥ n
  ·simp only [h1, ↓reduceIte]; exact Ev.now _
  simp only [h1, ↓reduceIte]
  by_cases h2 : seen.any (fun x => x == s.f0) = true
  ·simp only [h2, ↓reduceIte]; exact Ev.now _
  simp only [h2, ↓reduceIte]
  refine ev_bind (kind_ev s.f1 n false w) ?_
  by_cases h3 : kindS s.f1 n false = 0
  ·simp only [h3, ↓reduceIte]; exact setsL_ev n w r _
  ·simp only [h3, ↓reduceIte]; exact Ev.now _
theorem rule_ev (l0 : List POp) (l1 : List PSet) (n : Int) (w : 0 ≤ n ∧ n ≤ 1000000) : Ev (fun k => zBM.f k l0 l1 n) (ruleS l0 l1 n) := by
 unfold zBM.f ruleS
 simp only [w.2, ↓reduceIte]
 by_cases h : 6 < l1.length
 ·simp only [h, ↓reduceIte]; exact Ev.now _
 simp only [h, ↓reduceIte]
 refine ev_bind (kind_ev l0 n true (by omega)) ?_
 by_cases h3 : kindS l0 n true = 0
 ·simp only [h3, ↓reduceIte]; exact setsL_ev n (by omega) l1 []
 ·simp only [h3, ↓reduceIte]; exact Ev.now _
theorem rule_l1 (n : Int) (w : 0 ≤ n ∧ n ≤ 1000000) (g : List POp) (l : List PSet) (hl : l.length ≤ 6) (v : PSet) (i : Nat) (hi : i < l.length) (R : Int) (hR : Ev (fun k => zAG.l1 k n i i g l v.f0 v.f1) R) (d : Nat) : ∀ j : Nat, j + d = i →
  Ev (fun k => zAG.l1 k n i j g l v.f0 v.f1) (if (((l.take i).drop j).map (·.f0)).any (fun x => x == v.f0) = true then 7 else R) := by
 induction d with
 | zero =>
  intro j hj
  obtain rfl : j = i := by omega
  rw [List.drop_of_length_le (by rw [List.length_take]; omega)]
  exact hR
 | succ d ih =>
  intro j hj
  have hjl : j < l.length := by omega
  have c1 : (j : Int) < (i : Int) := by omega
  have c2 : (0 : Int) ≤ (j : Int) := by omega
  have c3 : (j : Int) < (l.length : Int) := by omega
  have w1 : wrap64 ((j : Int) + 1) = ((j + 1 : Nat) : Int) := by rw [wrap_id (by omega) (by omega)]; rfl
  have hd : (l.take i).drop j = l[j] :: (l.take i).drop (j + 1) := by
   have hlt : j < (l.take i).length := by rw [List.length_take]; omega
   rw [List.drop_eq_getElem_cons hlt, List.getElem_take]
  refine ev_succ ?_
  rw [hd, List.map_cons, List.any_cons]
  by_cases e : l[j].f0 = v.f0
  ·have b1 : (l[j].f0 == v.f0) = true := beq_iff_eq.2 e
   rw [b1, Bool.true_or, if_pos rfl]
   simp only [zAG.l1, ↓reduceIte, c1, c2, c3, rdS_get l j hjl, e]
   exact Ev.now _
  ·have b1 : (l[j].f0 == v.f0) = false := beq_eq_false_iff_ne.2 e
   rw [b1, Bool.false_or]
   simp only [zAG.l1, ↓reduceIte, c1, c2, c3, rdS_get l j hjl, e, w1]
   exact ih (j + 1) (by omega)
theorem rule_end (n : Int) (e : Int) (he : ¬ e = 0) (i : Nat) (g : List POp) (l : List PSet) : Ev (fun k => zAG.l0 k n e i g l) e := by
 have hj : Ev (fun k => zAG.j1 k n e i false g l) e := by
  refine ev_succ ?_
  simp only [zAG.j1, Bool.false_eq_true, ↓reduceIte]
  exact Ev.now _
 have b1 : (e == 0) = false := beq_eq_false_iff_ne.2 he
 refine ev_succ ?_
 simp only [zAG.l0, b1, ite_self]
 exact hj
theorem rule_l0 (n : Int) (w : 0 ≤ n ∧ n ≤ 1000000) (g : List POp) (l : List PSet) (hl : l.length ≤ 6) (d : Nat) : ∀ i : Nat, i + d = l.length → Ev (fun k => zAG.l0 k n 0 i g l) (setsS n (l.drop i) ((l.take i).map (·.f0))) := by
 induction d with
 | zero =>
  intro i hi
  rw [List.drop_of_length_le (by omega)]
  have c1 : ¬ (i : Int) < (l.length : Int) := by omega
  refine ev_succ ?_
  simp only [zAG.l0, ↓reduceIte, c1]
  refine ev_succ ?_
  simp only [zAG.j1, Bool.false_eq_true, ↓reduceIte]
  exact Ev.now _
 | succ d ih =>
  intro i hi
  have hil : i < l.length := by omega
  have c1 : (i : Int) < (l.length : Int) := by omega
  have c2 : (0 : Int) ≤ (i : Int) := by omega
  have w1 : wrap64 ((i : Int) + 1) = ((i + 1 : Nat) : Int) := by rw [wrap_id (by omega) (by omega)]; rfl
  have w2 : wrap64 (n - 1) = n - 1 := wrap_id (by omega) (by omega)
  refine ev_succ ?_
  simp only [zAG.l0, ↓reduceIte, c1, beq_self_eq_true]
  refine ev_succ ?_
  rw [List.drop_eq_getElem_cons hil, setsS]
  by_cases h1 : 0 ≤ l[i].f0 ∧ l[i].f0 ≤ n - 1
  case neg =>
   have d1 : decide (0 ≤ l[i].f0 ∧ l[i].f0 ≤ n - 1) = false := decide_eq_false h1
   rw [if_pos (by omega)]
   simp only [zAG.j1, ↓reduceIte, c1, c2, rdS_get l i hil, inE_eq, w2, d1, x_bind, Bool.false_eq_true]
   exact Ev.now _
  have d1 : decide (0 ≤ l[i].f0 ∧ l[i].f0 ≤ n - 1) = true := decide_eq_true h1
  rw [if_neg (by omega)]
  simp only [zAG.j1, ↓reduceIte, c1, c2, rdS_get l i hil, inE_eq, w2, d1, x_bind]
  have ht : Ev (fun k => zAG.l1 k n i i g l l[i].f0 l[i].f1) (if kindS l[i].f1 n false = 0 then setsS n (l.drop (i + 1)) ((l.take (i + 1)).map (·.f0)) else kindS l[i].f1 n false) := by
   have c3 : ¬ (i : Int) < (i : Int) := by omega
   refine ev_succ ?_
   simp only [zAG.l1, ↓reduceIte, c3, w1]
   refine ev_bind (kindFault_ev l[i].f1 n false (by omega)) ?_
   by_cases h3 : kindS l[i].f1 n false = 0
   ·simp only [h3, ↓reduceIte]
    exact ih (i + 1) (by omega)
   ·simp only [h3, ↓reduceIte]
    exact rule_end n _ h3 _ g l
  have h0 := rule_l1 n w g l hl l[i] i hil _ ht i 0 (by omega)
  rw [List.drop_zero, List.take_succ_eq_append_getElem hil, List.map_append] at h0
  exact h0
theorem ruleFault_ev (l0 : List POp) (l1 : List PSet) (n : Int) (w : 0 ≤ n ∧ n ≤ 1000000) : Ev (fun k => zAG.f k l0 l1 n) (ruleS l0 l1 n) := by
 unfold zAG.f ruleS
 by_cases h : 6 < l1.length
 ·have c1 : (l1.length : Int) > 6 := by omega
  simp only [c1, h, ↓reduceIte]
  exact Ev.now _
 have c1 : ¬ (l1.length : Int) > 6 := by omega
 simp only [c1, h, ↓reduceIte]
 refine ev_bind (kindFault_ev l0 n true (by omega)) ?_
 by_cases h3 : kindS l0 n true = 0
 ·simp only [h3, ↓reduceIte]
  exact rule_l0 n w l0 l1 (by omega) l1.length 0 (by omega)
 ·simp only [h3, ↓reduceIte]
  exact rule_end n _ h3 0 l0 l1
def rulesS (n : Int) : List PRule → Int
 | [] => 0
 | r :: rs => if ruleS r.f0 r.f1 n = 0 then rulesS n rs else ruleS r.f0 r.f1 n
def modelS (vs : List PVar) (rs : List PRule) : Int := if varsS vs = 0 then (if 12 < rs.length then 1 else rulesS (vs.length : Int) rs) else varsS vs
theorem varsS_len {vs : List PVar} (h : varsS vs = 0) : vs.length ≤ 6 := by
 unfold varsS at h
 split at h
 ·omega
 ·omega
theorem check_l0 (vs : List PVar) (hv : vs.length ≤ 6) (rs : List PRule) (hr : rs.length ≤ 12) (d : Nat) : ∀ i : Nat, i + d = rs.length → Ev (fun k => zAu.l0 k rs (rs.length : Int) i vs rs) (rulesS (vs.length : Int) (rs.drop i)) := by
 induction d with
 | zero =>
  intro i hi
  rw [List.drop_of_length_le (by omega)]
  have c1 : ¬ (i : Int) < (rs.length : Int) := by omega
  refine ev_succ ?_
  simp only [zAu.l0, ↓reduceIte, c1]
  exact Ev.now _
 | succ d ih =>
  intro i hi
  have hil : i < rs.length := by omega
  have c1 : (i : Int) < (rs.length : Int) := by omega
  have c2 : (0 : Int) ≤ (i : Int) := by omega
  have w1 : wrap64 ((i : Int) + 1) = ((i + 1 : Nat) : Int) := by rw [wrap_id (by omega) (by omega)]; rfl
  refine ev_succ ?_
  simp only [zAu.l0, ↓reduceIte, c1, c2, rdR_get rs i hil, w1]
  rw [List.drop_eq_getElem_cons hil, rulesS]
  refine ev_bind (rule_ev rs[i].f0 rs[i].f1 (vs.length : Int) (by omega)) ?_
  by_cases h3 : ruleS rs[i].f0 rs[i].f1 (vs.length : Int) = 0
  ·simp only [h3, ↓reduceIte]
   exact ih (i + 1) (by omega)
  ·simp only [h3, ↓reduceIte]
   exact Ev.now _
theorem modelCheck_ev (vs : List PVar) (rs : List PRule) : Ev (fun k => zAu.f k vs rs) (modelS vs rs) := by
 unfold zAu.f modelS
 refine ev_call (variables_eq vs) ?_
 by_cases h : varsS vs = 0
 ·simp only [h, ↓reduceIte]
  by_cases h2 : 12 < rs.length
  ·have c1 : (rs.length : Int) > 12 := by omega
   simp only [h2, c1, ↓reduceIte]
   exact Ev.now _
  ·have c1 : ¬ (rs.length : Int) > 12 := by omega
   simp only [h2, c1, ↓reduceIte]
   exact check_l0 vs (varsS_len h) rs (by omega) rs.length 0 (by omega)
 ·simp only [h, ↓reduceIte]
  exact Ev.now _
theorem fault_end (e : Int) (he : ¬ e = 0) (i : Nat) (vs : List PVar) (rs : List PRule) : Ev (fun k => zAL.l0 k e i vs rs) e := by
 refine ev_succ ?_
 simp only [zAL.l0, he, ↓reduceIte, ite_self]
 exact Ev.now _
theorem zBa (vs : List PVar) (hv : vs.length ≤ 6) (rs : List PRule) (hr : rs.length ≤ 12) (d : Nat) : ∀ i : Nat, i + d = rs.length → Ev (fun k => zAL.l0 k 0 i vs rs) (rulesS (vs.length : Int) (rs.drop i)) := by
 induction d with
 | zero =>
  intro i hi
  rw [List.drop_of_length_le (by omega)]
  have c1 : ¬ (i : Int) < (rs.length : Int) := by omega
  refine ev_succ ?_
  simp only [zAL.l0, ↓reduceIte, c1]
  exact Ev.now _
 | succ d ih =>
  intro i hi
  have hil : i < rs.length := by omega
  have c1 : (i : Int) < (rs.length : Int) := by omega
  have c2 : (0 : Int) ≤ (i : Int) := by omega
  have w1 : wrap64 ((i : Int) + 1) = ((i + 1 : Nat) : Int) := by rw [wrap_id (by omega) (by omega)]; rfl
  refine ev_succ ?_
  simp only [zAL.l0, ↓reduceIte, c1, c2, rdR_get rs i hil, w1]
  rw [List.drop_eq_getElem_cons hil, rulesS]
  refine ev_bind (ruleFault_ev rs[i].f0 rs[i].f1 (vs.length : Int) (by omega)) ?_
  by_cases h3 : ruleS rs[i].f0 rs[i].f1 (vs.length : Int) = 0
  ·simp only [h3, ↓reduceIte]
   exact ih (i + 1) (by omega)
  ·simp only [h3, ↓reduceIte]
   exact fault_end _ h3 _ vs rs
theorem modelFault_ev (vs : List PVar) (rs : List PRule) : Ev (fun k => zAL.f k vs rs) (modelS vs rs) := by
 unfold zAL.f modelS
 refine ev_bind (varsFault_ev vs) ?_
 by_cases h : varsS vs = 0
 ·simp only [h, ↓reduceIte]
  by_cases h2 : 12 < rs.length
  ·have c1 : (rs.length : Int) > 12 := by omega
   simp only [h2, c1, ↓reduceIte]
   exact Ev.now _
  ·have c1 : ¬ (rs.length : Int) > 12 := by omega
   simp only [h2, c1, ↓reduceIte]
   exact zBa vs (varsS_len h) rs (by omega) rs.length 0 (by omega)
 ·simp only [h, ↓reduceIte]
  exact Ev.now _
theorem modelS_vars {vs : List PVar} {rs : List PRule} (h : modelS vs rs = 0) : varsS vs = 0 := by
 unfold modelS at h
 split at h
 ·assumption
 ·assumption
theorem modelS_len {vs : List PVar} {rs : List PRule} (h : modelS vs rs = 0) : vs.length ≤ 6 := varsS_len (modelS_vars h)
theorem models_l1 (vs : List PVar) (rs : List PRule) (i : Nat) (hi : i < rs.length) (hr : rs.length * 48 ≤ 140737488351232) (hs : rs[i].f1.length * 32 ≤ 140737488351232) (ho : ∀ s ∈ rs[i].f1, s.f1.length * 16 ≤ 140737488351232) (acc : List PRule) (ha : acc.length = i) (t : List POp) (R : List PVar × List PRule)
  (hR : Ev (fun k => zAV.l0 k ((i + 1 : Nat) : Int) vs rs vs (acc ++ [⟨t, rs[i].f1⟩])) R) (d : Nat) : ∀ (j : Nat) (sa : List PSet), j + d = rs[i].f1.length → sa = rs[i].f1.take j → Ev (fun k => zAV.l1 k i j vs rs vs acc t sa) R := by
 induction d with
 | zero =>
  intro j sa hj hsa
  rw [List.take_of_length_le (by omega)] at hsa
  subst hsa
  have c1 : (0 : Int) ≤ (i : Int) := by omega
  have c2 : (i : Int) < (rs.length : Int) := by omega
  have c3 : ¬ (j : Int) < (rs[i].f1.length : Int) := by omega
  have c4 : acc.length < 2932031007402 := by omega
  have w1 : wrap64 ((i : Int) + 1) = ((i + 1 : Nat) : Int) := by rw [wrap_id (by omega) (by omega)]; rfl
  refine ev_succ ?_
  simp only [zAV.l1, ↓reduceIte, c1, c2, rdR_get rs i hi, c3, c4, w1]
  exact hR
 | succ d ih =>
  intro j sa hj hsa
  have hjl : j < rs[i].f1.length := by omega
  have c1 : (0 : Int) ≤ (i : Int) := by omega
  have c2 : (i : Int) < (rs.length : Int) := by omega
  have c3 : (j : Int) < (rs[i].f1.length : Int) := by omega
  have c4 : (0 : Int) ≤ (j : Int) := by omega
  have c5 : sa.length < 4398046511104 := by rw [hsa, List.length_take]; omega
  have w1 : wrap64 ((j : Int) + 1) = ((j + 1 : Nat) : Int) := by rw [wrap_id (by omega) (by omega)]; rfl
  have ho' := ops_eq rs[i].f1[j].f1 (ho _ (List.getElem_mem hjl))
  refine ev_succ ?_
  simp only [zAV.l1, ↓reduceIte, c1, c2, rdR_get rs i hi, c3, c4, c5, w1, rdS_get rs[i].f1 j hjl, ho', x_bind]
  exact ih (j + 1) _ (by omega) (by rw [List.take_succ_eq_append_getElem hjl, hsa])
theorem models_l0 (vs : List PVar) (rs : List PRule) (hr : rs.length * 48 ≤ 140737488351232) (hs : ∀ r ∈ rs, r.f0.length * 16 ≤ 140737488351232 ∧ r.f1.length * 32 ≤ 140737488351232 ∧ ∀ s ∈ r.f1, s.f1.length * 16 ≤ 140737488351232) (d : Nat) : ∀ (i : Nat) (acc : List PRule), i + d = rs.length → acc = rs.take i → Ev (fun k => zAV.l0 k i vs rs vs acc) (vs, rs) := by
 induction d with
 | zero =>
  intro i acc hi ha
  rw [List.take_of_length_le (by omega)] at ha
  subst ha
  have c1 : ¬ (i : Int) < (acc.length : Int) := by omega
  refine ev_succ ?_
  simp only [zAV.l0, ↓reduceIte, c1]
  exact Ev.now _
 | succ d ih =>
  intro i acc hi ha
  have hil : i < rs.length := by omega
  have c1 : (i : Int) < (rs.length : Int) := by omega
  have c2 : (0 : Int) ≤ (i : Int) := by omega
  obtain ⟨h0, h1, h2⟩ := hs _ (List.getElem_mem hil)
  refine ev_succ ?_
  simp only [zAV.l0, ↓reduceIte, c1, c2, rdR_get rs i hil, ops_eq rs[i].f0 h0, x_bind]
  refine models_l1 vs rs i hil hr h1 h2 acc (by rw [ha, List.length_take]; omega) rs[i].f0 _ ?_ rs[i].f1.length 0 [] (by omega) rfl
  exact ih (i + 1) _ (by omega) (by rw [List.take_succ_eq_append_getElem hil, ha])
theorem models_ev (x : S25) (h : G25 x) : Ev (fun k => zAV.f k x.f0 x.f1) (x.f0, x.f1) := by
 obtain ⟨⟨h0, _⟩, h1, h2⟩ := h
 unfold zAV.f
 have c1 : ([] : List PVar).length + x.f0.length < 3518437208883 := by simp; omega
 simp only [c1, ↓reduceIte, List.nil_append]
 exact models_l0 x.f0 x.f1 h1 (fun r hr => ⟨(h2 r hr).1.1, (h2 r hr).2.1, fun s hs => ((h2 r hr).2.2 s hs).2.1⟩) x.f1.length 0 [] (by omega) rfl
theorem rdL_get (l : List (List POp)) (i : Nat) (h : i < l.length) : zBB l (i : Int) = l[i] := by unfold zBB; simp [h]
theorem terms_l0 (l : List (List POp)) (hl : l.length * 24 ≤ 140737488351232) (ho : ∀ x ∈ l, x.length * 16 ≤ 140737488351232) (d : Nat) : ∀ (i : Nat) (acc : List (List POp)), i + d = l.length → acc = l.take i → Ev (fun k => zAr.l0 k l acc i) l := by
 induction d with
 | zero =>
  intro i acc hi ha
  rw [List.take_of_length_le (by omega)] at ha
  subst ha
  have c1 : ¬ (i : Int) < (acc.length : Int) := by omega
  refine ev_succ ?_
  simp only [zAr.l0, ↓reduceIte, c1]
  exact Ev.now _
 | succ d ih =>
  intro i acc hi ha
  have hil : i < l.length := by omega
  have c1 : (i : Int) < (l.length : Int) := by omega
  have c2 : (0 : Int) ≤ (i : Int) := by omega
  have c5 : acc.length < 5864062014805 := by rw [ha, List.length_take]; omega
  have w1 : wrap64 ((i : Int) + 1) = ((i + 1 : Nat) : Int) := by rw [wrap_id (by omega) (by omega)]; rfl
  refine ev_succ ?_
  simp only [zAr.l0, ↓reduceIte, c1, c2, c5, w1, rdL_get l i hil, ops_eq l[i] (ho _ (List.getElem_mem hil)), Option.bind_some]
  exact ih (i + 1) _ (by omega) (by rw [List.take_succ_eq_append_getElem hil, ha])
theorem terms_ev (l : List (List POp)) (hl : l.length * 24 ≤ 140737488351232) (ho : ∀ x ∈ l, x.length * 16 ≤ 140737488351232) : Ev (fun k => zAr.f k l) l := terms_l0 l hl ho l.length 0 [] (by omega) rfl
def propsL (n : Int) : List (List POp) → Int
 | [] => 0
 | p :: ps => if kindS p n true = 0 then propsL n ps else kindS p n true
def propsS (vs : List PVar) (rs : List PRule) (l : List (List POp)) : Int := if modelS vs rs = 0 then (if 6 < l.length then 1 else propsL (vs.length : Int) l) else modelS vs rs
theorem props_l0 (vs : List PVar) (hv : vs.length ≤ 6) (rs : List PRule) (l : List (List POp)) (hl : l.length ≤ 6) (d : Nat) : ∀ i : Nat, i + d = l.length → Ev (fun k => zA0.l0 k l (l.length : Int) i vs rs) (propsL (vs.length : Int) (l.drop i)) := by
 induction d with
 | zero =>
  intro i hi
  rw [List.drop_of_length_le (by omega)]
  have c1 : ¬ (i : Int) < (l.length : Int) := by omega
  refine ev_succ ?_
  simp only [zA0.l0, ↓reduceIte, c1]
  exact Ev.now _
 | succ d ih =>
  intro i hi
  have hil : i < l.length := by omega
  have c1 : (i : Int) < (l.length : Int) := by omega
  have c2 : (0 : Int) ≤ (i : Int) := by omega
  have w1 : wrap64 ((i : Int) + 1) = ((i + 1 : Nat) : Int) := by rw [wrap_id (by omega) (by omega)]; rfl
  refine ev_succ ?_
  simp only [zA0.l0, ↓reduceIte, c1, c2, rdL_get l i hil, w1]
  rw [List.drop_eq_getElem_cons hil, propsL]
  refine ev_bind (kind_ev l[i] (vs.length : Int) true (by omega)) ?_
  by_cases h3 : kindS l[i] (vs.length : Int) true = 0
  ·simp only [h3, ↓reduceIte]
   exact ih (i + 1) (by omega)
  ·simp only [h3, ↓reduceIte]
   exact Ev.now _
theorem props_ev (vs : List PVar) (rs : List PRule) (l : List (List POp)) : Ev (fun k => zA0.f k vs rs l) (propsS vs rs l) := by
 unfold zA0.f propsS
 refine ev_bind (modelCheck_ev vs rs) ?_
 by_cases h : modelS vs rs = 0
 ·simp only [h, ↓reduceIte]
  by_cases h2 : 6 < l.length
  ·have c1 : (l.length : Int) > 6 := by omega
   simp only [h2, c1, ↓reduceIte]
   exact Ev.now _
  ·have c1 : ¬ (l.length : Int) > 6 := by omega
   simp only [h2, c1, ↓reduceIte]
   exact props_l0 vs (modelS_len h) rs l (by omega) l.length 0 (by omega)
 ·simp only [h, ↓reduceIte]
  exact Ev.now _
theorem propsFault_end (e : Int) (he : ¬ e = 0) (i : Nat) (vs : List PVar) (rs : List PRule) (l : List (List POp)) : Ev (fun k => zAC.l0 k l e i vs rs) e := by
 refine ev_succ ?_
 simp only [zAC.l0, he, ↓reduceIte, ite_self]
 exact Ev.now _
theorem propsFault_l0 (vs : List PVar) (hv : vs.length ≤ 6) (rs : List PRule) (l : List (List POp)) (hl : l.length ≤ 6) (d : Nat) : ∀ i : Nat, i + d = l.length → Ev (fun k => zAC.l0 k l 0 i vs rs) (propsL (vs.length : Int) (l.drop i)) := by
 induction d with
 | zero =>
  intro i hi
  rw [List.drop_of_length_le (by omega)]
  have c1 : ¬ (i : Int) < (l.length : Int) := by omega
  refine ev_succ ?_
  simp only [zAC.l0, ↓reduceIte, c1]
  exact Ev.now _
 | succ d ih =>
  intro i hi
  have hil : i < l.length := by omega
  have c1 : (i : Int) < (l.length : Int) := by omega
  have c2 : (0 : Int) ≤ (i : Int) := by omega
  have w1 : wrap64 ((i : Int) + 1) = ((i + 1 : Nat) : Int) := by rw [wrap_id (by omega) (by omega)]; rfl
  refine ev_succ ?_
  simp only [zAC.l0, ↓reduceIte, c1, c2, rdL_get l i hil, w1]
  rw [List.drop_eq_getElem_cons hil, propsL]
  refine ev_bind (kindFault_ev l[i] (vs.length : Int) true (by omega)) ?_
  by_cases h3 : kindS l[i] (vs.length : Int) true = 0
  ·simp only [h3, ↓reduceIte]
   exact ih (i + 1) (by omega)
  ·simp only [h3, ↓reduceIte]
   exact propsFault_end _ h3 _ vs rs l
theorem propsFault_ev (vs : List PVar) (rs : List PRule) (l : List (List POp)) : Ev (fun k => zAC.f k vs rs l) (propsS vs rs l) := by
 unfold zAC.f propsS
 have j1 : ∀ (e r : Int), Ev (fun k => zAC.l0 k l e 0 vs rs) r → Ev (fun k => zAC.j1 k l e vs rs) r := fun e r h => by
  refine ev_succ ?_
  simp only [zAC.j1]
  exact h
 refine ev_bind (modelFault_ev vs rs) ?_
 by_cases h : modelS vs rs = 0
 ·simp only [h, ↓reduceIte]
  by_cases h2 : 6 < l.length
  ·have c1 : decide ((l.length : Int) > 6) = true := decide_eq_true (by omega)
   simp only [h2, c1, ↓reduceIte]
   refine ev_succ ?_
   simp only [zAC.j0, ↓reduceIte]
   exact j1 1 1 (propsFault_end 1 (by decide) 0 vs rs l)
  ·have c1 : decide ((l.length : Int) > 6) = false := decide_eq_false (by omega)
   simp only [h2, c1, ↓reduceIte]
   refine ev_succ ?_
   simp only [zAC.j0, Bool.false_eq_true, ↓reduceIte]
   exact j1 0 _ (propsFault_l0 vs (modelS_len h) rs l (by omega) l.length 0 (by omega))
 ·simp only [h, ↓reduceIte]
  refine ev_succ ?_
  simp only [zAC.j0, Bool.false_eq_true, ↓reduceIte]
  exact j1 _ _ (propsFault_end _ h 0 vs rs l)
theorem tasks_ev (x : S29) (h : G29 x) : Ev (fun k => zAv.f k x.f0.f0 x.f0.f1 x.f1 x.f2) (x.f0.f0, x.f0.f1, x.f1, x.f2) := by
 obtain ⟨h0, ⟨h1, h1'⟩, h2, _⟩ := h
 unfold zAv.f
 exact ev_bind (models_ev x.f0 h0) (ev_bind (terms_ev x.f1 h1 (fun y hy => (h1' y hy).1)) (ev_call (ops_eq x.f2 h2) (Ev.now _)))
def taskS (vs : List PVar) (rs : List PRule) (ps : List (List POp)) (f : List POp) : Int := if propsS vs rs ps = 0 then checkS f (ps.length : Int) else propsS vs rs ps
theorem taskCheck_ev (vs : List PVar) (rs : List PRule) (ps : List (List POp)) (f : List POp) : Ev (fun k => zA7.f k vs rs ps f) (taskS vs rs ps f) := by
 unfold zA7.f taskS
 refine ev_bind (props_ev vs rs ps) ?_
 by_cases h : propsS vs rs ps = 0
 ·simp only [h, ↓reduceIte]
  exact ev_bind (check_ev f (ps.length : Int)) (Ev.now _)
 ·simp only [h, ↓reduceIte]
  exact Ev.now _
theorem taskFault_ev (vs : List PVar) (rs : List PRule) (ps : List (List POp)) (f : List POp) : Ev (fun k => zAs.f k vs rs ps f) (taskS vs rs ps f) := by
 unfold zAs.f taskS
 refine ev_bind (propsFault_ev vs rs ps) ?_
 by_cases h : propsS vs rs ps = 0
 ·simp only [h, ↓reduceIte]
  exact ev_bind (formulaFault_ev f (ps.length : Int)) (Ev.now _)
 ·simp only [h, ↓reduceIte]
  exact Ev.now _
def VOk (v : PVar) : Prop := -1000 ≤ v.f1 ∧ v.f1 ≤ v.f3 ∧ v.f3 ≤ v.f2 ∧ v.f2 ≤ 1000 ∧ v.f2 - v.f1 < 64
def prodV : List PVar → Int
 | [] => 1
 | v :: r => (v.f2 - v.f1 + 1) * prodV r
theorem prodV_cons (v : PVar) (r : List PVar) : prodV (v :: r) = (v.f2 - v.f1 + 1) * prodV r := rfl
theorem prodV_pos : ∀ {l : List PVar}, (∀ v ∈ l, VOk v) → 1 ≤ prodV l
 | [], _ => Int.le_refl _
 | v :: r, h => by
  have h1 := prodV_pos (l := r) (fun u hu => h u (by simp [hu]))
  have h2 := h v (by simp)
  unfold VOk at h2
  unfold prodV
  have : 1 * 1 ≤ (v.f2 - v.f1 + 1) * prodV r := Int.mul_le_mul (by omega) h1 (by decide) (by omega)
  omega
theorem varsL_ok : ∀ (l : List PVar) (seen : List ByteArray) (st : Int), varsL l seen st = 0 → 1 ≤ st → st ≤ 4096 → (∀ v ∈ l, VOk v) ∧ st * prodV l ≤ 4096
 | [], _, st, _, _, h => ⟨fun v hv => (nomatch hv), by unfold prodV; omega⟩
 | v :: r, seen, st, h, h1, h2 => by
  unfold varsL at h
  split at h
  ·omega
  split at h
  ·omega
  split at h
  ·omega
  rename_i hb
  split at h
  ·omega
  rename_i hs
  split at h
  ·omega
  rename_i hp
  have hsp : (1 : Int) ≤ v.f2 - v.f1 + 1 := by omega
  have hpp : 1 * 1 ≤ st * (v.f2 - v.f1 + 1) := Int.mul_le_mul h1 hsp (by decide) (by omega)
  obtain ⟨g1, g2⟩ := varsL_ok r _ _ h (by omega) (by omega)
  refine ⟨fun u hu => ?_, ?_⟩
  ·rcases List.mem_cons.1 hu with rfl | hu
   ·unfold VOk; omega
   ·exact g1 u hu
  ·unfold prodV
   rw [← Int.mul_assoc]
   exact g2
theorem vars_ok {vs : List PVar} (h : varsS vs = 0) : (∀ v ∈ vs, VOk v) ∧ prodV vs ≤ 4096 := by
 unfold varsS at h
 split at h
 ·omega
 ·have := varsL_ok vs [] 1 h (by decide) (by decide)
  rw [Int.one_mul] at this
  exact this
theorem drop_ok {vs : List PVar} (h : ∀ v ∈ vs, VOk v) (i : Nat) : ∀ v ∈ vs.drop i, VOk v := fun v hv => h v (List.mem_of_mem_drop hv)
theorem prodV_drop {vs : List PVar} (h : ∀ v ∈ vs, VOk v) (i : Nat) : prodV (vs.drop i) ≤ prodV vs := by
 induction vs generalizing i with
 | nil => simp
 | cons v r ih =>
  cases i with
  | zero => exact Int.le_refl _
  | succ i =>
   have h1 := ih (fun u hu => h u (by simp [hu])) i
   have h2 := h v (by simp)
   have h3 := prodV_pos (l := r) (fun u hu => h u (by simp [hu]))
   unfold VOk at h2
   rw [List.drop_succ_cons]
   have : 1 * prodV r ≤ (v.f2 - v.f1 + 1) * prodV r := Int.mul_le_mul (by omega) (Int.le_refl _) (by omega) (by omega)
   rw [prodV_cons]
   omega
theorem span_wrap {v : PVar} (h : VOk v) : wrap64 (wrap64 (v.f2 - v.f1) + 1) = v.f2 - v.f1 + 1 := by
 unfold VOk at h
 rw [wrap_id (x := v.f2 - v.f1) (by omega) (by omega), wrap_id (by omega) (by omega)]
theorem part_prod {a : Int} {v : PVar} {r : List PVar} (ha : 1 ≤ a) (hv : VOk v) (hr : ∀ u ∈ r, VOk u) (hp : a * prodV (v :: r) ≤ 4096) : 1 ≤ a * (v.f2 - v.f1 + 1) ∧ a * (v.f2 - v.f1 + 1) ≤ 4096 ∧ a * (v.f2 - v.f1 + 1) * prodV r ≤ 4096 := by
 rw [prodV_cons, ← Int.mul_assoc] at hp
 have h3 := prodV_pos hr
 unfold VOk at hv
 have hpp : 1 * 1 ≤ a * (v.f2 - v.f1 + 1) := Int.mul_le_mul ha (by omega) (by decide) (by omega)
 have : a * (v.f2 - v.f1 + 1) * 1 ≤ a * (v.f2 - v.f1 + 1) * prodV r := Int.mul_le_mul (Int.le_refl _) h3 (by decide) (by omega)
 exact ⟨by omega, by omega, hp⟩
theorem behind_l0 (vs : List PVar) (rs : List PRule) (hv : vs.length ≤ 6) (ho : ∀ v ∈ vs, VOk v) (d : Nat) : ∀ (i : Nat) (a : Int), i + d = vs.length → 1 ≤ a → a * prodV (vs.drop i) ≤ 4096 → Ev (fun k => zAZ.l0 k a i vs rs) (a * prodV (vs.drop i)) := by
 induction d with
 | zero =>
  intro i a hi ha hp
  rw [List.drop_of_length_le (by omega)]
  have c1 : ¬ (i : Int) < (vs.length : Int) := by omega
  refine ev_succ ?_
  simp only [zAZ.l0, ↓reduceIte, c1, prodV, Int.mul_one]
  exact Ev.now _
 | succ d ih =>
  intro i a hi ha hp
  have hil : i < vs.length := by omega
  have c1 : (i : Int) < (vs.length : Int) := by omega
  have c2 : (0 : Int) ≤ (i : Int) := by omega
  have w1 : wrap64 ((i : Int) + 1) = ((i + 1 : Nat) : Int) := by rw [wrap_id (by omega) (by omega)]; rfl
  have hvi := ho _ (List.getElem_mem hil)
  rw [List.drop_eq_getElem_cons hil] at hp ⊢
  obtain ⟨p1, p2, p3⟩ := part_prod ha hvi (drop_ok ho _) hp
  have w2 : wrap64 (a * (vs[i].f2 - vs[i].f1 + 1)) = a * (vs[i].f2 - vs[i].f1 + 1) := wrap_id (by omega) (by omega)
  refine ev_succ ?_
  simp only [zAZ.l0, ↓reduceIte, c1, c2, rdV_get vs i hil, w1, span_wrap hvi, w2]
  rw [prodV_cons, ← Int.mul_assoc]
  exact ih (i + 1) _ (by omega) p1 p3
theorem behind_ev (vs : List PVar) (rs : List PRule) (hv : vs.length ≤ 6) (ho : ∀ v ∈ vs, VOk v) (hp : prodV vs ≤ 4096) (i : Nat) (hi : i ≤ vs.length) (a : Int) (ha : a + 1 = (i : Int)) : Ev (fun k => zAZ.f k vs rs a) (prodV (vs.drop i)) := by
 have w1 : wrap64 (a + 1) = (i : Int) := by rw [wrap_id (by omega) (by omega)]; exact ha
 unfold zAZ.f
 rw [w1]
 have h := behind_l0 vs rs hv ho (vs.length - i) i 1 (by omega) (by decide) (by rw [Int.one_mul]; have := prodV_drop ho i; omega)
 rw [Int.one_mul] at h
 exact h
theorem count_l0 (vs : List PVar) (hv : vs.length ≤ 6) (ho : ∀ v ∈ vs, VOk v) (d : Nat) : ∀ (i : Nat) (a : Int), i + d = vs.length → 1 ≤ a → a * prodV (vs.drop i) ≤ 4096 → Ev (fun k => zAw.l0 k a vs (vs.length : Int) i) (a * prodV (vs.drop i), 0) := by
 induction d with
 | zero =>
  intro i a hi ha hp
  rw [List.drop_of_length_le (by omega)]
  have c1 : ¬ (i : Int) < (vs.length : Int) := by omega
  refine ev_succ ?_
  simp only [zAw.l0, ↓reduceIte, c1, prodV, Int.mul_one]
  exact Ev.now _
 | succ d ih =>
  intro i a hi ha hp
  have hil : i < vs.length := by omega
  have c1 : (i : Int) < (vs.length : Int) := by omega
  have c2 : (0 : Int) ≤ (i : Int) := by omega
  have w1 : wrap64 ((i : Int) + 1) = ((i + 1 : Nat) : Int) := by rw [wrap_id (by omega) (by omega)]; rfl
  have hvi := ho _ (List.getElem_mem hil)
  rw [List.drop_eq_getElem_cons hil] at hp ⊢
  obtain ⟨p1, p2, p3⟩ := part_prod ha hvi (drop_ok ho _) hp
  have w2 : wrap64 (a * (vs[i].f2 - vs[i].f1 + 1)) = a * (vs[i].f2 - vs[i].f1 + 1) := wrap_id (by omega) (by omega)
  refine ev_succ ?_
  simp only [zAw.l0, ↓reduceIte, c1, c2, rdV_get vs i hil, w1, span_wrap hvi, w2]
  rw [prodV_cons, ← Int.mul_assoc]
  exact ih (i + 1) _ (by omega) p1 p3
def countS (vs : List PVar) (rs : List PRule) : Int × Int := if modelS vs rs = 0 then (prodV vs, 0) else (0, modelS vs rs)
theorem count_ev (vs : List PVar) (rs : List PRule) : Ev (fun k => zAw.f k vs rs) (countS vs rs) := by
 unfold zAw.f countS
 refine ev_bind (modelCheck_ev vs rs) ?_
 by_cases h : modelS vs rs = 0
 ·obtain ⟨ho, hp⟩ := vars_ok (modelS_vars h)
  simp only [h, ↓reduceIte]
  have := count_l0 vs (modelS_len h) ho vs.length 0 1 (by omega) (by decide) (by rw [Int.one_mul]; exact hp)
  rw [Int.one_mul] at this
  exact this
 ·simp only [h, ↓reduceIte]
  exact Ev.now _
theorem stateCount_ev (vs : List PVar) (rs : List PRule) : Ev (fun k => zAb.f k vs rs) (countS vs rs) := by
 unfold zAb.f countS
 refine ev_bind (modelFault_ev vs rs) ?_
 by_cases h : modelS vs rs = 0
 ·obtain ⟨ho, hp⟩ := vars_ok (modelS_vars h)
  simp only [h, ↓reduceIte]
  exact ev_bind (behind_ev vs rs (modelS_len h) ho hp 0 (by omega) (-1) (by omega)) (Ev.now _)
 ·simp only [h, ↓reduceIte]
  exact Ev.now _
def valS : List PVar → Int → List Int
 | [], _ => []
 | v :: vs, c => (v.f1 + c / prodV vs) :: valS vs (c % prodV vs)
theorem valS_len : ∀ (vs : List PVar) (c : Int), (valS vs c).length = vs.length
 | [], _ => rfl
 | v :: vs, c => by simp [valS, valS_len vs]
theorem prodV_snoc (l : List PVar) (v : PVar) : prodV (l ++ [v]) = prodV l * (v.f2 - v.f1 + 1) := by
 induction l with
 | nil => simp [prodV]
 | cons u l ih => rw [List.cons_append, prodV_cons, prodV_cons, ih, Int.mul_assoc]
theorem div_mod_parts {c p s : Int} (hc : 0 ≤ c) (hp : 1 ≤ p) (hs : 1 ≤ s) : c / (p * s) = c / s / p ∧ (c % (p * s)) / s = (c / s) % p ∧ (c % (p * s)) % s = c % s := by
 have hps : 0 < p * s := Int.mul_pos (by omega) (by omega)
 refine ⟨by rw [Int.mul_comm, Int.ediv_ediv_of_nonneg (by omega)], ?_, by rw [Int.emod_emod_of_dvd _ (Int.dvd_mul_left p s)]⟩
 have h1 : c = c % (p * s) + (c / (p * s) * p) * s := by
  have := Int.emod_add_mul_ediv c (p * s)
  rw [Int.mul_comm (p * s), ← Int.mul_assoc] at this
  exact this.symm
 have h2 : c / s = c % (p * s) / s + c / (p * s) * p := by
  conv => lhs; rw [h1]
  rw [Int.add_mul_ediv_right _ _ (by omega)]
 rw [h2, Int.add_mul_emod_self_right]
 have r0 : 0 ≤ c % (p * s) := Int.emod_nonneg _ (by omega)
 have r1 : c % (p * s) < p * s := Int.emod_lt_of_pos _ hps
 exact (Int.emod_eq_of_lt (Int.ediv_nonneg r0 (by omega)) (Int.ediv_lt_of_lt_mul (by omega) r1)).symm
theorem valS_last (v : PVar) (hv : VOk v) : ∀ (l : List PVar) (c : Int), (∀ u ∈ l, VOk u) → 0 ≤ c → c < prodV (l ++ [v]) → valS (l ++ [v]) c = valS l (c / (v.f2 - v.f1 + 1)) ++ [v.f1 + c % (v.f2 - v.f1 + 1)]
 | [], c, _, hc, hlt => by
  unfold VOk at hv
  simp only [List.nil_append, valS, prodV, Int.ediv_one, List.cons.injEq, and_true]
  rw [List.nil_append, prodV_cons] at hlt
  unfold prodV at hlt
  rw [Int.emod_eq_of_lt hc (by omega)]
 | u :: l, c, hl, hc, hlt => by
  have hv' := hv
  unfold VOk at hv'
  have hp := prodV_pos (l := l) (fun x hx => hl x (by simp [hx]))
  have hps : 0 < prodV l * (v.f2 - v.f1 + 1) := Int.mul_pos (by omega) (by omega)
  obtain ⟨e1, e2, e3⟩ := div_mod_parts hc hp (show 1 ≤ v.f2 - v.f1 + 1 by omega)
  have hi := valS_last v hv l (c % prodV (l ++ [v])) (fun x hx => hl x (by simp [hx])) (by rw [prodV_snoc]; exact Int.emod_nonneg _ (by omega)) (by rw [prodV_snoc]; exact Int.emod_lt_of_pos _ hps)
  rw [List.cons_append]
  show (u.f1 + c / prodV (l ++ [v])) :: valS (l ++ [v]) (c % prodV (l ++ [v])) = (u.f1 + c / (v.f2 - v.f1 + 1) / prodV l) :: valS l (c / (v.f2 - v.f1 + 1) % prodV l) ++ _
  rw [hi, prodV_snoc, e1, e2, e3]
  rfl
theorem values_l0 (vs : List PVar) (rs : List PRule) (hv : vs.length ≤ 6) (ho : ∀ v ∈ vs, VOk v) (i : Nat) : ∀ (c : Int) (out : List Int), i ≤ vs.length → out.length = vs.length → 0 ≤ c → c < prodV (vs.take i) → prodV (vs.take i) ≤ 4096 →
  Ev (fun k => zAi.l0 k c out ((i : Int) - 1) vs rs) (valS (vs.take i) c ++ out.drop i, 0) := by
 induction i with
 | zero =>
  intro c out hi hl hc hlt hp
  have c1 : ¬ ((0 : Nat) : Int) - 1 ≥ 0 := by decide
  refine ev_succ ?_
  simp only [zAi.l0, ↓reduceIte, c1]
  exact Ev.now _
 | succ i ih =>
  intro c out hi hl hc hlt hp
  have hil : i < vs.length := by omega
  have hvi := ho _ (List.getElem_mem hil)
  have hvi' := hvi
  unfold VOk at hvi'
  have hto : ∀ u ∈ vs.take i, VOk u := fun u hu => ho u (List.mem_of_mem_take hu)
  have hpt := prodV_pos hto
  rw [List.take_succ_eq_append_getElem hil] at hlt hp ⊢
  have hlast := valS_last vs[i] hvi (vs.take i) c hto hc hlt
  rw [prodV_snoc] at hlt hp
  have hsp : prodV (vs.take i) * 1 ≤ prodV (vs.take i) * (vs[i].f2 - vs[i].f1 + 1) := Int.mul_le_mul (Int.le_refl _) (by omega) (by decide) (by omega)
  have e0 : ((i + 1 : Nat) : Int) - 1 = (i : Int) := by omega
  have c1 : (i : Int) ≥ 0 := by omega
  have c2 : (0 : Int) ≤ (i : Int) := by omega
  have c3 : (i : Int) < (vs.length : Int) := by omega
  have c4 : ¬ vs[i].f2 - vs[i].f1 + 1 = 0 := by omega
  have c5 : (i : Int) < (out.length : Int) := by omega
  have w1 : wrap64 ((i : Int) - 1) = (i : Int) - 1 := wrap_id (by omega) (by omega)
  have m0 : 0 ≤ c % (vs[i].f2 - vs[i].f1 + 1) := Int.emod_nonneg _ (by omega)
  have m1 : c % (vs[i].f2 - vs[i].f1 + 1) < vs[i].f2 - vs[i].f1 + 1 := Int.emod_lt_of_pos _ (by omega)
  have q0 : 0 ≤ c / (vs[i].f2 - vs[i].f1 + 1) := Int.ediv_nonneg hc (by omega)
  have q1 : c / (vs[i].f2 - vs[i].f1 + 1) < prodV (vs.take i) := Int.ediv_lt_of_lt_mul (by omega) hlt
  have w2 : wrap64 (c / (vs[i].f2 - vs[i].f1 + 1)) = c / (vs[i].f2 - vs[i].f1 + 1) := wrap_id (by omega) (by omega)
  have w3 : wrap64 (vs[i].f1 + c % (vs[i].f2 - vs[i].f1 + 1)) = vs[i].f1 + c % (vs[i].f2 - vs[i].f1 + 1) := wrap_id (by omega) (by omega)
  refine ev_succ ?_
  rw [e0]
  simp only [zAi.l0, ↓reduceIte, c1, c2, c3, c4, c5, rdV_get vs i hil, span_wrap hvi, tdiv_of hc, tmod_of hc, w1, w2, w3, Int.toNat_natCast]
  refine ev_eq (ih _ _ (by omega) (by rw [List.length_set]; exact hl) q0 q1 (by omega)) ?_
  rw [hlast, List.append_assoc]
  congr 2
  have hol : i < out.length := by omega
  rw [List.drop_set, if_neg (by omega), Nat.sub_self, List.drop_eq_getElem_cons hol]
  rfl
def valuesS (vs : List PVar) (rs : List PRule) (c : Int) : List Int × Int := if modelS vs rs = 0 then (if c < 0 ∨ prodV vs ≤ c then ([], 9) else (valS vs c, 0)) else ([], modelS vs rs)
theorem values_ev (vs : List PVar) (rs : List PRule) (c : Int) : Ev (fun k => zAi.f k vs rs c) (valuesS vs rs c) := by
 unfold zAi.f valuesS
 refine ev_bind (count_ev vs rs) ?_
 unfold countS
 by_cases h : modelS vs rs = 0
 ·obtain ⟨ho, hp⟩ := vars_ok (modelS_vars h)
  have hl := modelS_len h
  simp only [h, ↓reduceIte]
  by_cases h1 : c < 0
  ·simp only [h1, true_or, ↓reduceIte]
   refine ev_succ ?_
   simp only [zAi.j0, ↓reduceIte]
   exact Ev.now _
  by_cases h2 : prodV vs ≤ c
  ·have d2 : decide (c ≥ prodV vs) = true := decide_eq_true h2
   simp only [h1, h2, d2, or_true, ↓reduceIte]
   refine ev_succ ?_
   simp only [zAi.j0, ↓reduceIte]
   exact Ev.now _
  have d2 : decide (c ≥ prodV vs) = false := decide_eq_false (by omega)
  simp only [h1, h2, d2, or_self, ↓reduceIte]
  have c1 : (0 : Int) ≤ (vs.length : Int) := by omega
  have c2 : (vs.length : Int).toNat ≤ 35184372088832 := by omega
  have w1 : wrap64 ((vs.length : Int) - 1) = (vs.length : Int) - 1 := wrap_id (by omega) (by omega)
  refine ev_succ ?_
  simp only [zAi.j0, Bool.false_eq_true, ↓reduceIte, c1, c2, w1]
  have := values_l0 vs rs hl ho vs.length c (List.replicate (vs.length : Int).toNat 0) (Nat.le_refl _) (by simp) (by omega) (by rw [List.take_length]; omega) (by rw [List.take_length]; exact hp)
  rw [List.take_length, List.drop_of_length_le (by simp), List.append_nil] at this
  exact this
 ·simp only [h, ↓reduceIte]
  exact Ev.now _
theorem valuesOf_l0 (vs : List PVar) (rs : List PRule) (hv : vs.length ≤ 6) (ho : ∀ v ∈ vs, VOk v) (hp : prodV vs ≤ 4096) (d : Nat) : ∀ (i : Nat) (c : Int) (acc : List Int), i + d = vs.length → acc.length = i → 0 ≤ c → c < prodV (vs.drop i) →
  Ev (fun k => zAR.l0 k c acc i vs rs) (acc ++ valS (vs.drop i) c, 0) := by
 induction d with
 | zero =>
  intro i c acc hi ha hc hlt
  rw [List.drop_of_length_le (by omega)]
  have c1 : ¬ (i : Int) < (vs.length : Int) := by omega
  refine ev_succ ?_
  simp only [zAR.l0, ↓reduceIte, c1, valS, List.append_nil]
  exact Ev.now _
 | succ d ih =>
  intro i c acc hi ha hc hlt
  have hil : i < vs.length := by omega
  have c1 : (i : Int) < (vs.length : Int) := by omega
  have c2 : (0 : Int) ≤ (i : Int) := by omega
  have c3 : acc.length < 17592186044416 := by omega
  have w1 : wrap64 ((i : Int) + 1) = ((i + 1 : Nat) : Int) := by rw [wrap_id (by omega) (by omega)]; rfl
  have hvi := ho _ (List.getElem_mem hil)
  have hvi' := hvi
  unfold VOk at hvi'
  have hpr := prodV_pos (drop_ok ho (i + 1))
  have hdp := prodV_drop ho i
  have c4 : ¬ prodV (vs.drop (i + 1)) = 0 := by omega
  rw [List.drop_eq_getElem_cons hil] at hlt hdp ⊢
  rw [prodV_cons] at hlt hdp
  have q0 : 0 ≤ c / prodV (vs.drop (i + 1)) := Int.ediv_nonneg hc (by omega)
  have q1 : c / prodV (vs.drop (i + 1)) < vs[i].f2 - vs[i].f1 + 1 := Int.ediv_lt_of_lt_mul (by omega) hlt
  have w2 : wrap64 (c / prodV (vs.drop (i + 1))) = c / prodV (vs.drop (i + 1)) := wrap_id (by omega) (by omega)
  have w3 : wrap64 (vs[i].f1 + c / prodV (vs.drop (i + 1))) = vs[i].f1 + c / prodV (vs.drop (i + 1)) := wrap_id (by omega) (by omega)
  refine ev_succ ?_
  simp only [zAR.l0, ↓reduceIte, c1]
  refine ev_bind (behind_ev vs rs hv ho hp (i + 1) (by omega) (i : Int) (by omega)) ?_
  simp only [↓reduceIte, c2, c3, c4, rdV_get vs i hil, tdiv_of hc, tmod_of hc, w1, w2, w3]
  refine ev_eq (ih (i + 1) _ _ (by omega) (by simp [ha]) (Int.emod_nonneg _ (by omega)) (Int.emod_lt_of_pos _ (by omega))) ?_
  rw [List.append_assoc]
  rfl
theorem valuesOf_ev (vs : List PVar) (rs : List PRule) (c : Int) : Ev (fun k => zAR.f k vs rs c) (valuesS vs rs c) := by
 unfold zAR.f valuesS
 refine ev_bind (stateCount_ev vs rs) ?_
 unfold countS
 by_cases h : modelS vs rs = 0
 ·obtain ⟨ho, hp⟩ := vars_ok (modelS_vars h)
  have hl := modelS_len h
  have hpp := prodV_pos ho
  have w1 : wrap64 (prodV vs - 1) = prodV vs - 1 := wrap_id (by omega) (by omega)
  simp only [h, ↓reduceIte, inE_eq, x_bind, w1]
  by_cases h1 : 0 ≤ c ∧ c ≤ prodV vs - 1
  ·have d1 : decide (0 ≤ c ∧ c ≤ prodV vs - 1) = true := decide_eq_true h1
   rw [if_neg (show ¬ (c < 0 ∨ prodV vs ≤ c) by omega)]
   simp only [d1, ↓reduceIte]
   exact valuesOf_l0 vs rs hl ho hp vs.length 0 c [] (by omega) rfl h1.1 (by rw [List.drop_zero]; omega)
  ·have d1 : decide (0 ≤ c ∧ c ≤ prodV vs - 1) = false := decide_eq_false h1
   rw [if_pos (show c < 0 ∨ prodV vs ≤ c by omega)]
   simp only [d1, Bool.false_eq_true, ↓reduceIte]
   exact Ev.now _
 ·simp only [h, ↓reduceIte]
  exact Ev.now _
theorem valuesS_len (vs : List PVar) (rs : List PRule) (c : Int) : (valuesS vs rs c).1.length ≤ 6 := by
 unfold valuesS
 split
 ·rename_i h
  split
  ·decide
  ·show (valS vs c).length ≤ 6
   rw [valS_len]; exact modelS_len h
 ·exact Nat.zero_le _
end Go.Proofs.YtgdijfhdpgdanaaGreatDoor.Pure
