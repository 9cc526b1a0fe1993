import Derived.Test.YtbekikafhpdehaaDoorKStepNextsG15
import Derived.Test.YtbekikafhpdehaaDoorKStepNextsG25
import Derived.Test.YtbekikafhpdehaaDoorKStepNextsG17
import Derived.Test.YtbekikafhpdehaaDoorKStepNextsG28
import Derived.Test.YtbekikafhpdehaaDoorKStepNextsG9
import Derived.Test.YtbekikafhpdehaaDoorKStepNextsG24
import Derived.Test.YtbekikafhpdehaaDoorKStepNextsG19
import Derived.Test.YtbekikafhpdehaaDoorKStepNextsG26
namespace Go.Proofs.YtbekikafhpdehaaDoor.Pure
open Go.RowKit Go.Proofs.YtbekikafhpdehaaDoor Go.Proofs.YtbekikafhpdehaaDoor.T Go.Proofs.YtbekikafhpdehaaDoor.Base Go.Proofs.YtbekikafhpdehaaDoorW.PrintWords Go.Proofs.YtbekikafhpdehaaDoorW.PrintLast Go.Proofs.YtbekikafhpdehaaDoorW.PrintMore
set_option linter.unusedVariables false
set_option linter.unusedSimpArgs false
abbrev PVar := S58
abbrev PSet := S51
abbrev PRule := S49
theorem rdV_get (l : List PVar) (i : Nat) (h : i < l.length) : rd_T58 l (i : Int) = l[i] := by unfold rd_T58; simp [h]
theorem rdS_get (l : List PSet) (i : Nat) (h : i < l.length) : rd_T51 l (i : Int) = l[i] := by unfold rd_T51; simp [h]
theorem rdR_get (l : List PRule) (i : Nat) (h : i < l.length) : rd_T49 l (i : Int) = l[i] := by unfold rd_T49; simp [h]
theorem x_bind {α β : Type} (a : α) (f : α → Option β) : (some a).bind f = f a := rfl
theorem bt_at (s : ByteArray) (i : Nat) (h : i < s.size) : bt s (i : Int) = ((s.data.toList.getD i 0).toNat : Int) := by
 have h' : i < s.data.size := h
 unfold bt
 rw [dif_pos (by simpa using h)]
 rw [List.getD_eq_getElem?_getD, List.getElem?_eq_getElem (by simpa using h')]
 rfl
theorem nameMay_loop (s : ByteArray) (hs : s.size ≤ 8) (d : Nat) : ∀ i : Nat, i + d = s.size → Ev (fun k => foretellref_NameMay.l0 k s i) ((List.range' i d).all (nameAt s.data.toList)) := by
 induction d with
 | zero =>
  intro i hi
  have c1 : ¬ (i : Int) < (s.size : Int) := by omega
  refine ev_succ ?_
  simp only [foretellref_NameMay.l0, ↓reduceIte, c1]
  exact Ev.now _
 | succ d ih =>
  intro i hi
  have c1 : (i : Int) < (s.size : Int) := by omega
  have c2 : (0 : Int) ≤ (i : Int) := by omega
  have w1 : wrap64 ((i : Int) + 1) = ((i + 1 : Nat) : Int) := by rw [wrap_id (by omega) (by omega)]; rfl
  obtain ⟨c, hc⟩ : ∃ c : Nat, (s.data.toList.getD i 0).toNat = c := ⟨_, rfl⟩
  have hlt : c < 256 := by rw [← hc]; exact UInt8.toNat_lt _
  have hb : bt s (i : Int) = (c : Int) := by rw [bt_at s i (by omega), hc]
  have hw : wrap64 (c : Int) = (c : Int) := wrap_id (by omega) (by omega)
  have hn : nameAt s.data.toList i = if (c < 97 ∨ 122 < c) ∧ (c < 48 ∨ 57 < c ∨ i = 0) then false else true := by unfold nameAt; rw [hc]
  have hi1 := ih (i + 1) (by omega)
  refine ev_succ ?_
  rw [List.range'_succ, List.all_cons, hn]
  by_cases a1 : 97 ≤ (c : Int) ∧ (c : Int) ≤ 122
  ·have d1 : decide (97 ≤ (c : Int) ∧ (c : Int) ≤ 122) = true := decide_eq_true a1
   have d2 : decide (48 ≤ (c : Int) ∧ (c : Int) ≤ 57) = false := decide_eq_false (by omega)
   rw [if_neg (by omega), Bool.true_and]
   simp only [foretellref_NameMay.l0, ↓reduceIte, c1, c2, inE_eq, x_bind, hb, hw, d1, d2, w1, Bool.false_eq_true, ite_self]
   exact hi1
  ·have d1 : decide (97 ≤ (c : Int) ∧ (c : Int) ≤ 122) = false := decide_eq_false a1
   by_cases a2 : 48 ≤ (c : Int) ∧ (c : Int) ≤ 57
   ·have d2 : decide (48 ≤ (c : Int) ∧ (c : Int) ≤ 57) = true := decide_eq_true a2
    by_cases a3 : i = 0
    ·have c3 : ((i : Int) = 0) = True := eq_true (by omega)
     rw [if_pos (by omega), Bool.false_and]
     simp only [foretellref_NameMay.l0, ↓reduceIte, c1, c2, inE_eq, x_bind, hb, hw, d1, d2, w1, Bool.false_eq_true, c3]
     exact Ev.now _
    ·have c3 : ¬ (i : Int) = 0 := by omega
     rw [if_neg (by omega), Bool.true_and]
     simp only [foretellref_NameMay.l0, ↓reduceIte, c1, c2, inE_eq, x_bind, hb, hw, d1, d2, w1, Bool.false_eq_true, c3]
     exact hi1
   ·have d2 : decide (48 ≤ (c : Int) ∧ (c : Int) ≤ 57) = false := decide_eq_false a2
    rw [if_pos (by omega), Bool.false_and]
    simp only [foretellref_NameMay.l0, ↓reduceIte, c1, c2, inE_eq, x_bind, hb, hw, d1, d2, w1, Bool.false_eq_true]
    exact Ev.now _
theorem nameMay_ev (s : ByteArray) : Ev (fun k => foretellref_NameMay.f k s) (nameB s) := by
 unfold foretellref_NameMay.f nameB
 have jf : Ev (fun k => foretellref_NameMay.j0 k s true) false := by
  refine ev_succ ?_
  simp only [foretellref_NameMay.j0, ↓reduceIte]
  exact Ev.now _
 simp only [inE_eq, x_bind]
 by_cases h1 : s.size = 0
 ·have d1 : decide ((1 : Int) ≤ (s.size : Int) ∧ (s.size : Int) ≤ 8) = false := decide_eq_false (by omega)
  simp only [d1, Bool.false_eq_true, ↓reduceIte]
  rw [if_pos (.inl h1)]
  exact jf
 by_cases h2 : 8 < s.size
 ·have d1 : decide ((1 : Int) ≤ (s.size : Int) ∧ (s.size : Int) ≤ 8) = false := decide_eq_false (by omega)
  simp only [d1, Bool.false_eq_true, ↓reduceIte]
  rw [if_pos (.inr (.inl h2))]
  exact jf
 have d1 : decide ((1 : Int) ≤ (s.size : Int) ∧ (s.size : Int) ≤ 8) = true := decide_eq_true (by omega)
 simp only [d1, ↓reduceIte]
 by_cases h3 : s.toList = [121, 101, 115]
 ·simp only [if_pos h3]
  rw [if_pos (.inr (.inr (.inl h3)))]
  exact jf
 simp only [if_neg h3]
 by_cases h4 : s.toList = [110, 111]
 ·have d4 : (s.toList == ([110, 111] : List UInt8)) = true := beq_iff_eq.mpr h4
  simp only [d4]
  rw [if_pos (.inr (.inr (.inr h4)))]
  exact jf
 have d4 : (s.toList == ([110, 111] : List UInt8)) = false := beq_eq_false_iff_ne.mpr h4
 simp only [d4]
 rw [if_neg (by rintro (h | h | h | h); exact h1 h; exact h2 h; exact h3 h; exact h4 h)]
 refine ev_succ ?_
 simp only [foretellref_NameMay.j0, Bool.false_eq_true, ↓reduceIte]
 rw [List.range_eq_range']
 exact nameMay_loop s (by omega) s.size 0 (by omega)
def varsS (l : List PVar) : Int := if 6 < l.length then 1 else varsL l [] 1
theorem variables_eq (l : List PVar) : model_variables.f l = some (varsS l) := rfl
def badR (v : PVar) : Prop := v.f1 < -1000 ∨ v.f2 > 1000 ∨ v.f1 > v.f2 ∨ v.f3 < v.f1 ∨ v.f3 > v.f2
theorem vars_tail (l : List PVar) (hl : l.length ≤ 6) (v : PVar) (i : Nat) (hi : i < l.length) (st : Int) (hst : 0 ≤ st ∧ st ≤ 4096) (R : Int) (hR : ¬ badR v → ¬ v.f2 - v.f1 ≥ 64 → ¬ st * (v.f2 - v.f1 + 1) > 4096 → Ev (fun k => foretellref_variablesFault.l0 k l (st * (v.f2 - v.f1 + 1)) ((i + 1 : Nat) : Int)) R) :
  Ev (fun k => foretellref_variablesFault.l1 k l st i i v.f0 v.f1 v.f2 v.f3) (if v.f1 < -1000 ∨ v.f2 > 1000 ∨ v.f1 > v.f2 ∨ v.f3 < v.f1 ∨ v.f3 > v.f2 then 2 else if v.f2 - v.f1 ≥ 64 then 1 else if st * (v.f2 - v.f1 + 1) > 4096 then 1 else R) := by
 obtain ⟨vn, a, b, c⟩ := v
 dsimp only [badR] at hR ⊢
 have c1 : ¬ (i : Int) < (i : Int) := by omega
 have j2t : Ev (fun k => foretellref_variablesFault.j2 k l st i true vn a b c) 2 := by
  refine ev_succ ?_
  simp only [foretellref_variablesFault.j2, ↓reduceIte]
  exact Ev.now _
 refine ev_succ ?_
 by_cases h1 : -1000 ≤ a ∧ a ≤ 1000
 case neg =>
  have d1 : decide (-1000 ≤ a ∧ a ≤ 1000) = false := decide_eq_false h1
  rw [if_pos (by omega)]
  simp only [foretellref_variablesFault.l1, ↓reduceIte, c1, inE_eq, x_bind, d1, Bool.false_eq_true]
  exact j2t
 have d1 : decide (-1000 ≤ a ∧ a ≤ 1000) = true := decide_eq_true h1
 by_cases h2 : a ≤ b ∧ b ≤ 1000
 case neg =>
  have d2 : decide (a ≤ b ∧ b ≤ 1000) = false := decide_eq_false h2
  rw [if_pos (by omega)]
  simp only [foretellref_variablesFault.l1, ↓reduceIte, c1, inE_eq, x_bind, d1, d2, Bool.false_eq_true]
  exact j2t
 have d2 : decide (a ≤ b ∧ b ≤ 1000) = true := decide_eq_true h2
 by_cases h3 : a ≤ c ∧ c ≤ b
 case neg =>
  have d3 : decide (a ≤ c ∧ c ≤ b) = false := decide_eq_false h3
  rw [if_pos (by omega)]
  simp only [foretellref_variablesFault.l1, ↓reduceIte, c1, inE_eq, x_bind, d1, d2, d3, Bool.not_false]
  exact j2t
 have d3 : decide (a ≤ c ∧ c ≤ b) = true := decide_eq_true h3
 have hb : ¬ (a < -1000 ∨ b > 1000 ∨ a > b ∨ c < a ∨ c > b) := by omega
 rw [if_neg hb]
 simp only [foretellref_variablesFault.l1, ↓reduceIte, c1, inE_eq, x_bind, d1, d2, d3, Bool.not_true]
 refine ev_succ ?_
 have w1 : wrap64 (b - a) = b - a := wrap_id (by omega) (by omega)
 have w2 : wrap64 (b - a + 1) = b - a + 1 := wrap_id (by omega) (by omega)
 by_cases h4 : b - a ≥ 64
 ·have c4 : b - a > 63 := by omega
  rw [if_pos h4]
  simp only [foretellref_variablesFault.j2, Bool.false_eq_true, ↓reduceIte, w1, c4]
  exact Ev.now _
 have c4 : ¬ b - a > 63 := by omega
 rw [if_neg h4]
 have hp0 : 0 ≤ st * (b - a + 1) := Int.mul_nonneg hst.1 (by omega)
 have hp1 : st * (b - a + 1) ≤ 4096 * 64 := Int.mul_le_mul hst.2 (by omega) (by omega) (by omega)
 have w3 : wrap64 (st * (b - a + 1)) = st * (b - a + 1) := wrap_id (by omega) (by omega)
 by_cases h5 : st * (b - a + 1) > 4096
 ·rw [if_pos h5]
  simp only [foretellref_variablesFault.j2, Bool.false_eq_true, ↓reduceIte, w1, w2, w3, c4, h5]
  exact Ev.now _
 rw [if_neg h5]
 have w4 : wrap64 ((i : Int) + 1) = ((i + 1 : Nat) : Int) := by rw [wrap_id (by omega) (by omega)]; rfl
 simp only [foretellref_variablesFault.j2, Bool.false_eq_true, ↓reduceIte, w1, w2, w3, w4, c4, h5]
 exact hR hb h4 h5
theorem vars_l1 (l : List PVar) (hl : l.length ≤ 6) (v : PVar) (i : Nat) (hi : i < l.length) (st : Int) (R : Int) (hR : Ev (fun k => foretellref_variablesFault.l1 k l st i i v.f0 v.f1 v.f2 v.f3) R) (d : Nat) : ∀ j : Nat, j + d = i →
  Ev (fun k => foretellref_variablesFault.l1 k l st i j v.f0 v.f1 v.f2 v.f3) (if (((l.take i).drop j).map (·.f0)).any (fun s => s.toList == v.f0.toList) = true then 7 else R) := by
 induction d with
 | zero =>
  intro j hj
  obtain rfl : j = i := by omega
  rw [List.drop_of_length_le (by rw [List.length_take]; omega)]
  exact hR
 | succ d ih =>
  intro j hj
  have hjl : j < l.length := by omega
  have c1 : (j : Int) < (i : Int) := by omega
  have c2 : (0 : Int) ≤ (j : Int) := by omega
  have c3 : (j : Int) < (l.length : Int) := by omega
  have w1 : wrap64 ((j : Int) + 1) = ((j + 1 : Nat) : Int) := by rw [wrap_id (by omega) (by omega)]; rfl
  have hd : (l.take i).drop j = l[j] :: (l.take i).drop (j + 1) := by
   have hlt : j < (l.take i).length := by rw [List.length_take]; omega
   rw [List.drop_eq_getElem_cons hlt, List.getElem_take]
  refine ev_succ ?_
  rw [hd, List.map_cons, List.any_cons]
  by_cases e : l[j].f0.toList = v.f0.toList
  ·have b1 : (l[j].f0.toList == v.f0.toList) = true := beq_iff_eq.2 e
   rw [b1, Bool.true_or, if_pos rfl]
   simp only [foretellref_variablesFault.l1, ↓reduceIte, c1, c2, c3, rdV_get l j hjl, e]
   exact Ev.now _
  ·have b1 : (l[j].f0.toList == v.f0.toList) = false := beq_eq_false_iff_ne.2 e
   rw [b1, Bool.false_or]
   simp only [foretellref_variablesFault.l1, ↓reduceIte, c1, c2, c3, rdV_get l j hjl, e, w1]
   exact ih (j + 1) (by omega)
theorem vars_l0 (l : List PVar) (hl : l.length ≤ 6) (d : Nat) : ∀ (i : Nat) (st : Int), i + d = l.length → 0 ≤ st ∧ st ≤ 4096 → Ev (fun k => foretellref_variablesFault.l0 k l st i) (varsL (l.drop i) ((l.take i).map (·.f0)) st) := by
 induction d with
 | zero =>
  intro i st hi hst
  rw [List.drop_of_length_le (by omega)]
  have c1 : ¬ (i : Int) < (l.length : Int) := by omega
  refine ev_succ ?_
  simp only [foretellref_variablesFault.l0, ↓reduceIte, c1]
  exact Ev.now _
 | succ d ih =>
  intro i st hi hst
  have hil : i < l.length := by omega
  have c1 : (i : Int) < (l.length : Int) := by omega
  have c2 : (0 : Int) ≤ (i : Int) := by omega
  refine ev_succ ?_
  simp only [foretellref_variablesFault.l0, ↓reduceIte, c1, c2, rdV_get l i hil]
  refine ev_bind (nameMay_ev l[i].f0) ?_
  rw [List.drop_eq_getElem_cons hil, varsL]
  cases hb : nameB l[i].f0 with
  | false =>
   simp only [Bool.false_eq_true, ↓reduceIte]
   exact Ev.now _
  | true =>
   simp only [Bool.true_eq_false, ↓reduceIte]
   have h0 := vars_l1 l hl l[i] i hil st _ (vars_tail l hl l[i] i hil st hst (varsL (l.drop (i + 1)) ((l.take (i + 1)).map (·.f0)) (st * (l[i].f2 - l[i].f1 + 1))) (fun _ h4 h5 => ih (i + 1) _ (by omega) ⟨?_, by omega⟩)) i 0 (by omega)
   ·rw [List.drop_zero, List.take_succ_eq_append_getElem hil, List.map_append] at h0
    exact h0
   ·rename_i hbr
    unfold badR at hbr
    exact Int.mul_nonneg hst.1 (by omega)
theorem varsFault_ev (l : List PVar) : Ev (fun k => foretellref_variablesFault.f k l) (varsS l) := by
 unfold foretellref_variablesFault.f varsS
 by_cases h : 6 < l.length
 ·have c1 : (l.length : Int) > 6 := by omega
  simp only [c1, h, ↓reduceIte]
  exact Ev.now _
 ·have c1 : ¬ (l.length : Int) > 6 := by omega
  simp only [c1, h, ↓reduceIte]
  exact vars_l0 l (by omega) l.length 0 1 (by omega) (by decide)
def kindS (l : List POp) (n : Int) (t : Bool) : Int := if (exprS l n).2 = 0 then (if ((exprS l n).1 != t) = true then 5 else 0) else (exprS l n).2
theorem kind_ev (l : List POp) (n : Int) (t : Bool) (w : -9223372036854775808 ≤ n ∧ n ≤ 9223372036854775807) : Ev (fun k => model_kind.f k l n t) (kindS l n t) := by
 unfold model_kind.f kindS
 refine ev_bind (exprCheck_ev l n w) ?_
 by_cases h : (exprS l n).2 = 0
 ·simp only [h, ↓reduceIte]
  split <;> exact Ev.now _
 ·simp only [h, ↓reduceIte]
  exact Ev.now _
theorem kindFault_ev (l : List POp) (n : Int) (t : Bool) (w : -9223372036854775808 ≤ n ∧ n ≤ 9223372036854775807) : Ev (fun k => foretellref_kindFault.f k l n t) (kindS l n t) := by
 unfold foretellref_kindFault.f kindS
 refine ev_bind (exprChecked_ev l n w) ?_
 by_cases h : (exprS l n).2 = 0
 ·simp only [h, ↓reduceIte]
  split <;> exact Ev.now _
 ·simp only [h, ↓reduceIte]
  exact Ev.now _
def setsS (n : Int) : List PSet → List Int → Int
 | [], _ => 0
 | s :: r, seen => if s.f0 < 0 ∨ s.f0 ≥ n then 2 else if seen.any (fun x => x == s.f0) = true then 7 else if kindS s.f1 n false = 0 then setsS n r (seen ++ [s.f0]) else kindS s.f1 n false
def ruleS (l0 : List POp) (l1 : List PSet) (n : Int) : Int := if 6 < l1.length then 1 else if kindS l0 n true = 0 then setsS n l1 [] else kindS l0 n true
theorem setsL_ev (n : Int) (w : -9223372036854775808 ≤ n ∧ n ≤ 9223372036854775807) : ∀ (l : List PSet) (seen : List Int), Ev (fun k => setsL k l seen n) (setsS n l seen)
 | [], _ => Ev.now _
 | s :: r, seen => by
  unfold setsL setsS
  by_cases h1 : s.f0 < 0 ∨ s.f0 ≥ n
  ·simp only [h1, ↓reduceIte]; exact Ev.now _
  simp only [h1, ↓reduceIte]
  by_cases h2 : seen.any (fun x => x == s.f0) = true
  ·simp only [h2, ↓reduceIte]; exact Ev.now _
  simp only [h2, ↓reduceIte]
  refine ev_bind (kind_ev s.f1 n false w) ?_
  by_cases h3 : kindS s.f1 n false = 0
  ·simp only [h3, ↓reduceIte]; exact setsL_ev n w r _
  ·simp only [h3, ↓reduceIte]; exact Ev.now _
theorem rule_ev (l0 : List POp) (l1 : List PSet) (n : Int) (w : 0 ≤ n ∧ n ≤ 1000000) : Ev (fun k => model_rule.f k l0 l1 n) (ruleS l0 l1 n) := by
 unfold model_rule.f ruleS
 simp only [w.2, ↓reduceIte]
 by_cases h : 6 < l1.length
 ·simp only [h, ↓reduceIte]; exact Ev.now _
 simp only [h, ↓reduceIte]
 refine ev_bind (kind_ev l0 n true (by omega)) ?_
 by_cases h3 : kindS l0 n true = 0
 ·simp only [h3, ↓reduceIte]; exact setsL_ev n (by omega) l1 []
 ·simp only [h3, ↓reduceIte]; exact Ev.now _
theorem rule_l1 (n : Int) (w : 0 ≤ n ∧ n ≤ 1000000) (g : List POp) (l : List PSet) (hl : l.length ≤ 6) (v : PSet) (i : Nat) (hi : i < l.length) (R : Int) (hR : Ev (fun k => foretellref_ruleFault.l1 k n i i g l v.f0 v.f1) R) (d : Nat) : ∀ j : Nat, j + d = i →
  Ev (fun k => foretellref_ruleFault.l1 k n i j g l v.f0 v.f1) (if (((l.take i).drop j).map (·.f0)).any (fun x => x == v.f0) = true then 7 else R) := by
 induction d with
 | zero =>
  intro j hj
  obtain rfl : j = i := by omega
  rw [List.drop_of_length_le (by rw [List.length_take]; omega)]
  exact hR
 | succ d ih =>
  intro j hj
  have hjl : j < l.length := by omega
  have c1 : (j : Int) < (i : Int) := by omega
  have c2 : (0 : Int) ≤ (j : Int) := by omega
  have c3 : (j : Int) < (l.length : Int) := by omega
  have w1 : wrap64 ((j : Int) + 1) = ((j + 1 : Nat) : Int) := by rw [wrap_id (by omega) (by omega)]; rfl
  have hd : (l.take i).drop j = l[j] :: (l.take i).drop (j + 1) := by
   have hlt : j < (l.take i).length := by rw [List.length_take]; omega
   rw [List.drop_eq_getElem_cons hlt, List.getElem_take]
  refine ev_succ ?_
  rw [hd, List.map_cons, List.any_cons]
  by_cases e : l[j].f0 = v.f0
  ·have b1 : (l[j].f0 == v.f0) = true := beq_iff_eq.2 e
   rw [b1, Bool.true_or, if_pos rfl]
   simp only [foretellref_ruleFault.l1, ↓reduceIte, c1, c2, c3, rdS_get l j hjl, e]
   exact Ev.now _
  ·have b1 : (l[j].f0 == v.f0) = false := beq_eq_false_iff_ne.2 e
   rw [b1, Bool.false_or]
   simp only [foretellref_ruleFault.l1, ↓reduceIte, c1, c2, c3, rdS_get l j hjl, e, w1]
   exact ih (j + 1) (by omega)
theorem rule_end (n : Int) (e : Int) (he : ¬ e = 0) (i : Nat) (g : List POp) (l : List PSet) : Ev (fun k => foretellref_ruleFault.l0 k n e i g l) e := by
 have hj : Ev (fun k => foretellref_ruleFault.j1 k n e i false g l) e := by
  refine ev_succ ?_
  simp only [foretellref_ruleFault.j1, Bool.false_eq_true, ↓reduceIte]
  exact Ev.now _
 have b1 : (e == 0) = false := beq_eq_false_iff_ne.2 he
 refine ev_succ ?_
 simp only [foretellref_ruleFault.l0, b1, ite_self]
 exact hj
theorem rule_l0 (n : Int) (w : 0 ≤ n ∧ n ≤ 1000000) (g : List POp) (l : List PSet) (hl : l.length ≤ 6) (d : Nat) : ∀ i : Nat, i + d = l.length → Ev (fun k => foretellref_ruleFault.l0 k n 0 i g l) (setsS n (l.drop i) ((l.take i).map (·.f0))) := by
 induction d with
 | zero =>
  intro i hi
  rw [List.drop_of_length_le (by omega)]
  have c1 : ¬ (i : Int) < (l.length : Int) := by omega
  refine ev_succ ?_
  simp only [foretellref_ruleFault.l0, ↓reduceIte, c1]
  refine ev_succ ?_
  simp only [foretellref_ruleFault.j1, Bool.false_eq_true, ↓reduceIte]
  exact Ev.now _
 | succ d ih =>
  intro i hi
  have hil : i < l.length := by omega
  have c1 : (i : Int) < (l.length : Int) := by omega
  have c2 : (0 : Int) ≤ (i : Int) := by omega
  have w1 : wrap64 ((i : Int) + 1) = ((i + 1 : Nat) : Int) := by rw [wrap_id (by omega) (by omega)]; rfl
  have w2 : wrap64 (n - 1) = n - 1 := wrap_id (by omega) (by omega)
  refine ev_succ ?_
  simp only [foretellref_ruleFault.l0, ↓reduceIte, c1, beq_self_eq_true]
  refine ev_succ ?_
  rw [List.drop_eq_getElem_cons hil, setsS]
  by_cases h1 : 0 ≤ l[i].f0 ∧ l[i].f0 ≤ n - 1
  case neg =>
   have d1 : decide (0 ≤ l[i].f0 ∧ l[i].f0 ≤ n - 1) = false := decide_eq_false h1
   rw [if_pos (by omega)]
   simp only [foretellref_ruleFault.j1, ↓reduceIte, c1, c2, rdS_get l i hil, inE_eq, w2, d1, x_bind, Bool.false_eq_true]
   exact Ev.now _
  have d1 : decide (0 ≤ l[i].f0 ∧ l[i].f0 ≤ n - 1) = true := decide_eq_true h1
  rw [if_neg (by omega)]
  simp only [foretellref_ruleFault.j1, ↓reduceIte, c1, c2, rdS_get l i hil, inE_eq, w2, d1, x_bind]
  have ht : Ev (fun k => foretellref_ruleFault.l1 k n i i g l l[i].f0 l[i].f1) (if kindS l[i].f1 n false = 0 then setsS n (l.drop (i + 1)) ((l.take (i + 1)).map (·.f0)) else kindS l[i].f1 n false) := by
   have c3 : ¬ (i : Int) < (i : Int) := by omega
   refine ev_succ ?_
   simp only [foretellref_ruleFault.l1, ↓reduceIte, c3, w1]
   refine ev_bind (kindFault_ev l[i].f1 n false (by omega)) ?_
   by_cases h3 : kindS l[i].f1 n false = 0
   ·simp only [h3, ↓reduceIte]
    exact ih (i + 1) (by omega)
   ·simp only [h3, ↓reduceIte]
    exact rule_end n _ h3 _ g l
  have h0 := rule_l1 n w g l hl l[i] i hil _ ht i 0 (by omega)
  rw [List.drop_zero, List.take_succ_eq_append_getElem hil, List.map_append] at h0
  exact h0
theorem ruleFault_ev (l0 : List POp) (l1 : List PSet) (n : Int) (w : 0 ≤ n ∧ n ≤ 1000000) : Ev (fun k => foretellref_ruleFault.f k l0 l1 n) (ruleS l0 l1 n) := by
 unfold foretellref_ruleFault.f ruleS
 by_cases h : 6 < l1.length
 ·have c1 : (l1.length : Int) > 6 := by omega
  simp only [c1, h, ↓reduceIte]
  exact Ev.now _
 have c1 : ¬ (l1.length : Int) > 6 := by omega
 simp only [c1, h, ↓reduceIte]
 refine ev_bind (kindFault_ev l0 n true (by omega)) ?_
 by_cases h3 : kindS l0 n true = 0
 ·simp only [h3, ↓reduceIte]
  exact rule_l0 n w l0 l1 (by omega) l1.length 0 (by omega)
 ·simp only [h3, ↓reduceIte]
  exact rule_end n _ h3 0 l0 l1
def rulesS (n : Int) : List PRule → Int
 | [] => 0
 | r :: rs => if ruleS r.f0 r.f1 n = 0 then rulesS n rs else ruleS r.f0 r.f1 n
def modelS (vs : List PVar) (rs : List PRule) : Int := if varsS vs = 0 then (if 12 < rs.length then 1 else rulesS (vs.length : Int) rs) else varsS vs
theorem varsS_len {vs : List PVar} (h : varsS vs = 0) : vs.length ≤ 6 := by
 unfold varsS at h
 split at h
 ·omega
 ·omega
theorem check_l0 (vs : List PVar) (hv : vs.length ≤ 6) (rs : List PRule) (hr : rs.length ≤ 12) (d : Nat) : ∀ i : Nat, i + d = rs.length → Ev (fun k => model_Check.l0 k rs (rs.length : Int) i vs rs) (rulesS (vs.length : Int) (rs.drop i)) := by
 induction d with
 | zero =>
  intro i hi
  rw [List.drop_of_length_le (by omega)]
  have c1 : ¬ (i : Int) < (rs.length : Int) := by omega
  refine ev_succ ?_
  simp only [model_Check.l0, ↓reduceIte, c1]
  exact Ev.now _
 | succ d ih =>
  intro i hi
  have hil : i < rs.length := by omega
  have c1 : (i : Int) < (rs.length : Int) := by omega
  have c2 : (0 : Int) ≤ (i : Int) := by omega
  have w1 : wrap64 ((i : Int) + 1) = ((i + 1 : Nat) : Int) := by rw [wrap_id (by omega) (by omega)]; rfl
  refine ev_succ ?_
  simp only [model_Check.l0, ↓reduceIte, c1, c2, rdR_get rs i hil, w1]
  rw [List.drop_eq_getElem_cons hil, rulesS]
  refine ev_bind (rule_ev rs[i].f0 rs[i].f1 (vs.length : Int) (by omega)) ?_
  by_cases h3 : ruleS rs[i].f0 rs[i].f1 (vs.length : Int) = 0
  ·simp only [h3, ↓reduceIte]
   exact ih (i + 1) (by omega)
  ·simp only [h3, ↓reduceIte]
   exact Ev.now _
theorem modelCheck_ev (vs : List PVar) (rs : List PRule) : Ev (fun k => model_Check.f k vs rs) (modelS vs rs) := by
 unfold model_Check.f modelS
 refine ev_call (variables_eq vs) ?_
 by_cases h : varsS vs = 0
 ·simp only [h, ↓reduceIte]
  by_cases h2 : 12 < rs.length
  ·have c1 : (rs.length : Int) > 12 := by omega
   simp only [h2, c1, ↓reduceIte]
   exact Ev.now _
  ·have c1 : ¬ (rs.length : Int) > 12 := by omega
   simp only [h2, c1, ↓reduceIte]
   exact check_l0 vs (varsS_len h) rs (by omega) rs.length 0 (by omega)
 ·simp only [h, ↓reduceIte]
  exact Ev.now _
theorem fault_end (e : Int) (he : ¬ e = 0) (i : Nat) (vs : List PVar) (rs : List PRule) : Ev (fun k => foretellref_ModelFault.l0 k e i vs rs) e := by
 refine ev_succ ?_
 simp only [foretellref_ModelFault.l0, he, ↓reduceIte, ite_self]
 exact Ev.now _
theorem model_l0 (vs : List PVar) (hv : vs.length ≤ 6) (rs : List PRule) (hr : rs.length ≤ 12) (d : Nat) : ∀ i : Nat, i + d = rs.length → Ev (fun k => foretellref_ModelFault.l0 k 0 i vs rs) (rulesS (vs.length : Int) (rs.drop i)) := by
 induction d with
 | zero =>
  intro i hi
  rw [List.drop_of_length_le (by omega)]
  have c1 : ¬ (i : Int) < (rs.length : Int) := by omega
  refine ev_succ ?_
  simp only [foretellref_ModelFault.l0, ↓reduceIte, c1]
  exact Ev.now _
 | succ d ih =>
  intro i hi
  have hil : i < rs.length := by omega
  have c1 : (i : Int) < (rs.length : Int) := by omega
  have c2 : (0 : Int) ≤ (i : Int) := by omega
  have w1 : wrap64 ((i : Int) + 1) = ((i + 1 : Nat) : Int) := by rw [wrap_id (by omega) (by omega)]; rfl
  refine ev_succ ?_
  simp only [foretellref_ModelFault.l0, ↓reduceIte, c1, c2, rdR_get rs i hil, w1]
  rw [List.drop_eq_getElem_cons hil, rulesS]
  refine ev_bind (ruleFault_ev rs[i].f0 rs[i].f1 (vs.length : Int) (by omega)) ?_
  by_cases h3 : ruleS rs[i].f0 rs[i].f1 (vs.length : Int) = 0
  ·simp only [h3, ↓reduceIte]
   exact ih (i + 1) (by omega)
  ·simp only [h3, ↓reduceIte]
   exact fault_end _ h3 _ vs rs
theorem modelFault_ev (vs : List PVar) (rs : List PRule) : Ev (fun k => foretellref_ModelFault.f k vs rs) (modelS vs rs) := by
 unfold foretellref_ModelFault.f modelS
 refine ev_bind (varsFault_ev vs) ?_
 by_cases h : varsS vs = 0
 ·simp only [h, ↓reduceIte]
  by_cases h2 : 12 < rs.length
  ·have c1 : (rs.length : Int) > 12 := by omega
   simp only [h2, c1, ↓reduceIte]
   exact Ev.now _
  ·have c1 : ¬ (rs.length : Int) > 12 := by omega
   simp only [h2, c1, ↓reduceIte]
   exact model_l0 vs (varsS_len h) rs (by omega) rs.length 0 (by omega)
 ·simp only [h, ↓reduceIte]
  exact Ev.now _
theorem modelS_vars {vs : List PVar} {rs : List PRule} (h : modelS vs rs = 0) : varsS vs = 0 := by
 unfold modelS at h
 split at h
 ·assumption
 ·assumption
theorem modelS_len {vs : List PVar} {rs : List PRule} (h : modelS vs rs = 0) : vs.length ≤ 6 := varsS_len (modelS_vars h)
theorem models_l1 (vs : List PVar) (rs : List PRule) (i : Nat) (hi : i < rs.length) (hr : rs.length * 48 ≤ 140737488351232) (hs : rs[i].f1.length * 32 ≤ 140737488351232) (ho : ∀ s ∈ rs[i].f1, s.f1.length * 16 ≤ 140737488351232) (acc : List PRule) (ha : acc.length = i) (t : List POp) (R : List PVar × List PRule)
  (hR : Ev (fun k => foretelllaw_models.l0 k ((i + 1 : Nat) : Int) vs rs vs (acc ++ [⟨t, rs[i].f1⟩])) R) (d : Nat) : ∀ (j : Nat) (sa : List PSet), j + d = rs[i].f1.length → sa = rs[i].f1.take j → Ev (fun k => foretelllaw_models.l1 k i j vs rs vs acc t sa) R := by
 induction d with
 | zero =>
  intro j sa hj hsa
  rw [List.take_of_length_le (by omega)] at hsa
  subst hsa
  have c1 : (0 : Int) ≤ (i : Int) := by omega
  have c2 : (i : Int) < (rs.length : Int) := by omega
  have c3 : ¬ (j : Int) < (rs[i].f1.length : Int) := by omega
  have c4 : acc.length < 2932031007402 := by omega
  have w1 : wrap64 ((i : Int) + 1) = ((i + 1 : Nat) : Int) := by rw [wrap_id (by omega) (by omega)]; rfl
  refine ev_succ ?_
  simp only [foretelllaw_models.l1, ↓reduceIte, c1, c2, rdR_get rs i hi, c3, c4, w1]
  exact hR
 | succ d ih =>
  intro j sa hj hsa
  have hjl : j < rs[i].f1.length := by omega
  have c1 : (0 : Int) ≤ (i : Int) := by omega
  have c2 : (i : Int) < (rs.length : Int) := by omega
  have c3 : (j : Int) < (rs[i].f1.length : Int) := by omega
  have c4 : (0 : Int) ≤ (j : Int) := by omega
  have c5 : sa.length < 4398046511104 := by rw [hsa, List.length_take]; omega
  have w1 : wrap64 ((j : Int) + 1) = ((j + 1 : Nat) : Int) := by rw [wrap_id (by omega) (by omega)]; rfl
  have ho' := ops_eq rs[i].f1[j].f1 (ho _ (List.getElem_mem hjl))
  refine ev_succ ?_
  simp only [foretelllaw_models.l1, ↓reduceIte, c1, c2, rdR_get rs i hi, c3, c4, c5, w1, rdS_get rs[i].f1 j hjl, ho', x_bind]
  exact ih (j + 1) _ (by omega) (by rw [List.take_succ_eq_append_getElem hjl, hsa])
theorem models_l0 (vs : List PVar) (rs : List PRule) (hr : rs.length * 48 ≤ 140737488351232) (hs : ∀ r ∈ rs, r.f0.length * 16 ≤ 140737488351232 ∧ r.f1.length * 32 ≤ 140737488351232 ∧ ∀ s ∈ r.f1, s.f1.length * 16 ≤ 140737488351232) (d : Nat) : ∀ (i : Nat) (acc : List PRule), i + d = rs.length → acc = rs.take i → Ev (fun k => foretelllaw_models.l0 k i vs rs vs acc) (vs, rs) := by
 induction d with
 | zero =>
  intro i acc hi ha
  rw [List.take_of_length_le (by omega)] at ha
  subst ha
  have c1 : ¬ (i : Int) < (acc.length : Int) := by omega
  refine ev_succ ?_
  simp only [foretelllaw_models.l0, ↓reduceIte, c1]
  exact Ev.now _
 | succ d ih =>
  intro i acc hi ha
  have hil : i < rs.length := by omega
  have c1 : (i : Int) < (rs.length : Int) := by omega
  have c2 : (0 : Int) ≤ (i : Int) := by omega
  obtain ⟨h0, h1, h2⟩ := hs _ (List.getElem_mem hil)
  refine ev_succ ?_
  simp only [foretelllaw_models.l0, ↓reduceIte, c1, c2, rdR_get rs i hil, ops_eq rs[i].f0 h0, x_bind]
  refine models_l1 vs rs i hil hr h1 h2 acc (by rw [ha, List.length_take]; omega) rs[i].f0 _ ?_ rs[i].f1.length 0 [] (by omega) rfl
  exact ih (i + 1) _ (by omega) (by rw [List.take_succ_eq_append_getElem hil, ha])
theorem models_ev (x : S25) (h : G25 x) : Ev (fun k => foretelllaw_models.f k x.f0 x.f1) (x.f0, x.f1) := by
 obtain ⟨⟨h0, _⟩, h1, h2⟩ := h
 unfold foretelllaw_models.f
 have c1 : ([] : List PVar).length + x.f0.length < 3518437208883 := by simp; omega
 simp only [c1, ↓reduceIte, List.nil_append]
 exact models_l0 x.f0 x.f1 h1 (fun r hr => ⟨(h2 r hr).1.1, (h2 r hr).2.1, fun s hs => ((h2 r hr).2.2 s hs).2.1⟩) x.f1.length 0 [] (by omega) rfl
def VOk (v : PVar) : Prop := -1000 ≤ v.f1 ∧ v.f1 ≤ v.f3 ∧ v.f3 ≤ v.f2 ∧ v.f2 ≤ 1000 ∧ v.f2 - v.f1 < 64
def prodV : List PVar → Int
 | [] => 1
 | v :: r => (v.f2 - v.f1 + 1) * prodV r
theorem prodV_cons (v : PVar) (r : List PVar) : prodV (v :: r) = (v.f2 - v.f1 + 1) * prodV r := rfl
theorem prodV_pos : ∀ {l : List PVar}, (∀ v ∈ l, VOk v) → 1 ≤ prodV l
 | [], _ => Int.le_refl _
 | v :: r, h => by
  have h1 := prodV_pos (l := r) (fun u hu => h u (by simp [hu]))
  have h2 := h v (by simp)
  unfold VOk at h2
  unfold prodV
  have : 1 * 1 ≤ (v.f2 - v.f1 + 1) * prodV r := Int.mul_le_mul (by omega) h1 (by decide) (by omega)
  omega
theorem varsL_ok : ∀ (l : List PVar) (seen : List ByteArray) (st : Int), varsL l seen st = 0 → 1 ≤ st → st ≤ 4096 → (∀ v ∈ l, VOk v) ∧ st * prodV l ≤ 4096
 | [], _, st, _, _, h => ⟨fun v hv => (nomatch hv), by unfold prodV; omega⟩
 | v :: r, seen, st, h, h1, h2 => by
  unfold varsL at h
  split at h
  ·omega
  split at h
  ·omega
  split at h
  ·omega
  rename_i hb
  split at h
  ·omega
  rename_i hs
  split at h
  ·omega
  rename_i hp
  have hsp : (1 : Int) ≤ v.f2 - v.f1 + 1 := by omega
  have hpp : 1 * 1 ≤ st * (v.f2 - v.f1 + 1) := Int.mul_le_mul h1 hsp (by decide) (by omega)
  obtain ⟨g1, g2⟩ := varsL_ok r _ _ h (by omega) (by omega)
  refine ⟨fun u hu => ?_, ?_⟩
  ·rcases List.mem_cons.1 hu with rfl | hu
   ·unfold VOk; omega
   ·exact g1 u hu
  ·unfold prodV
   rw [← Int.mul_assoc]
   exact g2
theorem vars_ok {vs : List PVar} (h : varsS vs = 0) : (∀ v ∈ vs, VOk v) ∧ prodV vs ≤ 4096 := by
 unfold varsS at h
 split at h
 ·omega
 ·have := varsL_ok vs [] 1 h (by decide) (by decide)
  rw [Int.one_mul] at this
  exact this
theorem drop_ok {vs : List PVar} (h : ∀ v ∈ vs, VOk v) (i : Nat) : ∀ v ∈ vs.drop i, VOk v := fun v hv => h v (List.mem_of_mem_drop hv)
theorem prodV_drop {vs : List PVar} (h : ∀ v ∈ vs, VOk v) (i : Nat) : prodV (vs.drop i) ≤ prodV vs := by
 induction vs generalizing i with
 | nil => simp
 | cons v r ih =>
  cases i with
  | zero => exact Int.le_refl _
  | succ i =>
   have h1 := ih (fun u hu => h u (by simp [hu])) i
   have h2 := h v (by simp)
   have h3 := prodV_pos (l := r) (fun u hu => h u (by simp [hu]))
   unfold VOk at h2
   rw [List.drop_succ_cons]
   have : 1 * prodV r ≤ (v.f2 - v.f1 + 1) * prodV r := Int.mul_le_mul (by omega) (Int.le_refl _) (by omega) (by omega)
   rw [prodV_cons]
   omega
theorem span_wrap {v : PVar} (h : VOk v) : wrap64 (wrap64 (v.f2 - v.f1) + 1) = v.f2 - v.f1 + 1 := by
 unfold VOk at h
 rw [wrap_id (x := v.f2 - v.f1) (by omega) (by omega), wrap_id (by omega) (by omega)]
theorem part_prod {a : Int} {v : PVar} {r : List PVar} (ha : 1 ≤ a) (hv : VOk v) (hr : ∀ u ∈ r, VOk u) (hp : a * prodV (v :: r) ≤ 4096) : 1 ≤ a * (v.f2 - v.f1 + 1) ∧ a * (v.f2 - v.f1 + 1) ≤ 4096 ∧ a * (v.f2 - v.f1 + 1) * prodV r ≤ 4096 := by
 rw [prodV_cons, ← Int.mul_assoc] at hp
 have h3 := prodV_pos hr
 unfold VOk at hv
 have hpp : 1 * 1 ≤ a * (v.f2 - v.f1 + 1) := Int.mul_le_mul ha (by omega) (by decide) (by omega)
 have : a * (v.f2 - v.f1 + 1) * 1 ≤ a * (v.f2 - v.f1 + 1) * prodV r := Int.mul_le_mul (Int.le_refl _) h3 (by decide) (by omega)
 exact ⟨by omega, by omega, hp⟩
theorem behind_l0 (vs : List PVar) (rs : List PRule) (hv : vs.length ≤ 6) (ho : ∀ v ∈ vs, VOk v) (d : Nat) : ∀ (i : Nat) (a : Int), i + d = vs.length → 1 ≤ a → a * prodV (vs.drop i) ≤ 4096 → Ev (fun k => foretellref_behindVar.l0 k a i vs rs) (a * prodV (vs.drop i)) := by
 induction d with
 | zero =>
  intro i a hi ha hp
  rw [List.drop_of_length_le (by omega)]
  have c1 : ¬ (i : Int) < (vs.length : Int) := by omega
  refine ev_succ ?_
  simp only [foretellref_behindVar.l0, ↓reduceIte, c1, prodV, Int.mul_one]
  exact Ev.now _
 | succ d ih =>
  intro i a hi ha hp
  have hil : i < vs.length := by omega
  have c1 : (i : Int) < (vs.length : Int) := by omega
  have c2 : (0 : Int) ≤ (i : Int) := by omega
  have w1 : wrap64 ((i : Int) + 1) = ((i + 1 : Nat) : Int) := by rw [wrap_id (by omega) (by omega)]; rfl
  have hvi := ho _ (List.getElem_mem hil)
  rw [List.drop_eq_getElem_cons hil] at hp ⊢
  obtain ⟨p1, p2, p3⟩ := part_prod ha hvi (drop_ok ho _) hp
  have w2 : wrap64 (a * (vs[i].f2 - vs[i].f1 + 1)) = a * (vs[i].f2 - vs[i].f1 + 1) := wrap_id (by omega) (by omega)
  refine ev_succ ?_
  simp only [foretellref_behindVar.l0, ↓reduceIte, c1, c2, rdV_get vs i hil, w1, span_wrap hvi, w2]
  rw [prodV_cons, ← Int.mul_assoc]
  exact ih (i + 1) _ (by omega) p1 p3
theorem behind_ev (vs : List PVar) (rs : List PRule) (hv : vs.length ≤ 6) (ho : ∀ v ∈ vs, VOk v) (hp : prodV vs ≤ 4096) (i : Nat) (hi : i ≤ vs.length) (a : Int) (ha : a + 1 = (i : Int)) : Ev (fun k => foretellref_behindVar.f k vs rs a) (prodV (vs.drop i)) := by
 have w1 : wrap64 (a + 1) = (i : Int) := by rw [wrap_id (by omega) (by omega)]; exact ha
 unfold foretellref_behindVar.f
 rw [w1]
 have h := behind_l0 vs rs hv ho (vs.length - i) i 1 (by omega) (by decide) (by rw [Int.one_mul]; have := prodV_drop ho i; omega)
 rw [Int.one_mul] at h
 exact h
def encR : List PVar → List Int → Option Int
 | v :: vs, x :: xs => if x < v.f1 ∨ v.f2 < x then none else (encR vs xs).map fun n => (x - v.f1) * prodV vs + n
 | _, _ => some 0
def encP (a : Int) (p : Int) (r : Option Int) : Int × Int := match r with | none => (0, 9) | some n => (a * p + n, 0)
theorem encP_step (a x p : Int) (v : PVar) (r : Option Int) : encP a ((v.f2 - v.f1 + 1) * p) (r.map fun n => (x - v.f1) * p + n) = encP (a * (v.f2 - v.f1 + 1) + x - v.f1) p r := by
 cases r with
 | none => rfl
 | some n =>
  simp only [encP, Option.map_some, Prod.mk.injEq, and_true]
  generalize v.f2 - v.f1 + 1 = S
  rw [Int.sub_mul, Int.sub_mul, Int.add_mul, Int.mul_assoc]
  omega
theorem code_l0 (vs : List PVar) (hv : vs.length ≤ 6) (ho : ∀ v ∈ vs, VOk v) (xs : List Int) (hx : xs.length = vs.length) (d : Nat) : ∀ (i : Nat) (a : Int), i + d = vs.length → 0 ≤ a → (a + 1) * prodV (vs.drop i) ≤ 4096 →
  Ev (fun k => model_Code.l0 k xs a vs (vs.length : Int) i) (encP a (prodV (vs.drop i)) (encR (vs.drop i) (xs.drop i))) := by
 induction d with
 | zero =>
  intro i a hi ha hp
  rw [List.drop_of_length_le (by omega), List.drop_of_length_le (by omega)]
  have c1 : ¬ (i : Int) < (vs.length : Int) := by omega
  refine ev_succ ?_
  simp only [model_Code.l0, ↓reduceIte, c1, encR, encP, prodV, Int.mul_one, Int.add_zero]
  exact Ev.now _
 | succ d ih =>
  intro i a hi ha hp
  have hil : i < vs.length := by omega
  have hxl : i < xs.length := by omega
  have c1 : (i : Int) < (vs.length : Int) := by omega
  have c2 : (0 : Int) ≤ (i : Int) := by omega
  have c3 : (i : Int) < (xs.length : Int) := by omega
  have w1 : wrap64 ((i : Int) + 1) = ((i + 1 : Nat) : Int) := by rw [wrap_id (by omega) (by omega)]; rfl
  have hvi := ho _ (List.getElem_mem hil)
  rw [List.drop_eq_getElem_cons hil] at hp ⊢
  rw [List.drop_eq_getElem_cons hxl, encR]
  obtain ⟨p1, p2, p3⟩ := part_prod (a := a + 1) (by omega) hvi (drop_ok ho _) hp
  have e : (a + 1) * (vs[i].f2 - vs[i].f1 + 1) = a * (vs[i].f2 - vs[i].f1 + 1) + (vs[i].f2 - vs[i].f1 + 1) := by rw [Int.add_mul, Int.one_mul]
  have hs1 : 0 ≤ a * (vs[i].f2 - vs[i].f1 + 1) := Int.mul_nonneg ha (by unfold VOk at hvi; omega)
  refine ev_succ ?_
  by_cases b1 : xs[i] < vs[i].f1
  ·rw [if_pos (.inl b1)]
   simp only [model_Code.l0, ↓reduceIte, c1, c2, c3, rdV_get vs i hil, rd_get xs i hxl, b1]
   exact Ev.now _
  by_cases b2 : xs[i] > vs[i].f2
  ·rw [if_pos (.inr b2)]
   simp only [model_Code.l0, ↓reduceIte, c1, c2, c3, rdV_get vs i hil, rd_get xs i hxl, b1, b2]
   exact Ev.now _
  rw [if_neg (by omega)]
  have hvi' := hvi
  unfold VOk at hvi'
  have w2 : wrap64 (a * (vs[i].f2 - vs[i].f1 + 1)) = a * (vs[i].f2 - vs[i].f1 + 1) := wrap_id (by omega) (by omega)
  have w3 : wrap64 (a * (vs[i].f2 - vs[i].f1 + 1) + xs[i]) = a * (vs[i].f2 - vs[i].f1 + 1) + xs[i] := wrap_id (by omega) (by omega)
  have w4 : wrap64 (a * (vs[i].f2 - vs[i].f1 + 1) + xs[i] - vs[i].f1) = a * (vs[i].f2 - vs[i].f1 + 1) + xs[i] - vs[i].f1 := wrap_id (by omega) (by omega)
  simp only [model_Code.l0, ↓reduceIte, c1, c2, c3, rdV_get vs i hil, rd_get xs i hxl, b1, b2, w1, span_wrap hvi, w2, w3, w4]
  rw [prodV_cons, encP_step]
  refine ih (i + 1) _ (by omega) (by omega) ?_
  have hpr := prodV_pos (drop_ok ho (i + 1))
  have : (a * (vs[i].f2 - vs[i].f1 + 1) + xs[i] - vs[i].f1 + 1) * prodV (vs.drop (i + 1)) ≤ (a + 1) * (vs[i].f2 - vs[i].f1 + 1) * prodV (vs.drop (i + 1)) := Int.mul_le_mul (by omega) (Int.le_refl _) (by omega) (by omega)
  omega
theorem encR_bd : ∀ (vs : List PVar) (xs : List Int), (∀ v ∈ vs, VOk v) → xs.length = vs.length → ∀ n, encR vs xs = some n → 0 ≤ n ∧ n < prodV vs
 | [], xs, _, _, n, h => by
  simp only [encR, Option.some.injEq] at h
  subst h
  unfold prodV
  decide
 | v :: vs, [], _, hl, n, h => by simp at hl
 | v :: vs, x :: xs, ho, hl, n, h => by
  unfold encR at h
  split at h
  ·cases h
  rename_i hb
  obtain ⟨m, hm, rfl⟩ := Option.map_eq_some_iff.1 h
  obtain ⟨m0, m1⟩ := encR_bd vs xs (fun u hu => ho u (by simp [hu])) (by simpa using hl) m hm
  have hpr := prodV_pos (l := vs) (fun u hu => ho u (by simp [hu]))
  have h0 : 0 ≤ (x - v.f1) * prodV vs := Int.mul_nonneg (by omega) (by omega)
  have h1 : (x - v.f1 + 1) * prodV vs ≤ (v.f2 - v.f1 + 1) * prodV vs := Int.mul_le_mul (by omega) (Int.le_refl _) (by omega) (by omega)
  rw [Int.add_mul, Int.one_mul] at h1
  rw [prodV_cons]
  omega
theorem codeOf_l0 (vs : List PVar) (rs : List PRule) (hv : vs.length ≤ 6) (ho : ∀ v ∈ vs, VOk v) (hp0 : prodV vs ≤ 4096) (xs : List Int) (hx : xs.length = vs.length) (d : Nat) : ∀ (i : Nat) (a : Int), i + d = vs.length → 0 ≤ a → a + prodV (vs.drop i) ≤ 4096 →
  Ev (fun k => foretellref_CodeOf.l0 k xs a i vs rs) (encP a 1 (encR (vs.drop i) (xs.drop i))) := by
 induction d with
 | zero =>
  intro i a hi ha hp
  rw [List.drop_of_length_le (by omega), List.drop_of_length_le (by omega)]
  have c1 : ¬ (i : Int) < (xs.length : Int) := by omega
  refine ev_succ ?_
  simp only [foretellref_CodeOf.l0, ↓reduceIte, c1, encR, encP, prodV, Int.mul_one, Int.add_zero]
  exact Ev.now _
 | succ d ih =>
  intro i a hi ha hp
  have hil : i < vs.length := by omega
  have hxl : i < xs.length := by omega
  have c1 : (i : Int) < (vs.length : Int) := by omega
  have c2 : (0 : Int) ≤ (i : Int) := by omega
  have c3 : (i : Int) < (xs.length : Int) := by omega
  have w1 : wrap64 ((i : Int) + 1) = ((i + 1 : Nat) : Int) := by rw [wrap_id (by omega) (by omega)]; rfl
  have hvi := ho _ (List.getElem_mem hil)
  rw [List.drop_eq_getElem_cons hil] at hp ⊢
  rw [List.drop_eq_getElem_cons hxl, encR]
  refine ev_succ ?_
  by_cases b1 : vs[i].f1 ≤ xs[i] ∧ xs[i] ≤ vs[i].f2
  case neg =>
   have d1 : decide (vs[i].f1 ≤ xs[i] ∧ xs[i] ≤ vs[i].f2) = false := decide_eq_false b1
   rw [if_pos (by omega)]
   simp only [foretellref_CodeOf.l0, ↓reduceIte, c1, c2, c3, rdV_get vs i hil, rd_get xs i hxl, inE_eq, x_bind, d1, Bool.false_eq_true]
   exact Ev.now _
  have d1 : decide (vs[i].f1 ≤ xs[i] ∧ xs[i] ≤ vs[i].f2) = true := decide_eq_true b1
  rw [if_neg (by omega)]
  simp only [foretellref_CodeOf.l0, ↓reduceIte, c1, c2, c3, rdV_get vs i hil, rd_get xs i hxl, inE_eq, x_bind, d1]
  refine ev_bind (behind_ev vs rs hv ho hp0 (i + 1) (by omega) (i : Int) (by omega)) ?_
  have hpr := prodV_pos (drop_ok ho (i + 1))
  have hvi' := hvi
  unfold VOk at hvi'
  rw [prodV_cons] at hp
  have h0 : 0 ≤ (xs[i] - vs[i].f1) * prodV (vs.drop (i + 1)) := Int.mul_nonneg (by omega) (by omega)
  have h1 : (xs[i] - vs[i].f1 + 1) * prodV (vs.drop (i + 1)) ≤ (vs[i].f2 - vs[i].f1 + 1) * prodV (vs.drop (i + 1)) := Int.mul_le_mul (by omega) (Int.le_refl _) (by omega) (by omega)
  rw [Int.add_mul, Int.one_mul] at h1
  have w2 : wrap64 (xs[i] - vs[i].f1) = xs[i] - vs[i].f1 := wrap_id (by omega) (by omega)
  have w3 : wrap64 ((xs[i] - vs[i].f1) * prodV (vs.drop (i + 1))) = (xs[i] - vs[i].f1) * prodV (vs.drop (i + 1)) := wrap_id (by omega) (by omega)
  have w4 : wrap64 (a + (xs[i] - vs[i].f1) * prodV (vs.drop (i + 1))) = a + (xs[i] - vs[i].f1) * prodV (vs.drop (i + 1)) := wrap_id (by omega) (by omega)
  simp only [w1, w2, w3, w4]
  refine ev_eq (ih (i + 1) _ (by omega) (by omega) (by omega)) ?_
  cases encR (vs.drop (i + 1)) (xs.drop (i + 1)) with
  | none => rfl
  | some n => simp only [encP, Option.map_some, Int.mul_one, Int.add_assoc]
def codeS (vs : List PVar) (rs : List PRule) (xs : List Int) : Int × Int := if modelS vs rs = 0 then (if xs.length = vs.length then encP 0 1 (encR vs xs) else (0, 9)) else (0, modelS vs rs)
theorem encP_zero (p : Int) (r : Option Int) : encP 0 p r = encP 0 1 r := by
 cases r with
 | none => rfl
 | some n => simp only [encP, Int.zero_mul]
theorem code_ev (vs : List PVar) (rs : List PRule) (xs : List Int) : Ev (fun k => model_Code.f k vs rs xs) (codeS vs rs xs) := by
 unfold model_Code.f codeS
 refine ev_bind (modelCheck_ev vs rs) ?_
 by_cases h : modelS vs rs = 0
 ·obtain ⟨ho, hp⟩ := vars_ok (modelS_vars h)
  simp only [h, ↓reduceIte]
  by_cases h2 : xs.length = vs.length
  ·have c1 : (xs.length : Int) = (vs.length : Int) := by omega
   simp only [h2, ↓reduceIte]
   have := code_l0 vs (modelS_len h) ho xs h2 vs.length 0 0 (by omega) (Int.le_refl _) (by rw [Int.zero_add, Int.one_mul]; exact hp)
   rw [encP_zero] at this
   exact this
  ·have c1 : ¬ (xs.length : Int) = (vs.length : Int) := by omega
   simp only [h2, c1, ↓reduceIte]
   exact Ev.now _
 ·simp only [h, ↓reduceIte]
  exact Ev.now _
theorem codeOf_ev (vs : List PVar) (rs : List PRule) (xs : List Int) : Ev (fun k => foretellref_CodeOf.f k vs rs xs) (codeS vs rs xs) := by
 unfold foretellref_CodeOf.f codeS
 refine ev_bind (modelFault_ev vs rs) ?_
 by_cases h : modelS vs rs = 0
 ·obtain ⟨ho, hp⟩ := vars_ok (modelS_vars h)
  simp only [h, ↓reduceIte]
  by_cases h2 : xs.length = vs.length
  ·have c1 : (xs.length : Int) = (vs.length : Int) := by omega
   simp only [h2, ↓reduceIte]
   exact codeOf_l0 vs rs (modelS_len h) ho hp xs h2 vs.length 0 0 (by omega) (Int.le_refl _) (by rw [Int.zero_add]; exact hp)
  ·have c1 : ¬ (xs.length : Int) = (vs.length : Int) := by omega
   simp only [h2, c1, ↓reduceIte]
   exact Ev.now _
 ·simp only [h, ↓reduceIte]
  exact Ev.now _
theorem count_l0 (vs : List PVar) (hv : vs.length ≤ 6) (ho : ∀ v ∈ vs, VOk v) (d : Nat) : ∀ (i : Nat) (a : Int), i + d = vs.length → 1 ≤ a → a * prodV (vs.drop i) ≤ 4096 → Ev (fun k => model_Count.l0 k a vs (vs.length : Int) i) (a * prodV (vs.drop i), 0) := by
 induction d with
 | zero =>
  intro i a hi ha hp
  rw [List.drop_of_length_le (by omega)]
  have c1 : ¬ (i : Int) < (vs.length : Int) := by omega
  refine ev_succ ?_
  simp only [model_Count.l0, ↓reduceIte, c1, prodV, Int.mul_one]
  exact Ev.now _
 | succ d ih =>
  intro i a hi ha hp
  have hil : i < vs.length := by omega
  have c1 : (i : Int) < (vs.length : Int) := by omega
  have c2 : (0 : Int) ≤ (i : Int) := by omega
  have w1 : wrap64 ((i : Int) + 1) = ((i + 1 : Nat) : Int) := by rw [wrap_id (by omega) (by omega)]; rfl
  have hvi := ho _ (List.getElem_mem hil)
  rw [List.drop_eq_getElem_cons hil] at hp ⊢
  obtain ⟨p1, p2, p3⟩ := part_prod ha hvi (drop_ok ho _) hp
  have w2 : wrap64 (a * (vs[i].f2 - vs[i].f1 + 1)) = a * (vs[i].f2 - vs[i].f1 + 1) := wrap_id (by omega) (by omega)
  refine ev_succ ?_
  simp only [model_Count.l0, ↓reduceIte, c1, c2, rdV_get vs i hil, w1, span_wrap hvi, w2]
  rw [prodV_cons, ← Int.mul_assoc]
  exact ih (i + 1) _ (by omega) p1 p3
def countS (vs : List PVar) (rs : List PRule) : Int × Int := if modelS vs rs = 0 then (prodV vs, 0) else (0, modelS vs rs)
theorem count_ev (vs : List PVar) (rs : List PRule) : Ev (fun k => model_Count.f k vs rs) (countS vs rs) := by
 unfold model_Count.f countS
 refine ev_bind (modelCheck_ev vs rs) ?_
 by_cases h : modelS vs rs = 0
 ·obtain ⟨ho, hp⟩ := vars_ok (modelS_vars h)
  simp only [h, ↓reduceIte]
  have := count_l0 vs (modelS_len h) ho vs.length 0 1 (by omega) (by decide) (by rw [Int.one_mul]; exact hp)
  rw [Int.one_mul] at this
  exact this
 ·simp only [h, ↓reduceIte]
  exact Ev.now _
theorem stateCount_ev (vs : List PVar) (rs : List PRule) : Ev (fun k => foretellref_StateCount.f k vs rs) (countS vs rs) := by
 unfold foretellref_StateCount.f countS
 refine ev_bind (modelFault_ev vs rs) ?_
 by_cases h : modelS vs rs = 0
 ·obtain ⟨ho, hp⟩ := vars_ok (modelS_vars h)
  simp only [h, ↓reduceIte]
  exact ev_bind (behind_ev vs rs (modelS_len h) ho hp 0 (by omega) (-1) (by omega)) (Ev.now _)
 ·simp only [h, ↓reduceIte]
  exact Ev.now _
def valS : List PVar → Int → List Int
 | [], _ => []
 | v :: vs, c => (v.f1 + c / prodV vs) :: valS vs (c % prodV vs)
theorem valS_len : ∀ (vs : List PVar) (c : Int), (valS vs c).length = vs.length
 | [], _ => rfl
 | v :: vs, c => by simp [valS, valS_len vs]
theorem prodV_snoc (l : List PVar) (v : PVar) : prodV (l ++ [v]) = prodV l * (v.f2 - v.f1 + 1) := by
 induction l with
 | nil => simp [prodV]
 | cons u l ih => rw [List.cons_append, prodV_cons, prodV_cons, ih, Int.mul_assoc]
theorem div_mod_parts {c p s : Int} (hc : 0 ≤ c) (hp : 1 ≤ p) (hs : 1 ≤ s) : c / (p * s) = c / s / p ∧ (c % (p * s)) / s = (c / s) % p ∧ (c % (p * s)) % s = c % s := by
 have hps : 0 < p * s := Int.mul_pos (by omega) (by omega)
 refine ⟨by rw [Int.mul_comm, Int.ediv_ediv_of_nonneg (by omega)], ?_, by rw [Int.emod_emod_of_dvd _ (Int.dvd_mul_left p s)]⟩
 have h1 : c = c % (p * s) + (c / (p * s) * p) * s := by
  have := Int.emod_add_mul_ediv c (p * s)
  rw [Int.mul_comm (p * s), ← Int.mul_assoc] at this
  exact this.symm
 have h2 : c / s = c % (p * s) / s + c / (p * s) * p := by
  conv => lhs; rw [h1]
  rw [Int.add_mul_ediv_right _ _ (by omega)]
 rw [h2, Int.add_mul_emod_self_right]
 have r0 : 0 ≤ c % (p * s) := Int.emod_nonneg _ (by omega)
 have r1 : c % (p * s) < p * s := Int.emod_lt_of_pos _ hps
 exact (Int.emod_eq_of_lt (Int.ediv_nonneg r0 (by omega)) (Int.ediv_lt_of_lt_mul (by omega) r1)).symm
theorem valS_last (v : PVar) (hv : VOk v) : ∀ (l : List PVar) (c : Int), (∀ u ∈ l, VOk u) → 0 ≤ c → c < prodV (l ++ [v]) → valS (l ++ [v]) c = valS l (c / (v.f2 - v.f1 + 1)) ++ [v.f1 + c % (v.f2 - v.f1 + 1)]
 | [], c, _, hc, hlt => by
  unfold VOk at hv
  simp only [List.nil_append, valS, prodV, Int.ediv_one, List.cons.injEq, and_true]
  rw [List.nil_append, prodV_cons] at hlt
  unfold prodV at hlt
  rw [Int.emod_eq_of_lt hc (by omega)]
 | u :: l, c, hl, hc, hlt => by
  have hv' := hv
  unfold VOk at hv'
  have hp := prodV_pos (l := l) (fun x hx => hl x (by simp [hx]))
  have hps : 0 < prodV l * (v.f2 - v.f1 + 1) := Int.mul_pos (by omega) (by omega)
  obtain ⟨e1, e2, e3⟩ := div_mod_parts hc hp (show 1 ≤ v.f2 - v.f1 + 1 by omega)
  have hi := valS_last v hv l (c % prodV (l ++ [v])) (fun x hx => hl x (by simp [hx])) (by rw [prodV_snoc]; exact Int.emod_nonneg _ (by omega)) (by rw [prodV_snoc]; exact Int.emod_lt_of_pos _ hps)
  rw [List.cons_append]
  show (u.f1 + c / prodV (l ++ [v])) :: valS (l ++ [v]) (c % prodV (l ++ [v])) = (u.f1 + c / (v.f2 - v.f1 + 1) / prodV l) :: valS l (c / (v.f2 - v.f1 + 1) % prodV l) ++ _
  rw [hi, prodV_snoc, e1, e2, e3]
  rfl
theorem values_l0 (vs : List PVar) (rs : List PRule) (hv : vs.length ≤ 6) (ho : ∀ v ∈ vs, VOk v) (i : Nat) : ∀ (c : Int) (out : List Int), i ≤ vs.length → out.length = vs.length → 0 ≤ c → c < prodV (vs.take i) → prodV (vs.take i) ≤ 4096 →
  Ev (fun k => model_Values.l0 k c out ((i : Int) - 1) vs rs) (valS (vs.take i) c ++ out.drop i, 0) := by
 induction i with
 | zero =>
  intro c out hi hl hc hlt hp
  have c1 : ¬ ((0 : Nat) : Int) - 1 ≥ 0 := by decide
  refine ev_succ ?_
  simp only [model_Values.l0, ↓reduceIte, c1]
  exact Ev.now _
 | succ i ih =>
  intro c out hi hl hc hlt hp
  have hil : i < vs.length := by omega
  have hvi := ho _ (List.getElem_mem hil)
  have hvi' := hvi
  unfold VOk at hvi'
  have hto : ∀ u ∈ vs.take i, VOk u := fun u hu => ho u (List.mem_of_mem_take hu)
  have hpt := prodV_pos hto
  rw [List.take_succ_eq_append_getElem hil] at hlt hp ⊢
  have hlast := valS_last vs[i] hvi (vs.take i) c hto hc hlt
  rw [prodV_snoc] at hlt hp
  have hsp : prodV (vs.take i) * 1 ≤ prodV (vs.take i) * (vs[i].f2 - vs[i].f1 + 1) := Int.mul_le_mul (Int.le_refl _) (by omega) (by decide) (by omega)
  have e0 : ((i + 1 : Nat) : Int) - 1 = (i : Int) := by omega
  have c1 : (i : Int) ≥ 0 := by omega
  have c2 : (0 : Int) ≤ (i : Int) := by omega
  have c3 : (i : Int) < (vs.length : Int) := by omega
  have c4 : ¬ vs[i].f2 - vs[i].f1 + 1 = 0 := by omega
  have c5 : (i : Int) < (out.length : Int) := by omega
  have w1 : wrap64 ((i : Int) - 1) = (i : Int) - 1 := wrap_id (by omega) (by omega)
  have m0 : 0 ≤ c % (vs[i].f2 - vs[i].f1 + 1) := Int.emod_nonneg _ (by omega)
  have m1 : c % (vs[i].f2 - vs[i].f1 + 1) < vs[i].f2 - vs[i].f1 + 1 := Int.emod_lt_of_pos _ (by omega)
  have q0 : 0 ≤ c / (vs[i].f2 - vs[i].f1 + 1) := Int.ediv_nonneg hc (by omega)
  have q1 : c / (vs[i].f2 - vs[i].f1 + 1) < prodV (vs.take i) := Int.ediv_lt_of_lt_mul (by omega) hlt
  have w2 : wrap64 (c / (vs[i].f2 - vs[i].f1 + 1)) = c / (vs[i].f2 - vs[i].f1 + 1) := wrap_id (by omega) (by omega)
  have w3 : wrap64 (vs[i].f1 + c % (vs[i].f2 - vs[i].f1 + 1)) = vs[i].f1 + c % (vs[i].f2 - vs[i].f1 + 1) := wrap_id (by omega) (by omega)
  refine ev_succ ?_
  rw [e0]
  simp only [model_Values.l0, ↓reduceIte, c1, c2, c3, c4, c5, rdV_get vs i hil, span_wrap hvi, tdiv_of hc, tmod_of hc, w1, w2, w3, Int.toNat_natCast]
  refine ev_eq (ih _ _ (by omega) (by rw [List.length_set]; exact hl) q0 q1 (by omega)) ?_
  rw [hlast, List.append_assoc]
  congr 2
  have hol : i < out.length := by omega
  rw [List.drop_set, if_neg (by omega), Nat.sub_self, List.drop_eq_getElem_cons hol]
  rfl
def valuesS (vs : List PVar) (rs : List PRule) (c : Int) : List Int × Int := if modelS vs rs = 0 then (if c < 0 ∨ prodV vs ≤ c then ([], 9) else (valS vs c, 0)) else ([], modelS vs rs)
theorem values_ev (vs : List PVar) (rs : List PRule) (c : Int) : Ev (fun k => model_Values.f k vs rs c) (valuesS vs rs c) := by
 unfold model_Values.f valuesS
 refine ev_bind (count_ev vs rs) ?_
 unfold countS
 by_cases h : modelS vs rs = 0
 ·obtain ⟨ho, hp⟩ := vars_ok (modelS_vars h)
  have hl := modelS_len h
  simp only [h, ↓reduceIte]
  by_cases h1 : c < 0
  ·simp only [h1, true_or, ↓reduceIte]
   refine ev_succ ?_
   simp only [model_Values.j0, ↓reduceIte]
   exact Ev.now _
  by_cases h2 : prodV vs ≤ c
  ·have d2 : decide (c ≥ prodV vs) = true := decide_eq_true h2
   simp only [h1, h2, d2, or_true, ↓reduceIte]
   refine ev_succ ?_
   simp only [model_Values.j0, ↓reduceIte]
   exact Ev.now _
  have d2 : decide (c ≥ prodV vs) = false := decide_eq_false (by omega)
  simp only [h1, h2, d2, or_self, ↓reduceIte]
  have c1 : (0 : Int) ≤ (vs.length : Int) := by omega
  have c2 : (vs.length : Int).toNat ≤ 35184372088832 := by omega
  have w1 : wrap64 ((vs.length : Int) - 1) = (vs.length : Int) - 1 := wrap_id (by omega) (by omega)
  refine ev_succ ?_
  simp only [model_Values.j0, Bool.false_eq_true, ↓reduceIte, c1, c2, w1]
  have := values_l0 vs rs hl ho vs.length c (List.replicate (vs.length : Int).toNat 0) (Nat.le_refl _) (by simp) (by omega) (by rw [List.take_length]; omega) (by rw [List.take_length]; exact hp)
  rw [List.take_length, List.drop_of_length_le (by simp), List.append_nil] at this
  exact this
 ·simp only [h, ↓reduceIte]
  exact Ev.now _
theorem valuesOf_l0 (vs : List PVar) (rs : List PRule) (hv : vs.length ≤ 6) (ho : ∀ v ∈ vs, VOk v) (hp : prodV vs ≤ 4096) (d : Nat) : ∀ (i : Nat) (c : Int) (acc : List Int), i + d = vs.length → acc.length = i → 0 ≤ c → c < prodV (vs.drop i) →
  Ev (fun k => foretellref_ValuesOf.l0 k c acc i vs rs) (acc ++ valS (vs.drop i) c, 0) := by
 induction d with
 | zero =>
  intro i c acc hi ha hc hlt
  rw [List.drop_of_length_le (by omega)]
  have c1 : ¬ (i : Int) < (vs.length : Int) := by omega
  refine ev_succ ?_
  simp only [foretellref_ValuesOf.l0, ↓reduceIte, c1, valS, List.append_nil]
  exact Ev.now _
 | succ d ih =>
  intro i c acc hi ha hc hlt
  have hil : i < vs.length := by omega
  have c1 : (i : Int) < (vs.length : Int) := by omega
  have c2 : (0 : Int) ≤ (i : Int) := by omega
  have c3 : acc.length < 17592186044416 := by omega
  have w1 : wrap64 ((i : Int) + 1) = ((i + 1 : Nat) : Int) := by rw [wrap_id (by omega) (by omega)]; rfl
  have hvi := ho _ (List.getElem_mem hil)
  have hvi' := hvi
  unfold VOk at hvi'
  have hpr := prodV_pos (drop_ok ho (i + 1))
  have hdp := prodV_drop ho i
  have c4 : ¬ prodV (vs.drop (i + 1)) = 0 := by omega
  rw [List.drop_eq_getElem_cons hil] at hlt hdp ⊢
  rw [prodV_cons] at hlt hdp
  have q0 : 0 ≤ c / prodV (vs.drop (i + 1)) := Int.ediv_nonneg hc (by omega)
  have q1 : c / prodV (vs.drop (i + 1)) < vs[i].f2 - vs[i].f1 + 1 := Int.ediv_lt_of_lt_mul (by omega) hlt
  have w2 : wrap64 (c / prodV (vs.drop (i + 1))) = c / prodV (vs.drop (i + 1)) := wrap_id (by omega) (by omega)
  have w3 : wrap64 (vs[i].f1 + c / prodV (vs.drop (i + 1))) = vs[i].f1 + c / prodV (vs.drop (i + 1)) := wrap_id (by omega) (by omega)
  refine ev_succ ?_
  simp only [foretellref_ValuesOf.l0, ↓reduceIte, c1]
  refine ev_bind (behind_ev vs rs hv ho hp (i + 1) (by omega) (i : Int) (by omega)) ?_
  simp only [↓reduceIte, c2, c3, c4, rdV_get vs i hil, tdiv_of hc, tmod_of hc, w1, w2, w3]
  refine ev_eq (ih (i + 1) _ _ (by omega) (by simp [ha]) (Int.emod_nonneg _ (by omega)) (Int.emod_lt_of_pos _ (by omega))) ?_
  rw [List.append_assoc]
  rfl
theorem valuesOf_ev (vs : List PVar) (rs : List PRule) (c : Int) : Ev (fun k => foretellref_ValuesOf.f k vs rs c) (valuesS vs rs c) := by
 unfold foretellref_ValuesOf.f valuesS
 refine ev_bind (stateCount_ev vs rs) ?_
 unfold countS
 by_cases h : modelS vs rs = 0
 ·obtain ⟨ho, hp⟩ := vars_ok (modelS_vars h)
  have hl := modelS_len h
  have hpp := prodV_pos ho
  have w1 : wrap64 (prodV vs - 1) = prodV vs - 1 := wrap_id (by omega) (by omega)
  simp only [h, ↓reduceIte, inE_eq, x_bind, w1]
  by_cases h1 : 0 ≤ c ∧ c ≤ prodV vs - 1
  ·have d1 : decide (0 ≤ c ∧ c ≤ prodV vs - 1) = true := decide_eq_true h1
   rw [if_neg (show ¬ (c < 0 ∨ prodV vs ≤ c) by omega)]
   simp only [d1, ↓reduceIte]
   exact valuesOf_l0 vs rs hl ho hp vs.length 0 c [] (by omega) rfl h1.1 (by rw [List.drop_zero]; omega)
  ·have d1 : decide (0 ≤ c ∧ c ≤ prodV vs - 1) = false := decide_eq_false h1
   rw [if_pos (show c < 0 ∨ prodV vs ≤ c by omega)]
   simp only [d1, Bool.false_eq_true, ↓reduceIte]
   exact Ev.now _
 ·simp only [h, ↓reduceIte]
  exact Ev.now _
theorem pushS_app (n : Int) (s t : List Int) : pushS n (s ++ t) = (match pushS n t with | .error c => .error c | .ok u => .ok (s ++ u)) := by
 unfold pushS
 split <;> simp
theorem dropLast_app (s t : List Int) (h : 0 < t.length) : (s ++ t).dropLast = s ++ t.dropLast := List.dropLast_append_of_ne_nil (by intro e; rw [e] at h; simp at h)
theorem getLastD_app (s t : List Int) (h : 0 < t.length) : (s ++ t).getLastD 0 = t.getLastD 0 := by
 have hne : t ≠ [] := by intro e; rw [e] at h; simp at h
 rw [List.getLastD_eq_getLast?, List.getLastD_eq_getLast?, List.getLast?_append]
 cases h2 : t.getLast? with
 | none => exact absurd (List.getLast?_eq_none_iff.1 h2) hne
 | some x => rfl
theorem stepS_app (env : List Int) (o : POp) (s t : List Int) (h10 : o.f0 = 10 → 1 ≤ t.length) (h2 : ¬ (o.f0 = 1 ∨ o.f0 = 2 ∨ o.f0 = 11 ∨ o.f0 = 12 ∨ o.f0 = 10) → 2 ≤ t.length) : stepS env o (s ++ t) = (match stepS env o t with | .error c => .error c | .ok u => .ok (s ++ u)) := by
 unfold stepS
 by_cases k1 : o.f0 = 1
 ·simp only [if_pos k1]; exact pushS_app _ _ _
 by_cases k2 : o.f0 = 2
 ·simp only [if_neg k1, if_pos k2]; exact pushS_app _ _ _
 by_cases k3 : o.f0 = 11
 ·simp only [if_neg k1, if_neg k2, if_pos k3]; exact pushS_app _ _ _
 by_cases k4 : o.f0 = 12
 ·simp only [if_neg k1, if_neg k2, if_neg k3, if_pos k4]; exact pushS_app _ _ _
 by_cases k5 : o.f0 = 10
 ·simp only [if_neg k1, if_neg k2, if_neg k3, if_neg k4, if_pos k5]
  rw [dropLast_app _ _ (h10 k5), getLastD_app _ _ (h10 k5)]
  exact pushS_app _ _ _
 ·simp only [if_neg k1, if_neg k2, if_neg k3, if_neg k4, if_neg k5]
  have h := h2 (by omega)
  have hd : 0 < t.dropLast.length := by rw [List.length_dropLast]; omega
  rw [dropLast_app _ _ (by omega), getLastD_app _ _ (by omega), dropLast_app _ _ hd, getLastD_app _ _ hd]
  exact pushS_app _ _ _
theorem run_app (env : List Int) {n : Int} (r : List POp) : ∀ (l : List POp) (m : Nat), (∀ o ∈ l, fitE n o = 0) → scan l m = .ok [] → runS env (l ++ r) = (match runS env r with | .error c => .error c | .ok s => match runS env l with | .error c => .error c | .ok t => .ok (s ++ t))
 | [], m, hf, hs => by
  show runS env r = _
  cases runS env r <;> simp [runS]
 | o :: l, 0, hf, hs => by rw [scan_zero] at hs; cases hs
 | o :: l, m + 1, hf, hs => by
  rw [scan_cons] at hs
  split at hs
  ·rename_i hp
   have ih := run_app env r l _ (fun x hx => hf x (List.mem_cons_of_mem _ hx)) hs
   rw [List.cons_append, runS, ih]
   cases hr : runS env r with
   | error c => rfl
   | ok s =>
    cases hl : runS env l with
    | error c => simp [runS, hl]
    | ok t =>
     obtain ⟨k1, k2, k3⟩ := parts_of_kind hp (hf o (by simp))
     obtain ⟨a, _⟩ := run_len env l _ t (fun x hx => hf x (List.mem_cons_of_mem _ hx)) hs hl
     rw [k3] at a
     simp only [runS, hl]
     refine stepS_app env o s t (fun e => ?_) (fun e => ?_)
     ·rw [if_neg (by omega), if_pos e] at a; omega
     ·rw [if_neg (by omega), if_neg (by omega)] at a; omega
  ·cases hs
def res (n : Int) : Int × Int := if -1000000 ≤ n ∧ n ≤ 1000000 then (n, 0) else (0, 8)
def wOf (x : Except Int (List Int)) : Int × Int := match x with | .error c => (0, c) | .ok stk => (stk.getLastD 0, 0)
def workedS (env : List Int) (l : List POp) : Int × Int := wOf (runS env l)
theorem w_push (n : Int) (s : List Int) : wOf (pushS n s) = res n := by
 unfold pushS res
 by_cases c : n < -1000000 ∨ 1000000 < n
 ·rw [if_pos c, if_neg (by omega)]; rfl
 ·rw [if_neg c, if_pos (by omega)]
  show ((s ++ [n]).getLastD 0, (0 : Int)) = _
  simp
theorem j2_ev (n : Int) (b : Bool) : Ev (fun k => foretellref_worked.j2 k n b) (res (if b = true then 1 else n)) := by
 refine ev_succ ?_
 cases b
 ·simp only [foretellref_worked.j2, Bool.false_eq_true, if_false]
  refine ev_call (inE_eq _ _ _) ?_
  unfold res
  by_cases c : -1000000 ≤ n ∧ n ≤ 1000000
  ·rw [decide_eq_true c, if_pos c]; exact Ev.now _
  ·rw [decide_eq_false c, if_neg c]; exact Ev.now _
 ·simp only [foretellref_worked.j2, if_true]
  refine ev_call (inE_eq _ _ _) ?_
  exact Ev.now _
theorem rdT_zero (o : POp) (l : List POp) : rd_T73 (o :: l) 0 = o := rfl
theorem split_of {l : List POp} (h : one l) (hl : l.length ≤ 60) : splitS l = (partsL l, 0) := by unfold splitS; rw [endsS_of_one h hl]; rfl
theorem fin0 (o : POp) (env : List Int) (n : Int) (hf : fitE n o = 0) (hn : n = env.length) (a : arIs o 0) : Ev (fun k => foretellref_worked.l1 k [o] env [] [] (-1)) (wOf (stepS env o [])) := by
 obtain ⟨k1, k2, k3⟩ := parts_of_kind (by have : partsS o.f0 = (((0 : Nat) : Int), 0) := a; rw [this]) hf
 have hk : (partsS o.f0).1.toNat = 0 := by have : partsS o.f0 = (((0 : Nat) : Int), 0) := a; rw [this]; rfl
 rw [hk] at k3
 have hc : o.f0 = 1 ∨ o.f0 = 2 ∨ o.f0 = 11 ∨ o.f0 = 12 := by
  by_cases c : o.f0 = 1 ∨ o.f0 = 2 ∨ o.f0 = 11 ∨ o.f0 = 12
  ·exact c
  ·rw [if_neg c] at k3
   split at k3 <;> omega
 have hneg : ¬ ((-1 : Int) ≥ 0) := by omega
 have hpos : (0 : Int) < (([o] : List POp).length : Int) := by simp
 refine ev_succ ?_
 unfold stepS
 rcases hc with e | e | e | e
 ·simp only [foretellref_worked.l1, ↓reduceIte, hneg, hpos, rdT_zero, e, Int.reduceEq, w_push]
  exact j2_ev _ false
 ·have hv : 0 ≤ o.f1 ∧ o.f1 < (env.length : Int) := by
   unfold fitE at hf
   rw [if_neg (by omega), if_neg (by omega), if_pos e] at hf
   split at hf
   ·omega
   ·cases hf
  simp only [foretellref_worked.l1, ↓reduceIte, hneg, hpos, rdT_zero, e, Int.reduceEq, w_push, hv.1, hv.2]
  exact j2_ev _ false
 ·simp only [foretellref_worked.l1, ↓reduceIte, hneg, hpos, rdT_zero, e, Int.reduceEq, w_push]
  exact j2_ev 0 true
 ·simp only [foretellref_worked.l1, ↓reduceIte, hneg, hpos, rdT_zero, e, Int.reduceEq, w_push]
  exact j2_ev 0 false
theorem un_kind {o : POp} {n : Int} (hf : fitE n o = 0) (a : arIs o 1) : o.f0 = 10 := by
 have ha : partsS o.f0 = (((1 : Nat) : Int), 0) := a
 obtain ⟨k1, k2, k3⟩ := parts_of_kind (by rw [ha]) hf
 rw [ha] at k3
 by_cases c : o.f0 = 1 ∨ o.f0 = 2 ∨ o.f0 = 11 ∨ o.f0 = 12
 ·rw [if_pos c] at k3; cases k3
 ·rw [if_neg c] at k3
  by_cases d : o.f0 = 10
  ·exact d
  ·rw [if_neg d] at k3; cases k3
theorem bin_kind {o : POp} {n : Int} (hf : fitE n o = 0) (a : arIs o 2) : 3 ≤ o.f0 ∧ o.f0 ≤ 9 := by
 have ha : partsS o.f0 = (((2 : Nat) : Int), 0) := a
 obtain ⟨k1, k2, k3⟩ := parts_of_kind (by rw [ha]) hf
 rw [ha] at k3
 by_cases c : o.f0 = 1 ∨ o.f0 = 2 ∨ o.f0 = 11 ∨ o.f0 = 12
 ·rw [if_pos c] at k3; cases k3
 ·rw [if_neg c] at k3
  by_cases d : o.f0 = 10
  ·rw [if_pos d] at k3; cases k3
  ·omega
theorem fin1 (o : POp) (p : List POp) (env : List Int) (ps : List (List POp)) (x : Int) (hk : o.f0 = 10) (hx : x = 0 ∨ x = 1) : Ev (fun k => foretellref_worked.l1 k (o :: p) env ps [x] (-1)) (wOf (stepS env o [x])) := by
 have hneg : ¬ ((-1 : Int) ≥ 0) := by omega
 have hpos : (0 : Int) < ((o :: p).length : Int) := by rw [List.length_cons]; omega
 have h1 : (0 : Int) < (([x] : List Int).length : Int) := by simp
 have hr : rd [x] 0 = x := rfl
 refine ev_succ ?_
 unfold stepS
 simp only [foretellref_worked.l1, ↓reduceIte, hneg, hpos, rdT_zero, hk, Int.reduceEq, w_push, h1, hr]
 rcases hx with rfl | rfl
 ·exact j2_ev 0 true
 ·exact j2_ev 0 false
theorem and01 {a b : Int} (ha : a = 0 ∨ a = 1) (hb : b = 0 ∨ b = 1) : Go.bits .and .i64 a b = (if a = 1 ∧ b = 1 then 1 else 0) ∧ Go.bits .or .i64 a b = (if a = 1 ∨ b = 1 then 1 else 0) := by
 rcases ha with rfl | rfl <;> rcases hb with rfl | rfl <;> decide +kernel
theorem fin2 (o : POp) (p : List POp) (env : List Int) (ps : List (List POp)) (a b : Int) (hk : 3 ≤ o.f0 ∧ o.f0 ≤ 9) (ha : -1000000 ≤ a ∧ a ≤ 1000000) (hb : -1000000 ≤ b ∧ b ≤ 1000000) (h01 : 8 ≤ o.f0 → (a = 0 ∨ a = 1) ∧ (b = 0 ∨ b = 1)) :
  Ev (fun k => foretellref_worked.l1 k (o :: p) env ps [a, b] (-1)) (wOf (stepS env o [b, a])) := by
 have hneg : ¬ ((-1 : Int) ≥ 0) := by omega
 have hpos : (0 : Int) < ((o :: p).length : Int) := by rw [List.length_cons]; omega
 have h1 : (0 : Int) < (([a, b] : List Int).length : Int) := by simp
 have h2 : (1 : Int) < (([a, b] : List Int).length : Int) := by simp
 have hr : rd [a, b] 0 = a := rfl
 have hr1 : rd [a, b] 1 = b := rfl
 have hm : (a * b).natAbs ≤ 1000000 * 1000000 := by rw [Int.natAbs_mul]; exact Nat.mul_le_mul (by omega) (by omega)
 have e1 : wrap64 (a + b) = a + b := wrap_id (by omega) (by omega)
 have e2 : wrap64 (a - b) = a - b := wrap_id (by omega) (by omega)
 have e3 : wrap64 (a * b) = a * b := wrap_id (by omega) (by omega)
 have hs : stepS env o [b, a] = pushS (doVal o.f0 a b) [] := by
  unfold stepS
  rw [if_neg (by omega), if_neg (by omega), if_neg (by omega), if_neg (by omega), if_neg (by omega)]
  rfl
 have ff : ((false : Bool) = true) = False := by simp
 rw [hs, w_push]
 refine ev_succ ?_
 have : o.f0 = 3 ∨ o.f0 = 4 ∨ o.f0 = 5 ∨ o.f0 = 6 ∨ o.f0 = 7 ∨ o.f0 = 8 ∨ o.f0 = 9 := by omega
 rcases this with e | e | e | e | e | e | e
 ·simp only [foretellref_worked.l1, ↓reduceIte, hneg, hpos, rdT_zero, e, Int.reduceEq, h1, h2, hr, hr1, e1, doVal]
  exact j2_ev _ false
 ·simp only [foretellref_worked.l1, ↓reduceIte, hneg, hpos, rdT_zero, e, Int.reduceEq, h1, h2, hr, hr1, e2, doVal]
  exact j2_ev _ false
 ·simp only [foretellref_worked.l1, ↓reduceIte, hneg, hpos, rdT_zero, e, Int.reduceEq, h1, h2, hr, hr1, e3, doVal]
  exact j2_ev _ false
 ·simp only [foretellref_worked.l1, ↓reduceIte, hneg, hpos, rdT_zero, e, Int.reduceEq, h1, h2, hr, hr1, doVal]
  refine ev_eq (j2_ev 0 (a == b)) ?_
  by_cases c : a = b
  ·rw [if_pos c, if_pos (beq_iff_eq.2 c)]
  ·rw [if_neg c, if_neg (by simpa using c)]
 ·simp only [foretellref_worked.l1, ↓reduceIte, hneg, hpos, rdT_zero, e, Int.reduceEq, h1, h2, hr, hr1, doVal]
  refine ev_eq (j2_ev 0 (decide (a < b))) ?_
  by_cases c : a < b
  ·rw [if_pos c, if_pos (decide_eq_true c)]
  ·rw [if_neg c, if_neg (by simpa using c)]
 ·obtain ⟨qa, qb⟩ := h01 (by omega)
  simp only [foretellref_worked.l1, ↓reduceIte, hneg, hpos, rdT_zero, e, Int.reduceEq, h1, h2, hr, hr1, doVal, (and01 qa qb).1]
  rcases qa with rfl | rfl
  ·simp only [↓reduceIte, Int.reduceEq, false_and]
   exact j2_ev 0 false
  ·rcases qb with rfl | rfl
   ·exact j2_ev 0 false
   ·exact j2_ev 0 true
 ·obtain ⟨qa, qb⟩ := h01 (by omega)
  simp only [foretellref_worked.l1, ↓reduceIte, hneg, hpos, rdT_zero, e, Int.reduceEq, h1, h2, hr, hr1, doVal, (and01 qa qb).2]
  rcases qa with rfl | rfl
  ·rcases qb with rfl | rfl
   ·exact j2_ev 0 false
   ·exact j2_ev 0 true
  ·simp only [↓reduceIte, true_or]
   exact j2_ev 0 true
def truthy (env : List Int) (l : List POp) : Prop := mkH l = true → ∀ stk, runS env l = .ok stk → stk.getLastD 0 = 0 ∨ stk.getLastD 0 = 1
theorem run_one (env : List Int) {n : Int} {l : List POp} (h1 : one l) (hf : ∀ o ∈ l, fitE n o = 0) {stk : List Int} (h : runS env l = .ok stk) : ∃ x, stk = [x] ∧ -1000000 ≤ x ∧ x ≤ 1000000 := by
 obtain ⟨a, b⟩ := run_len env l 1 stk hf h1 h
 match stk, a with
 | [x], _ => exact ⟨x, rfl, b x (by simp)⟩
theorem run_err_ne (env : List Int) : ∀ (l : List POp) (c : Int), runS env l = .error c → c ≠ 0
 | [], c, h => by cases h
 | o :: l, c, h => by
  unfold runS at h
  split at h
  ·rename_i c' hr
   cases h
   exact run_err_ne env l _ hr
  ·rename_i s hr
   obtain ⟨n, s', e, _⟩ := stepS_cases env o s
   rw [e] at h
   rw [pushS_err h]
   decide
theorem worked_ev (env : List Int) (n : Int) (hn : n = env.length) : ∀ l, one l → (∀ o ∈ l, fitE n o = 0) → typB l = true → l.length ≤ 60 → Ev (fun k => foretellref_worked.f k l env) (workedS env l) ∧ truthy env l := by
 refine one_ind ?_ ?_ ?_
 ·intro o a hf ht hl
  refine ⟨?_, ?_⟩
  ·refine ev_succ ?_
   simp only [foretellref_worked.f]
   refine ev_bind (ev_eq (splitOf_ev [o]) (split_of (one_leaf a) (by simp))) ?_
   rw [partsL_leaf a]
   refine ev_succ ?_
   have h0 : ¬ ((0 : Int) < (([] : List (List POp)).length : Int)) := by simp
   have w0 : wrap64 ((([] : List (List POp)).length : Int) - 1) = -1 := by simp [wrap64]
   simp only [foretellref_worked.l0, ↓reduceIte, h0, w0]
   exact fin0 o env n (hf o (by simp)) hn a
  ·intro hm stk hs
   have hk : decide (6 ≤ o.f0 ∧ o.f0 ≤ 12) = true := hm
   have hk := of_decide_eq_true hk
   have hfo := hf o (by simp)
   have ha : partsS o.f0 = (((0 : Nat) : Int), 0) := a
   obtain ⟨k1, k2, k3⟩ := parts_of_kind (by rw [ha]) hfo
   rw [ha] at k3
   have hs : stepS env o [] = .ok stk := hs
   by_cases c : o.f0 = 11
   ·unfold stepS at hs
    rw [if_neg (by omega), if_neg (by omega), if_pos c] at hs
    obtain ⟨rfl, _⟩ := pushS_ok hs
    exact .inr rfl
   ·have c2 : o.f0 = 12 := by
     by_cases d : o.f0 = 1 ∨ o.f0 = 2 ∨ o.f0 = 11 ∨ o.f0 = 12
     ·omega
     ·rw [if_neg d] at k3
      split at k3 <;> cases k3
    unfold stepS at hs
    rw [if_neg (by omega), if_neg (by omega), if_neg c, if_pos c2] at hs
    obtain ⟨rfl, _⟩ := pushS_ok hs
    exact .inl rfl
 ·intro o p a hp ih hf ht hl
  have hfo := hf o (by simp)
  have hfp : ∀ x ∈ p, fitE n x = 0 := fun x hx => hf x (List.mem_cons_of_mem _ hx)
  have hk := un_kind hfo a
  rw [typB_un a hp, fitsAt_zero, partsL_un a hp, Bool.and_eq_true] at ht
  obtain ⟨ht1, ht2⟩ := ht
  have hmk : mkH p = true := by
   have : (mkH p == tk o.f0) = true := by simpa using ht1
   rw [beq_iff_eq.1 this]
   exact decide_eq_true (by omega)
  obtain ⟨ih1, ih2⟩ := ih hfp ht2 (by simp at hl; omega)
  have hrun : runS env (o :: p) = (match runS env p with | .error c => .error c | .ok stk => stepS env o stk) := rfl
  refine ⟨?_, ?_⟩
  ·refine ev_succ ?_
   simp only [foretellref_worked.f]
   refine ev_bind (ev_eq (splitOf_ev (o :: p)) (split_of (one_un a hp) hl)) ?_
   rw [partsL_un a hp]
   have h0 : (0 : Int) < (([p] : List (List POp)).length : Int) := by simp
   have h1 : ¬ ((1 : Int) < (([p] : List (List POp)).length : Int)) := by simp
   have w0 : wrap64 (0 + 1) = 1 := by simp [wrap64]
   have w1 : wrap64 ((([p] : List (List POp)).length : Int) - 1) = 0 := by simp [wrap64]
   have w2 : wrap64 (0 - 1) = -1 := by simp [wrap64]
   have l0 : ([] : List Int).length < 17592186044416 := by decide
   have l1 : (0 : Int) < ((([] : List Int) ++ [0]).length : Int) := by decide
   have g0 : (0 : Int) ≥ 0 := by decide
   have gp : rd_L4 [p] 0 = p := rfl
   refine ev_succ (ev_succ ?_)
   simp only [foretellref_worked.l0, ↓reduceIte, h0, h1, w0, w1, l0]
   refine ev_succ ?_
   simp only [foretellref_worked.l1, ↓reduceIte, g0, h0, gp, Int.le_refl]
   refine ev_bind ih1 ?_
   unfold workedS
   rw [hrun]
   cases hr : runS env p with
   | error c =>
    have hc : c ≠ 0 := run_err_ne env p c hr
    simp only [wOf, hc, ↓reduceIte]
    exact Ev.now _
   | ok stk =>
    obtain ⟨x, rfl, hx⟩ := run_one env hp hfp hr
    have hx01 := ih2 hmk _ hr
    have hx01 : x = 0 ∨ x = 1 := hx01
    simp only [wOf, ↓reduceIte, l1, w2]
    exact fin1 o p env [p] x hk hx01
  ·intro hm stk hs
   rw [hrun] at hs
   cases hr : runS env p with
   | error c => rw [hr] at hs; cases hs
   | ok s =>
    rw [hr] at hs
    obtain ⟨x, rfl, hx⟩ := run_one env hp hfp hr
    have hx01 : x = 0 ∨ x = 1 := ih2 hmk _ hr
    have hs : stepS env o [x] = .ok stk := hs
    unfold stepS at hs
    rw [if_neg (by omega), if_neg (by omega), if_neg (by omega), if_neg (by omega), if_pos hk] at hs
    obtain ⟨rfl, _⟩ := pushS_ok hs
    show (1 - x = 0 ∨ 1 - x = 1)
    omega
 ·intro o p q a hp hq ihp ihq hf ht hl
  have hfo := hf o (by simp)
  have hfp : ∀ x ∈ p, fitE n x = 0 := fun x hx => hf x (by simp [hx])
  have hfq : ∀ x ∈ q, fitE n x = 0 := fun x hx => hf x (by simp [hx])
  have hk := bin_kind hfo a
  rw [typB_bin a hp hq, fitsAt_zero, partsL_bin a hp hq, Bool.and_eq_true, Bool.and_eq_true] at ht
  obtain ⟨ht1, ht2, ht3⟩ := ht
  have hmk : 8 ≤ o.f0 → mkH p = true ∧ mkH q = true := by
   intro h8
   have : (mkH p == tk o.f0) = true ∧ (mkH q == tk o.f0) = true := by simpa using ht1
   rw [beq_iff_eq.1 this.1, beq_iff_eq.1 this.2]
   exact ⟨decide_eq_true (by omega), decide_eq_true (by omega)⟩
  simp at hl
  obtain ⟨ihp1, ihp2⟩ := ihp hfp ht2 (by omega)
  obtain ⟨ihq1, ihq2⟩ := ihq hfq ht3 (by omega)
  have hrun : runS env (o :: (p ++ q)) = (match runS env q with | .error c => .error c | .ok s => match runS env p with | .error c => .error c | .ok t => stepS env o (s ++ t)) := by
   rw [runS, run_app env q p 1 hfp hp]
   cases runS env q with
   | error c => rfl
   | ok s => cases runS env p <;> rfl
  refine ⟨?_, ?_⟩
  ·refine ev_succ ?_
   simp only [foretellref_worked.f]
   refine ev_bind (ev_eq (splitOf_ev (o :: (p ++ q))) (split_of (one_bin a hp hq) (by simp; omega))) ?_
   rw [partsL_bin a hp hq]
   have h0 : (0 : Int) < (([p, q] : List (List POp)).length : Int) := by simp
   have h1 : (1 : Int) < (([p, q] : List (List POp)).length : Int) := by simp
   have h2 : ¬ ((2 : Int) < (([p, q] : List (List POp)).length : Int)) := by simp
   have w0 : wrap64 (0 + 1) = 1 := by simp [wrap64]
   have w0' : wrap64 (1 + 1) = 2 := by simp [wrap64]
   have w1 : wrap64 ((([p, q] : List (List POp)).length : Int) - 1) = 1 := by simp [wrap64]
   have w2 : wrap64 (0 - 1) = -1 := by simp [wrap64]
   have w3 : wrap64 (1 - 1) = 0 := by simp [wrap64]
   have l0 : ([] : List Int).length < 17592186044416 := by decide
   have l0' : (([] : List Int) ++ [0]).length < 17592186044416 := by decide
   have l1 : (1 : Int) < ((([] : List Int) ++ [0] ++ [0]).length : Int) := by decide
   have l2 : ∀ b : Int, (0 : Int) < (((([] : List Int) ++ [0] ++ [0]).set (1 : Int).toNat b).length : Int) := fun b => by simp
   have g0 : (0 : Int) ≥ 0 := by decide
   have g1 : (1 : Int) ≥ 0 := by decide
   have g1' : (0 : Int) ≤ 1 := by decide
   have gp : rd_L4 [p, q] 0 = p := rfl
   have gq : rd_L4 [p, q] 1 = q := rfl
   refine ev_succ (ev_succ (ev_succ ?_))
   simp only [foretellref_worked.l0, ↓reduceIte, h0, h1, h2, w0, w0', w1, l0, l0']
   refine ev_succ ?_
   simp only [foretellref_worked.l1, ↓reduceIte, g1, g1', h1, gq]
   refine ev_bind ihq1 ?_
   unfold workedS
   rw [hrun]
   cases hrq : runS env q with
   | error c =>
    have hc : c ≠ 0 := run_err_ne env q c hrq
    simp only [wOf, hc, ↓reduceIte]
    exact Ev.now _
   | ok s =>
    obtain ⟨b, rfl, hb⟩ := run_one env hq hfq hrq
    simp only [wOf, ↓reduceIte, l1, w3]
    refine ev_succ ?_
    simp only [foretellref_worked.l1, ↓reduceIte, g0, h0, gp, Int.le_refl]
    refine ev_bind ihp1 ?_
    unfold workedS
    cases hrp : runS env p with
    | error c =>
     have hc : c ≠ 0 := run_err_ne env p c hrp
     simp only [wOf, hc, ↓reduceIte]
     exact Ev.now _
    | ok t =>
     obtain ⟨x, rfl, hx⟩ := run_one env hp hfp hrp
     simp only [wOf, ↓reduceIte, l2, w2]
     exact fin2 o (p ++ q) env [p, q] x b hk hx hb (fun h8 => ⟨ihp2 (hmk h8).1 _ hrp, ihq2 (hmk h8).2 _ hrq⟩)
  ·intro hm stk hs
   rw [hrun] at hs
   cases hrq : runS env q with
   | error c => rw [hrq] at hs; cases hs
   | ok s =>
    cases hrp : runS env p with
    | error c => rw [hrq, hrp] at hs; cases hs
    | ok t =>
     rw [hrq, hrp] at hs
     obtain ⟨b, rfl, hb⟩ := run_one env hq hfq hrq
     obtain ⟨x, rfl, hx⟩ := run_one env hp hfp hrp
     have hs : stepS env o [b, x] = .ok stk := hs
     have hk6 : decide (6 ≤ o.f0 ∧ o.f0 ≤ 12) = true := hm
     have hk6 := of_decide_eq_true hk6
     unfold stepS at hs
     rw [if_neg (by omega), if_neg (by omega), if_neg (by omega), if_neg (by omega), if_neg (by omega)] at hs
     obtain ⟨rfl, _⟩ := pushS_ok hs
     show (doVal o.f0 x b = 0 ∨ doVal o.f0 x b = 1)
     unfold doVal
     rw [if_neg (by omega), if_neg (by omega), if_neg (by omega)]
     by_cases c6 : o.f0 = 6
     ·rw [if_pos c6]; split <;> simp
     rw [if_neg c6]
     by_cases c7 : o.f0 = 7
     ·rw [if_pos c7]; split <;> simp
     rw [if_neg c7]
     have q1 : x = 0 ∨ x = 1 := ihp2 (hmk (by omega)).1 _ hrp
     have q2 : b = 0 ∨ b = 1 := ihq2 (hmk (by omega)).2 _ hrq
     rw [(and01 q1 q2).1, (and01 q1 q2).2]
     split <;> split <;> simp
theorem evaluated_loop (l : List POp) (env : List Int) (hm : env.length ≤ 6) (h : Ev (fun k => foretellref_worked.f k l env) (workedS env l)) (d : Nat) : ∀ i : Nat, i + d = env.length →
  Ev (fun k => foretellref_Evaluated.l0 k l env i) (if (env.drop i).all inR = true then workedS env l else (0, 2)) := by
 induction d with
 | zero =>
  intro i hi
  rw [List.drop_of_length_le (by omega)]
  refine ev_succ ?_
  simp (disch := omega) only [foretellref_Evaluated.l0, if_neg, List.all_nil, if_true]
  exact ev_bind h (Ev.now _)
 | succ d ih =>
  intro i hi
  have hlt : i < env.length := by omega
  rw [List.drop_eq_getElem_cons hlt, List.all_cons]
  refine ev_succ ?_
  have c1 : (i : Int) < env.length := by omega
  have c2 : (0 : Int) ≤ (i : Int) := by omega
  have w1 : wrap64 ((i : Int) + 1) = (i : Int) + 1 := wrap_id (by omega) (by omega)
  simp only [foretellref_Evaluated.l0, ↓reduceIte, c1, c2, w1, rd_get env i hlt]
  refine ev_call (inE_eq _ _ _) ?_
  by_cases c : -1000000 ≤ env[i] ∧ env[i] ≤ 1000000
  ·have hi : inR env[i] = true := decide_eq_true c
   rw [decide_eq_true c, hi, Bool.true_and]
   simp only [↓reduceIte]
   exact ih (i + 1) (by omega)
  ·have hi : inR env[i] = false := decide_eq_false c
   rw [decide_eq_false c, hi, Bool.false_and]
   exact Ev.now _
theorem evaluated_ev (l : List POp) (env : List Int) (hm : env.length ≤ 9223372036854775807) : Ev (fun k => foretellref_Evaluated.f k l env) (evalS l env) := by
 unfold foretellref_Evaluated.f evalS
 refine ev_bind (exprChecked_ev l env.length ⟨by omega, by omega⟩) ?_
 by_cases h : (exprS l env.length).2 = 0
 ·simp only [if_pos h]
  obtain ⟨⟨e0, e6⟩, h1, h60, hf, ht, _⟩ := exprS_ok h
  have hw := (worked_ev env env.length rfl l h1 hf ht h60).1
  have := evaluated_loop l env (by omega) hw env.length 0 (by omega)
  exact this
 ·simp only [if_neg h]
  exact Ev.now _
def applyS (vs : List PVar) (env : List Int) : List PSet → List Int → Option (List Int)
 | [], out => some out
 | s :: ss, out => if (evalS s.f1 env).2 = 0 ∧ (rd_T58 vs s.f0).f1 ≤ (evalS s.f1 env).1 ∧ (evalS s.f1 env).1 ≤ (rd_T58 vs s.f0).f2 then applyS vs env ss (out.set s.f0.toNat (evalS s.f1 env).1) else none
def afterV (vs : List PVar) (r : PRule) (env : List Int) : Option (List Int) := if (evalS r.f0 env).2 = 0 ∧ (evalS r.f0 env).1 ≠ 0 then applyS vs env r.f1 env else none
def afterS (vs : List PVar) (rs : List PRule) (c k : Int) : Int × Int :=
 if (valuesS vs rs c).2 = 0 then (if 0 ≤ k ∧ k < (rs.length : Int) then (match afterV vs (rd_T49 rs k) (valuesS vs rs c).1 with | none => (0, 11) | some out => codeS vs rs out) else (0, 2)) else (0, (valuesS vs rs c).2)
def oneVar (env : List Int) (i : Int) : List PSet → Int → Option Int
 | [], x => some x
 | s :: ss, x => if s.f0 = i then (if (evalS s.f1 env).2 = 0 then oneVar env i ss (evalS s.f1 env).1 else none) else oneVar env i ss x
def allVars (env : List Int) (ss : List PSet) : List Int → Nat → Option (List Int)
 | [], _ => some []
 | x :: xs, i => match oneVar env i ss x with | none => none | some y => (allVars env ss xs (i + 1)).map (y :: ·)
def ruleV (vs : List PVar) (rs : List PRule) (r : PRule) (env : List Int) : Int × Int :=
 if (evalS r.f0 env).2 = 0 ∧ (evalS r.f0 env).1 = 1 then (match allVars env r.f1 env 0 with | none => (0, 11) | some out => if (codeS vs rs out).2 = 0 then ((codeS vs rs out).1, 0) else (0, 11)) else (0, 11)
def ruleAt (vs : List PVar) (rs : List PRule) (c k : Int) : Int × Int :=
 if (valuesS vs rs c).2 = 0 then (if 0 ≤ k ∧ k < (rs.length : Int) then ruleV vs rs (rd_T49 rs k) (valuesS vs rs c).1 else (0, 2)) else (0, (valuesS vs rs c).2)
def inB (vs : List PVar) (xs : List Int) : Prop := ∀ i (h : i < vs.length) (g : i < xs.length), vs[i].f1 ≤ xs[i] ∧ xs[i] ≤ vs[i].f2
theorem encR_in : ∀ (vs : List PVar) (xs : List Int), xs.length = vs.length → inB vs xs → ∃ n, encR vs xs = some n
 | [], xs, _, _ => ⟨0, by simp [encR]⟩
 | v :: vs, [], h, _ => by simp at h
 | v :: vs, x :: xs, h, hb => by
  obtain ⟨n, hn⟩ := encR_in vs xs (by simpa using h) (fun i h1 h2 => hb (i + 1) (by simpa using h1) (by simpa using h2))
  have := hb 0 (by simp) (by simp)
  simp only [List.getElem_cons_zero] at this
  refine ⟨(x - v.f1) * prodV vs + n, ?_⟩
  rw [encR, if_neg (by omega), hn]
  rfl
theorem encR_out : ∀ (vs : List PVar) (xs : List Int) (i : Nat) (h : i < vs.length) (g : i < xs.length), xs[i] < vs[i].f1 ∨ vs[i].f2 < xs[i] → encR vs xs = none
 | v :: vs, x :: xs, 0, _, _, hb => by
  simp only [List.getElem_cons_zero] at hb
  rw [encR, if_pos hb]
 | v :: vs, x :: xs, i + 1, h, g, hb => by
  rw [encR, encR_out vs xs i (by simpa using h) (by simpa using g) hb]
  split <;> rfl
theorem valS_in : ∀ (vs : List PVar) (c : Int), (∀ v ∈ vs, VOk v) → 0 ≤ c → c < prodV vs → inB vs (valS vs c)
 | [], c, _, _, _ => fun i h => absurd h (by simp)
 | v :: vs, c, ho, h0, h1 => by
  have hp := prodV_pos (l := vs) (fun u hu => ho u (by simp [hu]))
  have hv := ho v (by simp)
  unfold VOk at hv
  rw [prodV_cons] at h1
  have e0 : 0 ≤ c / prodV vs := Int.ediv_nonneg h0 (by omega)
  have e1 : c / prodV vs < v.f2 - v.f1 + 1 := Int.ediv_lt_of_lt_mul (by omega) h1
  have ih := valS_in vs (c % prodV vs) (fun u hu => ho u (by simp [hu])) (Int.emod_nonneg _ (by omega)) (Int.emod_lt_of_pos _ (by omega))
  intro i h g
  cases i with
  | zero =>
   simp only [valS, List.getElem_cons_zero]
   omega
  | succ i =>
   simp only [valS, List.getElem_cons_succ]
   exact ih i (by simpa using h) (by simpa [valS] using g)
structure SetsOk (n : Nat) (ss : List PSet) : Prop where
 ran : ∀ s ∈ ss, 0 ≤ s.f0 ∧ s.f0 < (n : Int)
 dis : ss.Pairwise fun a b => a.f0 ≠ b.f0
theorem setsS_ok (n : Nat) : ∀ (ss : List PSet) (seen : List Int), setsS n ss seen = 0 → SetsOk n ss ∧ ∀ s ∈ ss, s.f0 ∉ seen
 | [], _, _ => ⟨⟨fun s hs => (nomatch hs), List.Pairwise.nil⟩, fun s hs => (nomatch hs)⟩
 | s :: ss, seen, h => by
  unfold setsS at h
  split at h
  ·cases h
  rename_i h1
  split at h
  ·cases h
  rename_i h2
  split at h
  ·rename_i h3
   obtain ⟨ih, ih2⟩ := setsS_ok n ss (seen ++ [s.f0]) h
   have hs : s.f0 ∉ seen := by
    intro hm
    apply h2
    rw [List.any_eq_true]
    exact ⟨s.f0, hm, by simp⟩
   refine ⟨⟨fun u hu => ?_, List.Pairwise.cons (fun u hu e => ?_) ih.dis⟩, fun u hu => ?_⟩
   ·rcases List.mem_cons.1 hu with rfl | hu
    ·omega
    ·exact ih.ran u hu
   ·exact ih2 u hu (by rw [← e]; simp)
   ·rcases List.mem_cons.1 hu with rfl | hu
    ·exact hs
    ·exact fun hm => ih2 u hu (List.mem_append_left _ hm)
  ·rename_i h3; exact absurd h h3
theorem rulesS_at (n : Int) : ∀ (rs : List PRule) (k : Nat) (hk : k < rs.length), rulesS n rs = 0 → ruleS rs[k].f0 rs[k].f1 n = 0
 | r :: rs, 0, _, h => by
  unfold rulesS at h
  by_cases hc : ruleS r.f0 r.f1 n = 0
  ·exact hc
  ·rw [if_neg hc] at h; exact absurd h hc
 | r :: rs, k + 1, hk, h => by
  unfold rulesS at h
  by_cases hc : ruleS r.f0 r.f1 n = 0
  ·rw [if_pos hc] at h
   exact rulesS_at n rs k (by simpa using hk) h
  ·rw [if_neg hc] at h; exact absurd h hc
theorem ruleS_ok {n : Nat} {g : List POp} {ss : List PSet} (h : ruleS g ss n = 0) : kindS g n true = 0 ∧ SetsOk n ss := by
 unfold ruleS at h
 split at h
 ·cases h
 split at h
 ·rename_i h2
  exact ⟨h2, (setsS_ok n ss [] h).1⟩
 ·rename_i h2; exact absurd h h2
theorem modelS_rules {vs : List PVar} {rs : List PRule} (h : modelS vs rs = 0) : rulesS (vs.length : Int) rs = 0 ∧ rs.length ≤ 12 := by
 unfold modelS at h
 split at h
 ·split at h
  ·cases h
  ·exact ⟨h, by omega⟩
 ·rename_i h2; exact absurd h h2
theorem guard01 {g : List POp} {env : List Int} (h : kindS g (env.length : Int) true = 0) (he : (evalS g env).2 = 0) : (evalS g env).1 = 0 ∨ (evalS g env).1 = 1 := by
 unfold kindS at h
 split at h
 ·rename_i h2
  split at h
  ·cases h
  rename_i h3
  have hk : (exprS g (env.length : Int)).1 = true := by
   revert h3
   cases (exprS g (env.length : Int)).1 <;> simp
  obtain ⟨q1, q2, q3, q4, q5, q6⟩ := exprS_ok h2
  have hw := (worked_ev env (env.length : Int) rfl g q2 q4 q5 q3).2
  have hm : mkH g = true := by
   have e : (exprS g (env.length : Int)).1 = mkH g := by
    have h2' := h2
    unfold exprS at h2' ⊢
    rw [if_pos q1, if_pos (show (endsS g).2 = 0 by rw [q6])] at h2' ⊢
    by_cases hc : chkE (env.length : Int) g = 0
    ·rw [if_pos hc, if_pos q5]
    ·rw [if_neg hc] at h2'; exact absurd h2' hc
   rw [← e]; exact hk
  unfold evalS at he ⊢
  rw [if_pos h2] at he ⊢
  split at he
  ·rename_i h4
   rw [if_pos h4]
   cases hr : runS env g with
   | error c => rw [hr] at he; exact absurd he (run_err_ne env g c hr)
   | ok stk => exact hw hm stk hr
  ·cases he
 ·rename_i h2; exact absurd h h2
theorem applyS_len (vs : List PVar) (env : List Int) : ∀ (ss : List PSet) (out o : List Int), applyS vs env ss out = some o → o.length = out.length
 | [], out, o, h => by simp only [applyS, Option.some.injEq] at h; rw [← h]
 | s :: ss, out, o, h => by
  unfold applyS at h
  split at h
  ·rw [applyS_len vs env ss _ o h, List.length_set]
  ·cases h
theorem oneVar_none (env : List Int) (i : Int) : ∀ (ss : List PSet) (x : Int), (∀ s ∈ ss, s.f0 ≠ i) → oneVar env i ss x = some x
 | [], x, _ => rfl
 | s :: ss, x, h => by
  rw [oneVar, if_neg (h s (by simp))]
  exact oneVar_none env i ss x (fun u hu => h u (by simp [hu]))
theorem oneVar_bad (env : List Int) : ∀ (ss : List PSet) (s : PSet) (x : Int), s ∈ ss → (evalS s.f1 env).2 ≠ 0 → (∀ u ∈ ss, u.f0 = s.f0 → u.f0 = s.f0) → oneVar env s.f0 ss x = none
 | [], s, x, h, _, _ => (nomatch h)
 | u :: ss, s, x, h, he, hd => by
  rw [oneVar]
  rcases List.mem_cons.1 h with rfl | hm
  ·rw [if_pos rfl, if_neg he]
  ·have ih := fun y => oneVar_bad env ss s y hm he (fun _ _ h => h)
   split
   ·split
    ·exact ih _
    ·rfl
   ·exact ih _
theorem allVars_bad (env : List Int) (ss : List PSet) : ∀ (xs : List Int) (i j : Nat), j < xs.length → (∀ x, oneVar env ((i + j : Nat) : Int) ss x = none) → allVars env ss xs i = none
 | x :: xs, i, 0, _, h => by
  have h' := h x
  rw [Nat.add_zero] at h'
  rw [allVars, h']
 | x :: xs, i, j + 1, hj, h => by
  rw [allVars]
  split
  ·rfl
  ·rw [allVars_bad env ss xs (i + 1) j (by simpa using hj) (by rw [show i + 1 + j = i + (j + 1) by omega]; exact h)]
   rfl
theorem allVars_get (env : List Int) (ss : List PSet) : ∀ (xs : List Int) (i : Nat) (out : List Int), out.length = xs.length → (∀ j (h : j < xs.length) (g : j < out.length), oneVar env ((i + j : Nat) : Int) ss xs[j] = some out[j]) → allVars env ss xs i = some out
 | [], i, out, hl, _ => by
  obtain rfl : out = [] := List.eq_nil_of_length_eq_zero hl
  rfl
 | x :: xs, i, [], hl, _ => by simp at hl
 | x :: xs, i, y :: out, hl, h => by
  have h0 := h 0 (by simp) (by simp)
  simp only [Nat.add_zero, List.getElem_cons_zero] at h0
  rw [allVars, h0]
  simp only
  rw [allVars_get env ss xs (i + 1) out (by simpa using hl) (fun j h1 h2 => by
   have := h (j + 1) (by simpa using h1) (by simpa using h2)
   rw [show i + 1 + j = i + (j + 1) by omega]
   simpa using this)]
  rfl
theorem apply_both (vs : List PVar) (env : List Int) : ∀ (ss : List PSet) (out : List Int), SetsOk out.length ss → out.length = vs.length → (∀ s ∈ ss, (evalS s.f1 env).2 = 0) →
  ∃ o, o.length = out.length ∧ (∀ j (h : j < out.length) (g : j < o.length), oneVar env (j : Int) ss out[j] = some o[j]) ∧
   ((applyS vs env ss out = some o ∧ ∀ s ∈ ss, (rd_T58 vs s.f0).f1 ≤ (evalS s.f1 env).1 ∧ (evalS s.f1 env).1 ≤ (rd_T58 vs s.f0).f2) ∨ (applyS vs env ss out = none ∧ ∃ s ∈ ss, ((evalS s.f1 env).1 < (rd_T58 vs s.f0).f1 ∨ (rd_T58 vs s.f0).f2 < (evalS s.f1 env).1) ∧ o.getD s.f0.toNat 0 = (evalS s.f1 env).1))
 | [], out, _, _, _ => ⟨out, rfl, fun j h g => rfl, .inl ⟨rfl, fun s hs => (nomatch hs)⟩⟩
 | s :: ss, out, hok, hl, he => by
  obtain ⟨y, hy⟩ : ∃ y, y = (evalS s.f1 env).1 := ⟨_, rfl⟩
  have hs := hok.ran s (by simp)
  have hd := hok.dis
  rw [List.pairwise_cons] at hd
  have hok' : SetsOk (out.set s.f0.toNat y).length ss := ⟨fun u hu => by rw [List.length_set]; exact hok.ran u (by simp [hu]), hd.2⟩
  obtain ⟨o, o1, o2, o3⟩ := apply_both vs env ss (out.set s.f0.toNat y) hok' (by rw [List.length_set]; exact hl) (fun u hu => he u (by simp [hu]))
  rw [List.length_set] at o1
  have hself : ∀ x, oneVar env s.f0 ss x = some x := fun x => oneVar_none env s.f0 ss x (fun u hu e => hd.1 u hu e.symm)
  refine ⟨o, o1, fun j h g => ?_, ?_⟩
  ·have h2 := o2 j (by rw [List.length_set]; exact h) g
   rw [List.getElem_set] at h2
   rw [oneVar]
   by_cases e : s.f0 = (j : Int)
   ·rw [if_pos e, if_pos (he s (by simp)), ← hy]
    rw [if_pos (by omega)] at h2
    exact h2
   ·rw [if_neg e]
    rw [if_neg (by omega)] at h2
    exact h2
  ·have hoy : o.getD s.f0.toNat 0 = y := by
    have hlt : s.f0.toNat < out.length := by omega
    have h2 := o2 s.f0.toNat (by rw [List.length_set]; exact hlt) (by omega)
    rw [List.getElem_set_self, show ((s.f0.toNat : Nat) : Int) = s.f0 by omega, hself] at h2
    rw [List.getD_eq_getElem?_getD, List.getElem?_eq_getElem (by omega)]
    exact (Option.some.inj h2).symm
   rw [applyS]
   by_cases hb : (rd_T58 vs s.f0).f1 ≤ (evalS s.f1 env).1 ∧ (evalS s.f1 env).1 ≤ (rd_T58 vs s.f0).f2
   ·rw [if_pos ⟨he s (by simp), hb⟩, ← hy]
    rcases o3 with ⟨h1, h2⟩ | ⟨h1, u, hu, h2⟩
    ·refine .inl ⟨h1, fun u hu => ?_⟩
     rcases List.mem_cons.1 hu with rfl | hu
     ·exact hb
     ·exact h2 u hu
    ·exact .inr ⟨h1, u, by simp [hu], h2⟩
   ·rw [if_neg (fun h => hb h.2)]
    exact .inr ⟨rfl, s, by simp, by omega, hoy.trans hy⟩
theorem codeS_in {vs : List PVar} {rs : List PRule} {o : List Int} (h : modelS vs rs = 0) (hl : o.length = vs.length) (hb : inB vs o) : (codeS vs rs o).2 = 0 := by
 obtain ⟨n, hn⟩ := encR_in vs o hl hb
 unfold codeS
 rw [if_pos h, if_pos hl, hn]
 rfl
theorem codeS_out {vs : List PVar} {rs : List PRule} {o : List Int} (h : modelS vs rs = 0) (hl : o.length = vs.length) {i : Nat} (hi : i < vs.length) (g : i < o.length) (hb : o[i] < vs[i].f1 ∨ vs[i].f2 < o[i]) : (codeS vs rs o).2 ≠ 0 := by
 unfold codeS
 rw [if_pos h, if_pos hl, encR_out vs o i hi g hb]
 decide
theorem rule_both {vs : List PVar} {rs : List PRule} (h : modelS vs rs = 0) {r : PRule} {env : List Int} (hr : ruleS r.f0 r.f1 (vs.length : Int) = 0) (hl : env.length = vs.length) (hin : inB vs env) :
  ruleV vs rs r env = (match afterV vs r env with | none => (0, 11) | some out => codeS vs rs out) := by
 obtain ⟨hg, hok⟩ := ruleS_ok hr
 rw [← hl] at hg hok
 unfold ruleV afterV
 by_cases he : (evalS r.f0 env).2 = 0
 ·have h01 := guard01 hg he
  by_cases h1 : (evalS r.f0 env).1 = 1
  ·rw [if_pos ⟨he, h1⟩, if_pos ⟨he, by omega⟩]
   by_cases hall : ∀ s ∈ r.f1, (evalS s.f1 env).2 = 0
   ·obtain ⟨o, o1, o2, o3⟩ := apply_both vs env r.f1 env hok hl hall
    have hav : allVars env r.f1 env 0 = some o := allVars_get env r.f1 env 0 o o1 (fun j h g => by rw [Nat.zero_add]; exact o2 j h g)
    rw [hav]
    rcases o3 with ⟨h2, h3⟩ | ⟨h2, s, hs, h3, h4⟩
    ·rw [h2]
     have hb : inB vs o := by
      intro j hj g
      have hje : j < env.length := by omega
      have h5 := o2 j hje g
      by_cases hex : ∃ s ∈ r.f1, s.f0 = (j : Int)
      ·obtain ⟨s, hs, hsj⟩ := hex
       have h6 := h3 s hs
       have e1 : oneVar env (j : Int) r.f1 env[j] = some (evalS s.f1 env).1 := oneVar_hit env r.f1 s j env[j] hok.dis hs hsj hall
       rw [e1] at h5
       rw [hsj, rdV_get vs j hj] at h6
       rw [← Option.some.inj h5]
       exact h6
      ·rw [oneVar_none env j r.f1 env[j] (fun s hs e => hex ⟨s, hs, e⟩)] at h5
       rw [← Option.some.inj h5]
       exact hin j hj hje
     have hc := codeS_in h (o1.trans hl) hb
     simp only [hc, ↓reduceIte]
     exact Prod.ext rfl hc.symm
    ·rw [h2]
     have hsr := hok.ran s hs
     obtain ⟨j, hj⟩ : ∃ j : Nat, s.f0 = (j : Int) := ⟨s.f0.toNat, by omega⟩
     have hjv : j < vs.length := by omega
     rw [hj, rdV_get vs j hjv] at h3
     rw [hj, Int.toNat_natCast, List.getD_eq_getElem?_getD, List.getElem?_eq_getElem (by omega)] at h4
     have hc := codeS_out h (o1.trans hl) hjv (by omega) (by rw [show o[j] = (evalS s.f1 env).1 from h4]; exact h3)
     simp only [hc, ↓reduceIte]
   ·obtain ⟨s, hs, hse⟩ : ∃ s ∈ r.f1, (evalS s.f1 env).2 ≠ 0 := by
     refine Classical.byContradiction fun hn => hall fun s hs => Classical.byContradiction fun hc => hn ⟨s, hs, hc⟩
    have hsr := hok.ran s hs
    have hav : allVars env r.f1 env 0 = none := allVars_bad env r.f1 env 0 s.f0.toNat (by omega) (fun x => by
     rw [Nat.zero_add, show ((s.f0.toNat : Nat) : Int) = s.f0 by omega]
     exact oneVar_bad env r.f1 s x hs hse (fun _ _ h => h))
    rw [hav, applyS_bad vs env r.f1 env s hs hse]
  ·rw [if_neg (fun hc => h1 hc.2), if_neg (fun hc => hc.2 (by omega))]
 ·rw [if_neg (fun hc => he hc.1), if_neg (fun hc => he hc.1)]
where
 oneVar_hit (env : List Int) : ∀ (ss : List PSet) (s : PSet) (j : Nat) (x : Int), (ss.Pairwise fun a b => a.f0 ≠ b.f0) → s ∈ ss → s.f0 = (j : Int) → (∀ s ∈ ss, (evalS s.f1 env).2 = 0) → oneVar env (j : Int) ss x = some (evalS s.f1 env).1
  | [], s, j, x, _, h, _, _ => (nomatch h)
  | u :: ss, s, j, x, hd, h, hs, he => by
   rw [List.pairwise_cons] at hd
   rw [oneVar]
   rcases List.mem_cons.1 h with rfl | hm
   ·rw [if_pos hs, if_pos (he s (by simp))]
    exact oneVar_none env j ss _ (fun v hv e => hd.1 v hv (hs.trans e.symm))
   ·rw [if_neg (fun e => hd.1 s hm (e.trans hs.symm))]
    exact oneVar_hit env ss s j x hd.2 hm hs (fun v hv => he v (by simp [hv]))
 applyS_bad (vs : List PVar) (env : List Int) : ∀ (ss : List PSet) (out : List Int) (s : PSet), s ∈ ss → (evalS s.f1 env).2 ≠ 0 → applyS vs env ss out = none
  | [], out, s, h, _ => (nomatch h)
  | u :: ss, out, s, h, he => by
   rw [applyS]
   rcases List.mem_cons.1 h with rfl | hm
   ·rw [if_neg (fun hc => he hc.1)]
   ·split
    ·exact applyS_bad vs env ss _ s hm he
    ·rfl
theorem ruleAt_eq (vs : List PVar) (rs : List PRule) (c k : Int) : ruleAt vs rs c k = afterS vs rs c k := by
 unfold ruleAt afterS
 by_cases h : (valuesS vs rs c).2 = 0
 ·rw [if_pos h, if_pos h]
  by_cases hk : 0 ≤ k ∧ k < (rs.length : Int)
  ·rw [if_pos hk, if_pos hk]
   unfold valuesS at h ⊢
   by_cases hm : modelS vs rs = 0
   ·rw [if_pos hm] at h ⊢
    by_cases hc : c < 0 ∨ prodV vs ≤ c
    ·rw [if_pos hc] at h; cases h
    ·rw [if_neg hc]
     obtain ⟨ho, hp⟩ := vars_ok (modelS_vars hm)
     obtain ⟨j, rfl⟩ := Int.eq_ofNat_of_zero_le hk.1
     have hj : j < rs.length := by omega
     have hr := rulesS_at (vs.length : Int) rs j hj (modelS_rules hm).1
     rw [rdR_get rs j hj]
     exact rule_both hm hr (valS_len vs c) (valS_in vs c ho (by omega) (by omega))
   ·rw [if_neg hm] at h; exact absurd h hm
  ·rw [if_neg hk, if_neg hk]
 ·rw [if_neg h, if_neg h]
end Go.Proofs.YtbekikafhpdehaaDoor.Pure
