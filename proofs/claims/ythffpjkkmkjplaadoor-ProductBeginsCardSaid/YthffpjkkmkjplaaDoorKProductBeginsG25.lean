import Derived.Test.YthffpjkkmkjplaaDoorKProductBeginsG15
import Derived.Test.YthffpjkkmkjplaaDoorKProductBeginsG21
import Derived.Test.YthffpjkkmkjplaaDoorKProductBeginsG17
import Derived.Test.YthffpjkkmkjplaaDoorKProductBeginsG19
import Derived.Test.YthffpjkkmkjplaaDoorKProductBeginsG24
import Derived.Test.YthffpjkkmkjplaaDoorKProductBeginsG22
import Derived.Test.YthffpjkkmkjplaaDoorKProductBeginsG18
import Derived.Test.YthffpjkkmkjplaaDoorKProductBeginsG23
import Derived.Test.YthffpjkkmkjplaaDoorKProductBeginsG7
import Derived.Test.YthffpjkkmkjplaaDoorKProductBeginsG20
namespace Go.Proofs.YthffpjkkmkjplaaDoor.Pure
open Go.RowKit Go.Proofs.YthffpjkkmkjplaaDoor Go.Proofs.YthffpjkkmkjplaaDoor.S Go.Proofs.YthffpjkkmkjplaaDoor.Base Go.Proofs.YthffpjkkmkjplaaDoorW.PrintWords Go.Proofs.YthffpjkkmkjplaaDoorW.PrintLast Go.Proofs.YthffpjkkmkjplaaDoorW.PrintMore
set_option linter.unusedVariables false
set_option linter.unusedSimpArgs false
abbrev PVar := S86
abbrev PSet := S95
abbrev PRule := S93
theorem rdV_get (l : List PVar) (i : Nat) (h : i < l.length) : rd_T86 l (i : Int) = l[i] := by unfold rd_T86; simp [h]
theorem rdS_get (l : List PSet) (i : Nat) (h : i < l.length) : rd_T95 l (i : Int) = l[i] := by unfold rd_T95; simp [h]
theorem rdR_get (l : List PRule) (i : Nat) (h : i < l.length) : rd_T93 l (i : Int) = l[i] := by unfold rd_T93; simp [h]
theorem x_bind {α β : Type} (a : α) (f : α → Option β) : (some a).bind f = f a := rfl
theorem bt_at (s : ByteArray) (i : Nat) (h : i < s.size) : bt s (i : Int) = ((s.data.toList.getD i 0).toNat : Int) := by
  have h' : i < s.data.size := h
  unfold bt
  rw [dif_pos (by simpa using h)]
  rw [List.getD_eq_getElem?_getD, List.getElem?_eq_getElem (by simpa using h')]
  rfl
theorem nameMay_loop (s : ByteArray) (hs : s.size ≤ 8) (d : Nat) : ∀ i : Nat, i + d = s.size → Ev (fun k => foretellref_NameMay.l0 k s i) ((List.range' i d).all (nameAt s.data.toList)) := by
  induction d with
  | zero =>
    intro i hi
    have c1 : ¬ (i : Int) < (s.size : Int) := by omega
    refine ev_succ ?_
    simp only [foretellref_NameMay.l0, ↓reduceIte, c1]
    exact Ev.now _
  | succ d ih =>
    intro i hi
    have c1 : (i : Int) < (s.size : Int) := by omega
    have c2 : (0 : Int) ≤ (i : Int) := by omega
    have w1 : wrap64 ((i : Int) + 1) = ((i + 1 : Nat) : Int) := by rw [wrap_id (by omega) (by omega)]; rfl
    obtain ⟨c, hc⟩ : ∃ c : Nat, (s.data.toList.getD i 0).toNat = c := ⟨_, rfl⟩
    have hlt : c < 256 := by rw [← hc]; exact UInt8.toNat_lt _
    have hb : bt s (i : Int) = (c : Int) := by rw [bt_at s i (by omega), hc]
    have hw : wrap64 (c : Int) = (c : Int) := wrap_id (by omega) (by omega)
    have hn : nameAt s.data.toList i = if (c < 97 ∨ 122 < c) ∧ (c < 48 ∨ 57 < c ∨ i = 0) then false else true := by unfold nameAt; rw [hc]
    have hi1 := ih (i + 1) (by omega)
    refine ev_succ ?_
    rw [List.range'_succ, List.all_cons, hn]
    by_cases a1 : 97 ≤ (c : Int) ∧ (c : Int) ≤ 122
    · have d1 : decide (97 ≤ (c : Int) ∧ (c : Int) ≤ 122) = true := decide_eq_true a1
      have d2 : decide (48 ≤ (c : Int) ∧ (c : Int) ≤ 57) = false := decide_eq_false (by omega)
      rw [if_neg (by omega), Bool.true_and]
      simp only [foretellref_NameMay.l0, ↓reduceIte, c1, c2, inE_eq, x_bind, hb, hw, d1, d2, w1, Bool.false_eq_true, ite_self]
      exact hi1
    · have d1 : decide (97 ≤ (c : Int) ∧ (c : Int) ≤ 122) = false := decide_eq_false a1
      by_cases a2 : 48 ≤ (c : Int) ∧ (c : Int) ≤ 57
      · have d2 : decide (48 ≤ (c : Int) ∧ (c : Int) ≤ 57) = true := decide_eq_true a2
        by_cases a3 : i = 0
        · have c3 : ((i : Int) = 0) = True := eq_true (by omega)
          rw [if_pos (by omega), Bool.false_and]
          simp only [foretellref_NameMay.l0, ↓reduceIte, c1, c2, inE_eq, x_bind, hb, hw, d1, d2, w1, Bool.false_eq_true, c3]
          exact Ev.now _
        · have c3 : ¬ (i : Int) = 0 := by omega
          rw [if_neg (by omega), Bool.true_and]
          simp only [foretellref_NameMay.l0, ↓reduceIte, c1, c2, inE_eq, x_bind, hb, hw, d1, d2, w1, Bool.false_eq_true, c3]
          exact hi1
      · have d2 : decide (48 ≤ (c : Int) ∧ (c : Int) ≤ 57) = false := decide_eq_false a2
        rw [if_pos (by omega), Bool.false_and]
        simp only [foretellref_NameMay.l0, ↓reduceIte, c1, c2, inE_eq, x_bind, hb, hw, d1, d2, w1, Bool.false_eq_true]
        exact Ev.now _
theorem nameMay_ev (s : ByteArray) : Ev (fun k => foretellref_NameMay.f k s) (nameB s) := by
  unfold foretellref_NameMay.f nameB
  have jf : Ev (fun k => foretellref_NameMay.j0 k s true) false := by
    refine ev_succ ?_
    simp only [foretellref_NameMay.j0, ↓reduceIte]
    exact Ev.now _
  simp only [inE_eq, x_bind]
  by_cases h1 : s.size = 0
  · have d1 : decide ((1 : Int) ≤ (s.size : Int) ∧ (s.size : Int) ≤ 8) = false := decide_eq_false (by omega)
    simp only [d1, Bool.false_eq_true, ↓reduceIte]
    rw [if_pos (.inl h1)]
    exact jf
  by_cases h2 : 8 < s.size
  · have d1 : decide ((1 : Int) ≤ (s.size : Int) ∧ (s.size : Int) ≤ 8) = false := decide_eq_false (by omega)
    simp only [d1, Bool.false_eq_true, ↓reduceIte]
    rw [if_pos (.inr (.inl h2))]
    exact jf
  have d1 : decide ((1 : Int) ≤ (s.size : Int) ∧ (s.size : Int) ≤ 8) = true := decide_eq_true (by omega)
  simp only [d1, ↓reduceIte]
  by_cases h3 : s.toList = [121, 101, 115]
  · simp only [if_pos h3]
    rw [if_pos (.inr (.inr (.inl h3)))]
    exact jf
  simp only [if_neg h3]
  by_cases h4 : s.toList = [110, 111]
  · have d4 : (s.toList == ([110, 111] : List UInt8)) = true := beq_iff_eq.mpr h4
    simp only [d4]
    rw [if_pos (.inr (.inr (.inr h4)))]
    exact jf
  have d4 : (s.toList == ([110, 111] : List UInt8)) = false := beq_eq_false_iff_ne.mpr h4
  simp only [d4]
  rw [if_neg (by rintro (h | h | h | h); exact h1 h; exact h2 h; exact h3 h; exact h4 h)]
  refine ev_succ ?_
  simp only [foretellref_NameMay.j0, Bool.false_eq_true, ↓reduceIte]
  rw [List.range_eq_range']
  exact nameMay_loop s (by omega) s.size 0 (by omega)
def varsS (l : List PVar) : Int := if 6 < l.length then 1 else varsL l [] 1
theorem variables_eq (l : List PVar) : model_variables.f l = some (varsS l) := rfl
def badR (v : PVar) : Prop := v.f1 < -1000 ∨ v.f2 > 1000 ∨ v.f1 > v.f2 ∨ v.f3 < v.f1 ∨ v.f3 > v.f2
theorem vars_tail (l : List PVar) (hl : l.length ≤ 6) (v : PVar) (i : Nat) (hi : i < l.length) (st : Int) (hst : 0 ≤ st ∧ st ≤ 4096) (R : Int) (hR : ¬ badR v → ¬ v.f2 - v.f1 ≥ 64 → ¬ st * (v.f2 - v.f1 + 1) > 4096 → Ev (fun k => foretellref_variablesFault.l0 k l (st * (v.f2 - v.f1 + 1)) ((i + 1 : Nat) : Int)) R) :
    Ev (fun k => foretellref_variablesFault.l1 k l st i i v.f0 v.f1 v.f2 v.f3) (if v.f1 < -1000 ∨ v.f2 > 1000 ∨ v.f1 > v.f2 ∨ v.f3 < v.f1 ∨ v.f3 > v.f2 then 2 else if v.f2 - v.f1 ≥ 64 then 1 else if st * (v.f2 - v.f1 + 1) > 4096 then 1 else R) := by
  obtain ⟨vn, a, b, c⟩ := v
  dsimp only [badR] at hR ⊢
  have c1 : ¬ (i : Int) < (i : Int) := by omega
  have j2t : Ev (fun k => foretellref_variablesFault.j2 k l st i true vn a b c) 2 := by
    refine ev_succ ?_
    simp only [foretellref_variablesFault.j2, ↓reduceIte]
    exact Ev.now _
  refine ev_succ ?_
  by_cases h1 : -1000 ≤ a ∧ a ≤ 1000
  case neg =>
    have d1 : decide (-1000 ≤ a ∧ a ≤ 1000) = false := decide_eq_false h1
    rw [if_pos (by omega)]
    simp only [foretellref_variablesFault.l1, ↓reduceIte, c1, inE_eq, x_bind, d1, Bool.false_eq_true]
    exact j2t
  have d1 : decide (-1000 ≤ a ∧ a ≤ 1000) = true := decide_eq_true h1
  by_cases h2 : a ≤ b ∧ b ≤ 1000
  case neg =>
    have d2 : decide (a ≤ b ∧ b ≤ 1000) = false := decide_eq_false h2
    rw [if_pos (by omega)]
    simp only [foretellref_variablesFault.l1, ↓reduceIte, c1, inE_eq, x_bind, d1, d2, Bool.false_eq_true]
    exact j2t
  have d2 : decide (a ≤ b ∧ b ≤ 1000) = true := decide_eq_true h2
  by_cases h3 : a ≤ c ∧ c ≤ b
  case neg =>
    have d3 : decide (a ≤ c ∧ c ≤ b) = false := decide_eq_false h3
    rw [if_pos (by omega)]
    simp only [foretellref_variablesFault.l1, ↓reduceIte, c1, inE_eq, x_bind, d1, d2, d3, Bool.not_false]
    exact j2t
  have d3 : decide (a ≤ c ∧ c ≤ b) = true := decide_eq_true h3
  have hb : ¬ (a < -1000 ∨ b > 1000 ∨ a > b ∨ c < a ∨ c > b) := by omega
  rw [if_neg hb]
  simp only [foretellref_variablesFault.l1, ↓reduceIte, c1, inE_eq, x_bind, d1, d2, d3, Bool.not_true]
  refine ev_succ ?_
  have w1 : wrap64 (b - a) = b - a := wrap_id (by omega) (by omega)
  have w2 : wrap64 (b - a + 1) = b - a + 1 := wrap_id (by omega) (by omega)
  by_cases h4 : b - a ≥ 64
  · have c4 : b - a > 63 := by omega
    rw [if_pos h4]
    simp only [foretellref_variablesFault.j2, Bool.false_eq_true, ↓reduceIte, w1, c4]
    exact Ev.now _
  have c4 : ¬ b - a > 63 := by omega
  rw [if_neg h4]
  have hp0 : 0 ≤ st * (b - a + 1) := Int.mul_nonneg hst.1 (by omega)
  have hp1 : st * (b - a + 1) ≤ 4096 * 64 := Int.mul_le_mul hst.2 (by omega) (by omega) (by omega)
  have w3 : wrap64 (st * (b - a + 1)) = st * (b - a + 1) := wrap_id (by omega) (by omega)
  by_cases h5 : st * (b - a + 1) > 4096
  · rw [if_pos h5]
    simp only [foretellref_variablesFault.j2, Bool.false_eq_true, ↓reduceIte, w1, w2, w3, c4, h5]
    exact Ev.now _
  rw [if_neg h5]
  have w4 : wrap64 ((i : Int) + 1) = ((i + 1 : Nat) : Int) := by rw [wrap_id (by omega) (by omega)]; rfl
  simp only [foretellref_variablesFault.j2, Bool.false_eq_true, ↓reduceIte, w1, w2, w3, w4, c4, h5]
  exact hR hb h4 h5
theorem vars_l1 (l : List PVar) (hl : l.length ≤ 6) (v : PVar) (i : Nat) (hi : i < l.length) (st : Int) (R : Int) (hR : Ev (fun k => foretellref_variablesFault.l1 k l st i i v.f0 v.f1 v.f2 v.f3) R) (d : Nat) : ∀ j : Nat, j + d = i →
    Ev (fun k => foretellref_variablesFault.l1 k l st i j v.f0 v.f1 v.f2 v.f3) (if (((l.take i).drop j).map (·.f0)).any (fun s => s.toList == v.f0.toList) = true then 7 else R) := by
  induction d with
  | zero =>
    intro j hj
    obtain rfl : j = i := by omega
    rw [List.drop_of_length_le (by rw [List.length_take]; omega)]
    exact hR
  | succ d ih =>
    intro j hj
    have hjl : j < l.length := by omega
    have c1 : (j : Int) < (i : Int) := by omega
    have c2 : (0 : Int) ≤ (j : Int) := by omega
    have c3 : (j : Int) < (l.length : Int) := by omega
    have w1 : wrap64 ((j : Int) + 1) = ((j + 1 : Nat) : Int) := by rw [wrap_id (by omega) (by omega)]; rfl
    have hd : (l.take i).drop j = l[j] :: (l.take i).drop (j + 1) := by
      have hlt : j < (l.take i).length := by rw [List.length_take]; omega
      rw [List.drop_eq_getElem_cons hlt, List.getElem_take]
    refine ev_succ ?_
    rw [hd, List.map_cons, List.any_cons]
    by_cases e : l[j].f0.toList = v.f0.toList
    · have b1 : (l[j].f0.toList == v.f0.toList) = true := beq_iff_eq.2 e
      rw [b1, Bool.true_or, if_pos rfl]
      simp only [foretellref_variablesFault.l1, ↓reduceIte, c1, c2, c3, rdV_get l j hjl, e]
      exact Ev.now _
    · have b1 : (l[j].f0.toList == v.f0.toList) = false := beq_eq_false_iff_ne.2 e
      rw [b1, Bool.false_or]
      simp only [foretellref_variablesFault.l1, ↓reduceIte, c1, c2, c3, rdV_get l j hjl, e, w1]
      exact ih (j + 1) (by omega)
theorem vars_l0 (l : List PVar) (hl : l.length ≤ 6) (d : Nat) : ∀ (i : Nat) (st : Int), i + d = l.length → 0 ≤ st ∧ st ≤ 4096 → Ev (fun k => foretellref_variablesFault.l0 k l st i) (varsL (l.drop i) ((l.take i).map (·.f0)) st) := by
  induction d with
  | zero =>
    intro i st hi hst
    rw [List.drop_of_length_le (by omega)]
    have c1 : ¬ (i : Int) < (l.length : Int) := by omega
    refine ev_succ ?_
    simp only [foretellref_variablesFault.l0, ↓reduceIte, c1]
    exact Ev.now _
  | succ d ih =>
    intro i st hi hst
    have hil : i < l.length := by omega
    have c1 : (i : Int) < (l.length : Int) := by omega
    have c2 : (0 : Int) ≤ (i : Int) := by omega
    refine ev_succ ?_
    simp only [foretellref_variablesFault.l0, ↓reduceIte, c1, c2, rdV_get l i hil]
    refine ev_bind (nameMay_ev l[i].f0) ?_
    rw [List.drop_eq_getElem_cons hil, varsL]
    cases hb : nameB l[i].f0 with
    | false =>
      simp only [Bool.false_eq_true, ↓reduceIte]
      exact Ev.now _
    | true =>
      simp only [Bool.true_eq_false, ↓reduceIte]
      have h0 := vars_l1 l hl l[i] i hil st _ (vars_tail l hl l[i] i hil st hst (varsL (l.drop (i + 1)) ((l.take (i + 1)).map (·.f0)) (st * (l[i].f2 - l[i].f1 + 1))) (fun _ h4 h5 => ih (i + 1) _ (by omega) ⟨?_, by omega⟩)) i 0 (by omega)
      · rw [List.drop_zero, List.take_succ_eq_append_getElem hil, List.map_append] at h0
        exact h0
      · rename_i hbr
        unfold badR at hbr
        exact Int.mul_nonneg hst.1 (by omega)
theorem varsFault_ev (l : List PVar) : Ev (fun k => foretellref_variablesFault.f k l) (varsS l) := by
  unfold foretellref_variablesFault.f varsS
  by_cases h : 6 < l.length
  · have c1 : (l.length : Int) > 6 := by omega
    simp only [c1, h, ↓reduceIte]
    exact Ev.now _
  · have c1 : ¬ (l.length : Int) > 6 := by omega
    simp only [c1, h, ↓reduceIte]
    exact vars_l0 l (by omega) l.length 0 1 (by omega) (by decide)
def kindS (l : List POp) (n : Int) (t : Bool) : Int := if (exprS l n).2 = 0 then (if ((exprS l n).1 != t) = true then 5 else 0) else (exprS l n).2
theorem kind_ev (l : List POp) (n : Int) (t : Bool) (w : -9223372036854775808 ≤ n ∧ n ≤ 9223372036854775807) : Ev (fun k => model_kind.f k l n t) (kindS l n t) := by
  unfold model_kind.f kindS
  refine ev_bind (exprCheck_ev l n w) ?_
  by_cases h : (exprS l n).2 = 0
  · simp only [h, ↓reduceIte]
    split <;> exact Ev.now _
  · simp only [h, ↓reduceIte]
    exact Ev.now _
theorem kindFault_ev (l : List POp) (n : Int) (t : Bool) (w : -9223372036854775808 ≤ n ∧ n ≤ 9223372036854775807) : Ev (fun k => foretellref_kindFault.f k l n t) (kindS l n t) := by
  unfold foretellref_kindFault.f kindS
  refine ev_bind (exprChecked_ev l n w) ?_
  by_cases h : (exprS l n).2 = 0
  · simp only [h, ↓reduceIte]
    split <;> exact Ev.now _
  · simp only [h, ↓reduceIte]
    exact Ev.now _
def setsS (n : Int) : List PSet → List Int → Int
  | [], _ => 0
  | s :: r, seen => if s.f0 < 0 ∨ s.f0 ≥ n then 2 else if seen.any (fun x => x == s.f0) = true then 7 else if kindS s.f1 n false = 0 then setsS n r (seen ++ [s.f0]) else kindS s.f1 n false
def ruleS (l0 : List POp) (l1 : List PSet) (n : Int) : Int := if 6 < l1.length then 1 else if kindS l0 n true = 0 then setsS n l1 [] else kindS l0 n true
theorem setsL_ev (n : Int) (w : -9223372036854775808 ≤ n ∧ n ≤ 9223372036854775807) : ∀ (l : List PSet) (seen : List Int), Ev (fun k => setsL k l seen n) (setsS n l seen)
  | [], _ => Ev.now _
  | s :: r, seen => by
    unfold setsL setsS
    by_cases h1 : s.f0 < 0 ∨ s.f0 ≥ n
    · simp only [h1, ↓reduceIte]; exact Ev.now _
    simp only [h1, ↓reduceIte]
    by_cases h2 : seen.any (fun x => x == s.f0) = true
    · simp only [h2, ↓reduceIte]; exact Ev.now _
    simp only [h2, ↓reduceIte]
    refine ev_bind (kind_ev s.f1 n false w) ?_
    by_cases h3 : kindS s.f1 n false = 0
    · simp only [h3, ↓reduceIte]; exact setsL_ev n w r _
    · simp only [h3, ↓reduceIte]; exact Ev.now _
theorem rule_ev (l0 : List POp) (l1 : List PSet) (n : Int) (w : 0 ≤ n ∧ n ≤ 1000000) : Ev (fun k => model_rule.f k l0 l1 n) (ruleS l0 l1 n) := by
  unfold model_rule.f ruleS
  simp only [w.2, ↓reduceIte]
  by_cases h : 6 < l1.length
  · simp only [h, ↓reduceIte]; exact Ev.now _
  simp only [h, ↓reduceIte]
  refine ev_bind (kind_ev l0 n true (by omega)) ?_
  by_cases h3 : kindS l0 n true = 0
  · simp only [h3, ↓reduceIte]; exact setsL_ev n (by omega) l1 []
  · simp only [h3, ↓reduceIte]; exact Ev.now _
theorem rule_l1 (n : Int) (w : 0 ≤ n ∧ n ≤ 1000000) (g : List POp) (l : List PSet) (hl : l.length ≤ 6) (v : PSet) (i : Nat) (hi : i < l.length) (R : Int) (hR : Ev (fun k => foretellref_ruleFault.l1 k n i i g l v.f0 v.f1) R) (d : Nat) : ∀ j : Nat, j + d = i →
    Ev (fun k => foretellref_ruleFault.l1 k n i j g l v.f0 v.f1) (if (((l.take i).drop j).map (·.f0)).any (fun x => x == v.f0) = true then 7 else R) := by
  induction d with
  | zero =>
    intro j hj
    obtain rfl : j = i := by omega
    rw [List.drop_of_length_le (by rw [List.length_take]; omega)]
    exact hR
  | succ d ih =>
    intro j hj
    have hjl : j < l.length := by omega
    have c1 : (j : Int) < (i : Int) := by omega
    have c2 : (0 : Int) ≤ (j : Int) := by omega
    have c3 : (j : Int) < (l.length : Int) := by omega
    have w1 : wrap64 ((j : Int) + 1) = ((j + 1 : Nat) : Int) := by rw [wrap_id (by omega) (by omega)]; rfl
    have hd : (l.take i).drop j = l[j] :: (l.take i).drop (j + 1) := by
      have hlt : j < (l.take i).length := by rw [List.length_take]; omega
      rw [List.drop_eq_getElem_cons hlt, List.getElem_take]
    refine ev_succ ?_
    rw [hd, List.map_cons, List.any_cons]
    by_cases e : l[j].f0 = v.f0
    · have b1 : (l[j].f0 == v.f0) = true := beq_iff_eq.2 e
      rw [b1, Bool.true_or, if_pos rfl]
      simp only [foretellref_ruleFault.l1, ↓reduceIte, c1, c2, c3, rdS_get l j hjl, e]
      exact Ev.now _
    · have b1 : (l[j].f0 == v.f0) = false := beq_eq_false_iff_ne.2 e
      rw [b1, Bool.false_or]
      simp only [foretellref_ruleFault.l1, ↓reduceIte, c1, c2, c3, rdS_get l j hjl, e, w1]
      exact ih (j + 1) (by omega)
theorem rule_end (n : Int) (e : Int) (he : ¬ e = 0) (i : Nat) (g : List POp) (l : List PSet) : Ev (fun k => foretellref_ruleFault.l0 k n e i g l) e := by
  have hj : Ev (fun k => foretellref_ruleFault.j1 k n e i false g l) e := by
    refine ev_succ ?_
    simp only [foretellref_ruleFault.j1, Bool.false_eq_true, ↓reduceIte]
    exact Ev.now _
  have b1 : (e == 0) = false := beq_eq_false_iff_ne.2 he
  refine ev_succ ?_
  simp only [foretellref_ruleFault.l0, b1, ite_self]
  exact hj
theorem rule_l0 (n : Int) (w : 0 ≤ n ∧ n ≤ 1000000) (g : List POp) (l : List PSet) (hl : l.length ≤ 6) (d : Nat) : ∀ i : Nat, i + d = l.length → Ev (fun k => foretellref_ruleFault.l0 k n 0 i g l) (setsS n (l.drop i) ((l.take i).map (·.f0))) := by
  induction d with
  | zero =>
    intro i hi
    rw [List.drop_of_length_le (by omega)]
    have c1 : ¬ (i : Int) < (l.length : Int) := by omega
    refine ev_succ ?_
    simp only [foretellref_ruleFault.l0, ↓reduceIte, c1]
    refine ev_succ ?_
    simp only [foretellref_ruleFault.j1, Bool.false_eq_true, ↓reduceIte]
    exact Ev.now _
  | succ d ih =>
    intro i hi
    have hil : i < l.length := by omega
    have c1 : (i : Int) < (l.length : Int) := by omega
    have c2 : (0 : Int) ≤ (i : Int) := by omega
    have w1 : wrap64 ((i : Int) + 1) = ((i + 1 : Nat) : Int) := by rw [wrap_id (by omega) (by omega)]; rfl
    have w2 : wrap64 (n - 1) = n - 1 := wrap_id (by omega) (by omega)
    refine ev_succ ?_
    simp only [foretellref_ruleFault.l0, ↓reduceIte, c1, beq_self_eq_true]
    refine ev_succ ?_
    rw [List.drop_eq_getElem_cons hil, setsS]
    by_cases h1 : 0 ≤ l[i].f0 ∧ l[i].f0 ≤ n - 1
    case neg =>
      have d1 : decide (0 ≤ l[i].f0 ∧ l[i].f0 ≤ n - 1) = false := decide_eq_false h1
      rw [if_pos (by omega)]
      simp only [foretellref_ruleFault.j1, ↓reduceIte, c1, c2, rdS_get l i hil, inE_eq, w2, d1, x_bind, Bool.false_eq_true]
      exact Ev.now _
    have d1 : decide (0 ≤ l[i].f0 ∧ l[i].f0 ≤ n - 1) = true := decide_eq_true h1
    rw [if_neg (by omega)]
    simp only [foretellref_ruleFault.j1, ↓reduceIte, c1, c2, rdS_get l i hil, inE_eq, w2, d1, x_bind]
    have ht : Ev (fun k => foretellref_ruleFault.l1 k n i i g l l[i].f0 l[i].f1) (if kindS l[i].f1 n false = 0 then setsS n (l.drop (i + 1)) ((l.take (i + 1)).map (·.f0)) else kindS l[i].f1 n false) := by
      have c3 : ¬ (i : Int) < (i : Int) := by omega
      refine ev_succ ?_
      simp only [foretellref_ruleFault.l1, ↓reduceIte, c3, w1]
      refine ev_bind (kindFault_ev l[i].f1 n false (by omega)) ?_
      by_cases h3 : kindS l[i].f1 n false = 0
      · simp only [h3, ↓reduceIte]
        exact ih (i + 1) (by omega)
      · simp only [h3, ↓reduceIte]
        exact rule_end n _ h3 _ g l
    have h0 := rule_l1 n w g l hl l[i] i hil _ ht i 0 (by omega)
    rw [List.drop_zero, List.take_succ_eq_append_getElem hil, List.map_append] at h0
    exact h0
theorem ruleFault_ev (l0 : List POp) (l1 : List PSet) (n : Int) (w : 0 ≤ n ∧ n ≤ 1000000) : Ev (fun k => foretellref_ruleFault.f k l0 l1 n) (ruleS l0 l1 n) := by
  unfold foretellref_ruleFault.f ruleS
  by_cases h : 6 < l1.length
  · have c1 : (l1.length : Int) > 6 := by omega
    simp only [c1, h, ↓reduceIte]
    exact Ev.now _
  have c1 : ¬ (l1.length : Int) > 6 := by omega
  simp only [c1, h, ↓reduceIte]
  refine ev_bind (kindFault_ev l0 n true (by omega)) ?_
  by_cases h3 : kindS l0 n true = 0
  · simp only [h3, ↓reduceIte]
    exact rule_l0 n w l0 l1 (by omega) l1.length 0 (by omega)
  · simp only [h3, ↓reduceIte]
    exact rule_end n _ h3 0 l0 l1
def rulesS (n : Int) : List PRule → Int
  | [] => 0
  | r :: rs => if ruleS r.f0 r.f1 n = 0 then rulesS n rs else ruleS r.f0 r.f1 n
def modelS (vs : List PVar) (rs : List PRule) : Int := if varsS vs = 0 then (if 12 < rs.length then 1 else rulesS (vs.length : Int) rs) else varsS vs
theorem varsS_len {vs : List PVar} (h : varsS vs = 0) : vs.length ≤ 6 := by
  unfold varsS at h
  split at h
  · omega
  · omega
theorem check_l0 (vs : List PVar) (hv : vs.length ≤ 6) (rs : List PRule) (hr : rs.length ≤ 12) (d : Nat) : ∀ i : Nat, i + d = rs.length → Ev (fun k => model_Check.l0 k rs (rs.length : Int) i vs rs) (rulesS (vs.length : Int) (rs.drop i)) := by
  induction d with
  | zero =>
    intro i hi
    rw [List.drop_of_length_le (by omega)]
    have c1 : ¬ (i : Int) < (rs.length : Int) := by omega
    refine ev_succ ?_
    simp only [model_Check.l0, ↓reduceIte, c1]
    exact Ev.now _
  | succ d ih =>
    intro i hi
    have hil : i < rs.length := by omega
    have c1 : (i : Int) < (rs.length : Int) := by omega
    have c2 : (0 : Int) ≤ (i : Int) := by omega
    have w1 : wrap64 ((i : Int) + 1) = ((i + 1 : Nat) : Int) := by rw [wrap_id (by omega) (by omega)]; rfl
    refine ev_succ ?_
    simp only [model_Check.l0, ↓reduceIte, c1, c2, rdR_get rs i hil, w1]
    rw [List.drop_eq_getElem_cons hil, rulesS]
    refine ev_bind (rule_ev rs[i].f0 rs[i].f1 (vs.length : Int) (by omega)) ?_
    by_cases h3 : ruleS rs[i].f0 rs[i].f1 (vs.length : Int) = 0
    · simp only [h3, ↓reduceIte]
      exact ih (i + 1) (by omega)
    · simp only [h3, ↓reduceIte]
      exact Ev.now _
theorem modelCheck_ev (vs : List PVar) (rs : List PRule) : Ev (fun k => model_Check.f k vs rs) (modelS vs rs) := by
  unfold model_Check.f modelS
  refine ev_call (variables_eq vs) ?_
  by_cases h : varsS vs = 0
  · simp only [h, ↓reduceIte]
    by_cases h2 : 12 < rs.length
    · have c1 : (rs.length : Int) > 12 := by omega
      simp only [h2, c1, ↓reduceIte]
      exact Ev.now _
    · have c1 : ¬ (rs.length : Int) > 12 := by omega
      simp only [h2, c1, ↓reduceIte]
      exact check_l0 vs (varsS_len h) rs (by omega) rs.length 0 (by omega)
  · simp only [h, ↓reduceIte]
    exact Ev.now _
theorem fault_end (e : Int) (he : ¬ e = 0) (i : Nat) (vs : List PVar) (rs : List PRule) : Ev (fun k => foretellref_ModelFault.l0 k e i vs rs) e := by
  refine ev_succ ?_
  simp only [foretellref_ModelFault.l0, he, ↓reduceIte, ite_self]
  exact Ev.now _
theorem model_l0 (vs : List PVar) (hv : vs.length ≤ 6) (rs : List PRule) (hr : rs.length ≤ 12) (d : Nat) : ∀ i : Nat, i + d = rs.length → Ev (fun k => foretellref_ModelFault.l0 k 0 i vs rs) (rulesS (vs.length : Int) (rs.drop i)) := by
  induction d with
  | zero =>
    intro i hi
    rw [List.drop_of_length_le (by omega)]
    have c1 : ¬ (i : Int) < (rs.length : Int) := by omega
    refine ev_succ ?_
    simp only [foretellref_ModelFault.l0, ↓reduceIte, c1]
    exact Ev.now _
  | succ d ih =>
    intro i hi
    have hil : i < rs.length := by omega
    have c1 : (i : Int) < (rs.length : Int) := by omega
    have c2 : (0 : Int) ≤ (i : Int) := by omega
    have w1 : wrap64 ((i : Int) + 1) = ((i + 1 : Nat) : Int) := by rw [wrap_id (by omega) (by omega)]; rfl
    refine ev_succ ?_
    simp only [foretellref_ModelFault.l0, ↓reduceIte, c1, c2, rdR_get rs i hil, w1]
    rw [List.drop_eq_getElem_cons hil, rulesS]
    refine ev_bind (ruleFault_ev rs[i].f0 rs[i].f1 (vs.length : Int) (by omega)) ?_
    by_cases h3 : ruleS rs[i].f0 rs[i].f1 (vs.length : Int) = 0
    · simp only [h3, ↓reduceIte]
      exact ih (i + 1) (by omega)
    · simp only [h3, ↓reduceIte]
      exact fault_end _ h3 _ vs rs
theorem modelFault_ev (vs : List PVar) (rs : List PRule) : Ev (fun k => foretellref_ModelFault.f k vs rs) (modelS vs rs) := by
  unfold foretellref_ModelFault.f modelS
  refine ev_bind (varsFault_ev vs) ?_
  by_cases h : varsS vs = 0
  · simp only [h, ↓reduceIte]
    by_cases h2 : 12 < rs.length
    · have c1 : (rs.length : Int) > 12 := by omega
      simp only [h2, c1, ↓reduceIte]
      exact Ev.now _
    · have c1 : ¬ (rs.length : Int) > 12 := by omega
      simp only [h2, c1, ↓reduceIte]
      exact model_l0 vs (varsS_len h) rs (by omega) rs.length 0 (by omega)
  · simp only [h, ↓reduceIte]
    exact Ev.now _
theorem modelS_vars {vs : List PVar} {rs : List PRule} (h : modelS vs rs = 0) : varsS vs = 0 := by
  unfold modelS at h
  split at h
  · assumption
  · assumption
theorem modelS_len {vs : List PVar} {rs : List PRule} (h : modelS vs rs = 0) : vs.length ≤ 6 := varsS_len (modelS_vars h)
theorem models_l1 (vs : List PVar) (rs : List PRule) (i : Nat) (hi : i < rs.length) (hr : rs.length * 48 ≤ 140737488351232) (hs : rs[i].f1.length * 32 ≤ 140737488351232) (ho : ∀ s ∈ rs[i].f1, s.f1.length * 16 ≤ 140737488351232) (acc : List PRule) (ha : acc.length = i) (t : List POp) (R : List PVar × List PRule)
    (hR : Ev (fun k => foretelllaw_models.l0 k ((i + 1 : Nat) : Int) vs rs vs (acc ++ [⟨t, rs[i].f1⟩])) R) (d : Nat) : ∀ (j : Nat) (sa : List PSet), j + d = rs[i].f1.length → sa = rs[i].f1.take j → Ev (fun k => foretelllaw_models.l1 k i j vs rs vs acc t sa) R := by
  induction d with
  | zero =>
    intro j sa hj hsa
    rw [List.take_of_length_le (by omega)] at hsa
    subst hsa
    have c1 : (0 : Int) ≤ (i : Int) := by omega
    have c2 : (i : Int) < (rs.length : Int) := by omega
    have c3 : ¬ (j : Int) < (rs[i].f1.length : Int) := by omega
    have c4 : acc.length < 2932031007402 := by omega
    have w1 : wrap64 ((i : Int) + 1) = ((i + 1 : Nat) : Int) := by rw [wrap_id (by omega) (by omega)]; rfl
    refine ev_succ ?_
    simp only [foretelllaw_models.l1, ↓reduceIte, c1, c2, rdR_get rs i hi, c3, c4, w1]
    exact hR
  | succ d ih =>
    intro j sa hj hsa
    have hjl : j < rs[i].f1.length := by omega
    have c1 : (0 : Int) ≤ (i : Int) := by omega
    have c2 : (i : Int) < (rs.length : Int) := by omega
    have c3 : (j : Int) < (rs[i].f1.length : Int) := by omega
    have c4 : (0 : Int) ≤ (j : Int) := by omega
    have c5 : sa.length < 4398046511104 := by rw [hsa, List.length_take]; omega
    have w1 : wrap64 ((j : Int) + 1) = ((j + 1 : Nat) : Int) := by rw [wrap_id (by omega) (by omega)]; rfl
    have ho' := ops_eq rs[i].f1[j].f1 (ho _ (List.getElem_mem hjl))
    refine ev_succ ?_
    simp only [foretelllaw_models.l1, ↓reduceIte, c1, c2, rdR_get rs i hi, c3, c4, c5, w1, rdS_get rs[i].f1 j hjl, ho', x_bind]
    exact ih (j + 1) _ (by omega) (by rw [List.take_succ_eq_append_getElem hjl, hsa])
theorem models_l0 (vs : List PVar) (rs : List PRule) (hr : rs.length * 48 ≤ 140737488351232) (hs : ∀ r ∈ rs, r.f0.length * 16 ≤ 140737488351232 ∧ r.f1.length * 32 ≤ 140737488351232 ∧ ∀ s ∈ r.f1, s.f1.length * 16 ≤ 140737488351232) (d : Nat) : ∀ (i : Nat) (acc : List PRule), i + d = rs.length → acc = rs.take i → Ev (fun k => foretelllaw_models.l0 k i vs rs vs acc) (vs, rs) := by
  induction d with
  | zero =>
    intro i acc hi ha
    rw [List.take_of_length_le (by omega)] at ha
    subst ha
    have c1 : ¬ (i : Int) < (acc.length : Int) := by omega
    refine ev_succ ?_
    simp only [foretelllaw_models.l0, ↓reduceIte, c1]
    exact Ev.now _
  | succ d ih =>
    intro i acc hi ha
    have hil : i < rs.length := by omega
    have c1 : (i : Int) < (rs.length : Int) := by omega
    have c2 : (0 : Int) ≤ (i : Int) := by omega
    obtain ⟨h0, h1, h2⟩ := hs _ (List.getElem_mem hil)
    refine ev_succ ?_
    simp only [foretelllaw_models.l0, ↓reduceIte, c1, c2, rdR_get rs i hil, ops_eq rs[i].f0 h0, x_bind]
    refine models_l1 vs rs i hil hr h1 h2 acc (by rw [ha, List.length_take]; omega) rs[i].f0 _ ?_ rs[i].f1.length 0 [] (by omega) rfl
    exact ih (i + 1) _ (by omega) (by rw [List.take_succ_eq_append_getElem hil, ha])
theorem models_ev (x : S44) (h : G44 x) : Ev (fun k => foretelllaw_models.f k x.f0 x.f1) (x.f0, x.f1) := by
  obtain ⟨⟨h0, _⟩, h1, h2⟩ := h
  unfold foretelllaw_models.f
  have c1 : ([] : List PVar).length + x.f0.length < 3518437208883 := by simp; omega
  simp only [c1, ↓reduceIte, List.nil_append]
  exact models_l0 x.f0 x.f1 h1 (fun r hr => ⟨(h2 r hr).1.1, (h2 r hr).2.1, fun s hs => ((h2 r hr).2.2 s hs).2.1⟩) x.f1.length 0 [] (by omega) rfl
theorem rdL_get (l : List (List POp)) (i : Nat) (h : i < l.length) : rd_L4 l (i : Int) = l[i] := by unfold rd_L4; simp [h]
theorem terms_l0 (l : List (List POp)) (hl : l.length * 24 ≤ 140737488351232) (ho : ∀ x ∈ l, x.length * 16 ≤ 140737488351232) (d : Nat) : ∀ (i : Nat) (acc : List (List POp)), i + d = l.length → acc = l.take i → Ev (fun k => foretelllaw_terms.l0 k l acc i) l := by
  induction d with
  | zero =>
    intro i acc hi ha
    rw [List.take_of_length_le (by omega)] at ha
    subst ha
    have c1 : ¬ (i : Int) < (acc.length : Int) := by omega
    refine ev_succ ?_
    simp only [foretelllaw_terms.l0, ↓reduceIte, c1]
    exact Ev.now _
  | succ d ih =>
    intro i acc hi ha
    have hil : i < l.length := by omega
    have c1 : (i : Int) < (l.length : Int) := by omega
    have c2 : (0 : Int) ≤ (i : Int) := by omega
    have c5 : acc.length < 5864062014805 := by rw [ha, List.length_take]; omega
    have w1 : wrap64 ((i : Int) + 1) = ((i + 1 : Nat) : Int) := by rw [wrap_id (by omega) (by omega)]; rfl
    refine ev_succ ?_
    simp only [foretelllaw_terms.l0, ↓reduceIte, c1, c2, c5, w1, rdL_get l i hil, ops_eq l[i] (ho _ (List.getElem_mem hil)), Option.bind_some]
    exact ih (i + 1) _ (by omega) (by rw [List.take_succ_eq_append_getElem hil, ha])
theorem terms_ev (l : List (List POp)) (hl : l.length * 24 ≤ 140737488351232) (ho : ∀ x ∈ l, x.length * 16 ≤ 140737488351232) : Ev (fun k => foretelllaw_terms.f k l) l := terms_l0 l hl ho l.length 0 [] (by omega) rfl
def propsL (n : Int) : List (List POp) → Int
  | [] => 0
  | p :: ps => if kindS p n true = 0 then propsL n ps else kindS p n true
def propsS (vs : List PVar) (rs : List PRule) (l : List (List POp)) : Int := if modelS vs rs = 0 then (if 6 < l.length then 1 else propsL (vs.length : Int) l) else modelS vs rs
theorem props_l0 (vs : List PVar) (hv : vs.length ≤ 6) (rs : List PRule) (l : List (List POp)) (hl : l.length ≤ 6) (d : Nat) : ∀ i : Nat, i + d = l.length → Ev (fun k => model_Props.l0 k l (l.length : Int) i vs rs) (propsL (vs.length : Int) (l.drop i)) := by
  induction d with
  | zero =>
    intro i hi
    rw [List.drop_of_length_le (by omega)]
    have c1 : ¬ (i : Int) < (l.length : Int) := by omega
    refine ev_succ ?_
    simp only [model_Props.l0, ↓reduceIte, c1]
    exact Ev.now _
  | succ d ih =>
    intro i hi
    have hil : i < l.length := by omega
    have c1 : (i : Int) < (l.length : Int) := by omega
    have c2 : (0 : Int) ≤ (i : Int) := by omega
    have w1 : wrap64 ((i : Int) + 1) = ((i + 1 : Nat) : Int) := by rw [wrap_id (by omega) (by omega)]; rfl
    refine ev_succ ?_
    simp only [model_Props.l0, ↓reduceIte, c1, c2, rdL_get l i hil, w1]
    rw [List.drop_eq_getElem_cons hil, propsL]
    refine ev_bind (kind_ev l[i] (vs.length : Int) true (by omega)) ?_
    by_cases h3 : kindS l[i] (vs.length : Int) true = 0
    · simp only [h3, ↓reduceIte]
      exact ih (i + 1) (by omega)
    · simp only [h3, ↓reduceIte]
      exact Ev.now _
theorem props_ev (vs : List PVar) (rs : List PRule) (l : List (List POp)) : Ev (fun k => model_Props.f k vs rs l) (propsS vs rs l) := by
  unfold model_Props.f propsS
  refine ev_bind (modelCheck_ev vs rs) ?_
  by_cases h : modelS vs rs = 0
  · simp only [h, ↓reduceIte]
    by_cases h2 : 6 < l.length
    · have c1 : (l.length : Int) > 6 := by omega
      simp only [h2, c1, ↓reduceIte]
      exact Ev.now _
    · have c1 : ¬ (l.length : Int) > 6 := by omega
      simp only [h2, c1, ↓reduceIte]
      exact props_l0 vs (modelS_len h) rs l (by omega) l.length 0 (by omega)
  · simp only [h, ↓reduceIte]
    exact Ev.now _
theorem propsFault_end (e : Int) (he : ¬ e = 0) (i : Nat) (vs : List PVar) (rs : List PRule) (l : List (List POp)) : Ev (fun k => foretellref_PropsFault.l0 k l e i vs rs) e := by
  refine ev_succ ?_
  simp only [foretellref_PropsFault.l0, he, ↓reduceIte, ite_self]
  exact Ev.now _
theorem propsFault_l0 (vs : List PVar) (hv : vs.length ≤ 6) (rs : List PRule) (l : List (List POp)) (hl : l.length ≤ 6) (d : Nat) : ∀ i : Nat, i + d = l.length → Ev (fun k => foretellref_PropsFault.l0 k l 0 i vs rs) (propsL (vs.length : Int) (l.drop i)) := by
  induction d with
  | zero =>
    intro i hi
    rw [List.drop_of_length_le (by omega)]
    have c1 : ¬ (i : Int) < (l.length : Int) := by omega
    refine ev_succ ?_
    simp only [foretellref_PropsFault.l0, ↓reduceIte, c1]
    exact Ev.now _
  | succ d ih =>
    intro i hi
    have hil : i < l.length := by omega
    have c1 : (i : Int) < (l.length : Int) := by omega
    have c2 : (0 : Int) ≤ (i : Int) := by omega
    have w1 : wrap64 ((i : Int) + 1) = ((i + 1 : Nat) : Int) := by rw [wrap_id (by omega) (by omega)]; rfl
    refine ev_succ ?_
    simp only [foretellref_PropsFault.l0, ↓reduceIte, c1, c2, rdL_get l i hil, w1]
    rw [List.drop_eq_getElem_cons hil, propsL]
    refine ev_bind (kindFault_ev l[i] (vs.length : Int) true (by omega)) ?_
    by_cases h3 : kindS l[i] (vs.length : Int) true = 0
    · simp only [h3, ↓reduceIte]
      exact ih (i + 1) (by omega)
    · simp only [h3, ↓reduceIte]
      exact propsFault_end _ h3 _ vs rs l
theorem propsFault_ev (vs : List PVar) (rs : List PRule) (l : List (List POp)) : Ev (fun k => foretellref_PropsFault.f k vs rs l) (propsS vs rs l) := by
  unfold foretellref_PropsFault.f propsS
  have j1 : ∀ (e r : Int), Ev (fun k => foretellref_PropsFault.l0 k l e 0 vs rs) r → Ev (fun k => foretellref_PropsFault.j1 k l e vs rs) r := fun e r h => by
    refine ev_succ ?_
    simp only [foretellref_PropsFault.j1]
    exact h
  refine ev_bind (modelFault_ev vs rs) ?_
  by_cases h : modelS vs rs = 0
  · simp only [h, ↓reduceIte]
    by_cases h2 : 6 < l.length
    · have c1 : decide ((l.length : Int) > 6) = true := decide_eq_true (by omega)
      simp only [h2, c1, ↓reduceIte]
      refine ev_succ ?_
      simp only [foretellref_PropsFault.j0, ↓reduceIte]
      exact j1 1 1 (propsFault_end 1 (by decide) 0 vs rs l)
    · have c1 : decide ((l.length : Int) > 6) = false := decide_eq_false (by omega)
      simp only [h2, c1, ↓reduceIte]
      refine ev_succ ?_
      simp only [foretellref_PropsFault.j0, Bool.false_eq_true, ↓reduceIte]
      exact j1 0 _ (propsFault_l0 vs (modelS_len h) rs l (by omega) l.length 0 (by omega))
  · simp only [h, ↓reduceIte]
    refine ev_succ ?_
    simp only [foretellref_PropsFault.j0, Bool.false_eq_true, ↓reduceIte]
    exact j1 _ _ (propsFault_end _ h 0 vs rs l)
theorem tasks_ev (x : S47) (h : G47 x) : Ev (fun k => foretelllaw_tasks.f k x.f0.f0 x.f0.f1 x.f1 x.f2) (x.f0.f0, x.f0.f1, x.f1, x.f2) := by
  obtain ⟨h0, ⟨h1, h1'⟩, h2, _⟩ := h
  unfold foretelllaw_tasks.f
  exact ev_bind (models_ev x.f0 h0) (ev_bind (terms_ev x.f1 h1 (fun y hy => (h1' y hy).1)) (ev_call (ops_eq x.f2 h2) (Ev.now _)))
def taskS (vs : List PVar) (rs : List PRule) (ps : List (List POp)) (f : List POp) : Int := if propsS vs rs ps = 0 then checkS f (ps.length : Int) else propsS vs rs ps
theorem taskCheck_ev (vs : List PVar) (rs : List PRule) (ps : List (List POp)) (f : List POp) : Ev (fun k => product_Check.f k vs rs ps f) (taskS vs rs ps f) := by
  unfold product_Check.f taskS
  refine ev_bind (props_ev vs rs ps) ?_
  by_cases h : propsS vs rs ps = 0
  · simp only [h, ↓reduceIte]
    exact ev_bind (check_ev f (ps.length : Int)) (Ev.now _)
  · simp only [h, ↓reduceIte]
    exact Ev.now _
theorem taskFault_ev (vs : List PVar) (rs : List PRule) (ps : List (List POp)) (f : List POp) : Ev (fun k => foretellref_TaskFault.f k vs rs ps f) (taskS vs rs ps f) := by
  unfold foretellref_TaskFault.f taskS
  refine ev_bind (propsFault_ev vs rs ps) ?_
  by_cases h : propsS vs rs ps = 0
  · simp only [h, ↓reduceIte]
    exact ev_bind (formulaFault_ev f (ps.length : Int)) (Ev.now _)
  · simp only [h, ↓reduceIte]
    exact Ev.now _
def VOk (v : PVar) : Prop := -1000 ≤ v.f1 ∧ v.f1 ≤ v.f3 ∧ v.f3 ≤ v.f2 ∧ v.f2 ≤ 1000 ∧ v.f2 - v.f1 < 64
def prodV : List PVar → Int
  | [] => 1
  | v :: r => (v.f2 - v.f1 + 1) * prodV r
theorem prodV_cons (v : PVar) (r : List PVar) : prodV (v :: r) = (v.f2 - v.f1 + 1) * prodV r := rfl
theorem prodV_pos : ∀ {l : List PVar}, (∀ v ∈ l, VOk v) → 1 ≤ prodV l
  | [], _ => Int.le_refl _
  | v :: r, h => by
    have h1 := prodV_pos (l := r) (fun u hu => h u (by simp [hu]))
    have h2 := h v (by simp)
    unfold VOk at h2
    unfold prodV
    have : 1 * 1 ≤ (v.f2 - v.f1 + 1) * prodV r := Int.mul_le_mul (by omega) h1 (by decide) (by omega)
    omega
theorem varsL_ok : ∀ (l : List PVar) (seen : List ByteArray) (st : Int), varsL l seen st = 0 → 1 ≤ st → st ≤ 4096 → (∀ v ∈ l, VOk v) ∧ st * prodV l ≤ 4096
  | [], _, st, _, _, h => ⟨fun v hv => (nomatch hv), by unfold prodV; omega⟩
  | v :: r, seen, st, h, h1, h2 => by
    unfold varsL at h
    split at h
    · omega
    split at h
    · omega
    split at h
    · omega
    rename_i hb
    split at h
    · omega
    rename_i hs
    split at h
    · omega
    rename_i hp
    have hsp : (1 : Int) ≤ v.f2 - v.f1 + 1 := by omega
    have hpp : 1 * 1 ≤ st * (v.f2 - v.f1 + 1) := Int.mul_le_mul h1 hsp (by decide) (by omega)
    obtain ⟨g1, g2⟩ := varsL_ok r _ _ h (by omega) (by omega)
    refine ⟨fun u hu => ?_, ?_⟩
    · rcases List.mem_cons.1 hu with rfl | hu
      · unfold VOk; omega
      · exact g1 u hu
    · unfold prodV
      rw [← Int.mul_assoc]
      exact g2
theorem vars_ok {vs : List PVar} (h : varsS vs = 0) : (∀ v ∈ vs, VOk v) ∧ prodV vs ≤ 4096 := by
  unfold varsS at h
  split at h
  · omega
  · have := varsL_ok vs [] 1 h (by decide) (by decide)
    rw [Int.one_mul] at this
    exact this
theorem drop_ok {vs : List PVar} (h : ∀ v ∈ vs, VOk v) (i : Nat) : ∀ v ∈ vs.drop i, VOk v := fun v hv => h v (List.mem_of_mem_drop hv)
theorem prodV_drop {vs : List PVar} (h : ∀ v ∈ vs, VOk v) (i : Nat) : prodV (vs.drop i) ≤ prodV vs := by
  induction vs generalizing i with
  | nil => simp
  | cons v r ih =>
    cases i with
    | zero => exact Int.le_refl _
    | succ i =>
      have h1 := ih (fun u hu => h u (by simp [hu])) i
      have h2 := h v (by simp)
      have h3 := prodV_pos (l := r) (fun u hu => h u (by simp [hu]))
      unfold VOk at h2
      rw [List.drop_succ_cons]
      have : 1 * prodV r ≤ (v.f2 - v.f1 + 1) * prodV r := Int.mul_le_mul (by omega) (Int.le_refl _) (by omega) (by omega)
      rw [prodV_cons]
      omega
theorem span_wrap {v : PVar} (h : VOk v) : wrap64 (wrap64 (v.f2 - v.f1) + 1) = v.f2 - v.f1 + 1 := by
  unfold VOk at h
  rw [wrap_id (x := v.f2 - v.f1) (by omega) (by omega), wrap_id (by omega) (by omega)]
theorem part_prod {a : Int} {v : PVar} {r : List PVar} (ha : 1 ≤ a) (hv : VOk v) (hr : ∀ u ∈ r, VOk u) (hp : a * prodV (v :: r) ≤ 4096) : 1 ≤ a * (v.f2 - v.f1 + 1) ∧ a * (v.f2 - v.f1 + 1) ≤ 4096 ∧ a * (v.f2 - v.f1 + 1) * prodV r ≤ 4096 := by
  rw [prodV_cons, ← Int.mul_assoc] at hp
  have h3 := prodV_pos hr
  unfold VOk at hv
  have hpp : 1 * 1 ≤ a * (v.f2 - v.f1 + 1) := Int.mul_le_mul ha (by omega) (by decide) (by omega)
  have : a * (v.f2 - v.f1 + 1) * 1 ≤ a * (v.f2 - v.f1 + 1) * prodV r := Int.mul_le_mul (Int.le_refl _) h3 (by decide) (by omega)
  exact ⟨by omega, by omega, hp⟩
theorem behind_l0 (vs : List PVar) (rs : List PRule) (hv : vs.length ≤ 6) (ho : ∀ v ∈ vs, VOk v) (d : Nat) : ∀ (i : Nat) (a : Int), i + d = vs.length → 1 ≤ a → a * prodV (vs.drop i) ≤ 4096 → Ev (fun k => foretellref_behindVar.l0 k a i vs rs) (a * prodV (vs.drop i)) := by
  induction d with
  | zero =>
    intro i a hi ha hp
    rw [List.drop_of_length_le (by omega)]
    have c1 : ¬ (i : Int) < (vs.length : Int) := by omega
    refine ev_succ ?_
    simp only [foretellref_behindVar.l0, ↓reduceIte, c1, prodV, Int.mul_one]
    exact Ev.now _
  | succ d ih =>
    intro i a hi ha hp
    have hil : i < vs.length := by omega
    have c1 : (i : Int) < (vs.length : Int) := by omega
    have c2 : (0 : Int) ≤ (i : Int) := by omega
    have w1 : wrap64 ((i : Int) + 1) = ((i + 1 : Nat) : Int) := by rw [wrap_id (by omega) (by omega)]; rfl
    have hvi := ho _ (List.getElem_mem hil)
    rw [List.drop_eq_getElem_cons hil] at hp ⊢
    obtain ⟨p1, p2, p3⟩ := part_prod ha hvi (drop_ok ho _) hp
    have w2 : wrap64 (a * (vs[i].f2 - vs[i].f1 + 1)) = a * (vs[i].f2 - vs[i].f1 + 1) := wrap_id (by omega) (by omega)
    refine ev_succ ?_
    simp only [foretellref_behindVar.l0, ↓reduceIte, c1, c2, rdV_get vs i hil, w1, span_wrap hvi, w2]
    rw [prodV_cons, ← Int.mul_assoc]
    exact ih (i + 1) _ (by omega) p1 p3
theorem behind_ev (vs : List PVar) (rs : List PRule) (hv : vs.length ≤ 6) (ho : ∀ v ∈ vs, VOk v) (hp : prodV vs ≤ 4096) (i : Nat) (hi : i ≤ vs.length) (a : Int) (ha : a + 1 = (i : Int)) : Ev (fun k => foretellref_behindVar.f k vs rs a) (prodV (vs.drop i)) := by
  have w1 : wrap64 (a + 1) = (i : Int) := by rw [wrap_id (by omega) (by omega)]; exact ha
  unfold foretellref_behindVar.f
  rw [w1]
  have h := behind_l0 vs rs hv ho (vs.length - i) i 1 (by omega) (by decide) (by rw [Int.one_mul]; have := prodV_drop ho i; omega)
  rw [Int.one_mul] at h
  exact h
def encR : List PVar → List Int → Option Int
  | v :: vs, x :: xs => if x < v.f1 ∨ v.f2 < x then none else (encR vs xs).map fun n => (x - v.f1) * prodV vs + n
  | _, _ => some 0
def encP (a : Int) (p : Int) (r : Option Int) : Int × Int := match r with | none => (0, 9) | some n => (a * p + n, 0)
theorem encP_step (a x p : Int) (v : PVar) (r : Option Int) : encP a ((v.f2 - v.f1 + 1) * p) (r.map fun n => (x - v.f1) * p + n) = encP (a * (v.f2 - v.f1 + 1) + x - v.f1) p r := by
  cases r with
  | none => rfl
  | some n =>
    simp only [encP, Option.map_some, Prod.mk.injEq, and_true]
    generalize v.f2 - v.f1 + 1 = S
    rw [Int.sub_mul, Int.sub_mul, Int.add_mul, Int.mul_assoc]
    omega
theorem code_l0 (vs : List PVar) (hv : vs.length ≤ 6) (ho : ∀ v ∈ vs, VOk v) (xs : List Int) (hx : xs.length = vs.length) (d : Nat) : ∀ (i : Nat) (a : Int), i + d = vs.length → 0 ≤ a → (a + 1) * prodV (vs.drop i) ≤ 4096 →
    Ev (fun k => model_Code.l0 k xs a vs (vs.length : Int) i) (encP a (prodV (vs.drop i)) (encR (vs.drop i) (xs.drop i))) := by
  induction d with
  | zero =>
    intro i a hi ha hp
    rw [List.drop_of_length_le (by omega), List.drop_of_length_le (by omega)]
    have c1 : ¬ (i : Int) < (vs.length : Int) := by omega
    refine ev_succ ?_
    simp only [model_Code.l0, ↓reduceIte, c1, encR, encP, prodV, Int.mul_one, Int.add_zero]
    exact Ev.now _
  | succ d ih =>
    intro i a hi ha hp
    have hil : i < vs.length := by omega
    have hxl : i < xs.length := by omega
    have c1 : (i : Int) < (vs.length : Int) := by omega
    have c2 : (0 : Int) ≤ (i : Int) := by omega
    have c3 : (i : Int) < (xs.length : Int) := by omega
    have w1 : wrap64 ((i : Int) + 1) = ((i + 1 : Nat) : Int) := by rw [wrap_id (by omega) (by omega)]; rfl
    have hvi := ho _ (List.getElem_mem hil)
    rw [List.drop_eq_getElem_cons hil] at hp ⊢
    rw [List.drop_eq_getElem_cons hxl, encR]
    obtain ⟨p1, p2, p3⟩ := part_prod (a := a + 1) (by omega) hvi (drop_ok ho _) hp
    have e : (a + 1) * (vs[i].f2 - vs[i].f1 + 1) = a * (vs[i].f2 - vs[i].f1 + 1) + (vs[i].f2 - vs[i].f1 + 1) := by rw [Int.add_mul, Int.one_mul]
    have hs1 : 0 ≤ a * (vs[i].f2 - vs[i].f1 + 1) := Int.mul_nonneg ha (by unfold VOk at hvi; omega)
    refine ev_succ ?_
    by_cases b1 : xs[i] < vs[i].f1
    · rw [if_pos (.inl b1)]
      simp only [model_Code.l0, ↓reduceIte, c1, c2, c3, rdV_get vs i hil, rd_get xs i hxl, b1]
      exact Ev.now _
    by_cases b2 : xs[i] > vs[i].f2
    · rw [if_pos (.inr b2)]
      simp only [model_Code.l0, ↓reduceIte, c1, c2, c3, rdV_get vs i hil, rd_get xs i hxl, b1, b2]
      exact Ev.now _
    rw [if_neg (by omega)]
    have hvi' := hvi
    unfold VOk at hvi'
    have w2 : wrap64 (a * (vs[i].f2 - vs[i].f1 + 1)) = a * (vs[i].f2 - vs[i].f1 + 1) := wrap_id (by omega) (by omega)
    have w3 : wrap64 (a * (vs[i].f2 - vs[i].f1 + 1) + xs[i]) = a * (vs[i].f2 - vs[i].f1 + 1) + xs[i] := wrap_id (by omega) (by omega)
    have w4 : wrap64 (a * (vs[i].f2 - vs[i].f1 + 1) + xs[i] - vs[i].f1) = a * (vs[i].f2 - vs[i].f1 + 1) + xs[i] - vs[i].f1 := wrap_id (by omega) (by omega)
    simp only [model_Code.l0, ↓reduceIte, c1, c2, c3, rdV_get vs i hil, rd_get xs i hxl, b1, b2, w1, span_wrap hvi, w2, w3, w4]
    rw [prodV_cons, encP_step]
    refine ih (i + 1) _ (by omega) (by omega) ?_
    have hpr := prodV_pos (drop_ok ho (i + 1))
    have : (a * (vs[i].f2 - vs[i].f1 + 1) + xs[i] - vs[i].f1 + 1) * prodV (vs.drop (i + 1)) ≤ (a + 1) * (vs[i].f2 - vs[i].f1 + 1) * prodV (vs.drop (i + 1)) := Int.mul_le_mul (by omega) (Int.le_refl _) (by omega) (by omega)
    omega
theorem encR_bd : ∀ (vs : List PVar) (xs : List Int), (∀ v ∈ vs, VOk v) → xs.length = vs.length → ∀ n, encR vs xs = some n → 0 ≤ n ∧ n < prodV vs
  | [], xs, _, _, n, h => by
    simp only [encR, Option.some.injEq] at h
    subst h
    unfold prodV
    decide
  | v :: vs, [], _, hl, n, h => by simp at hl
  | v :: vs, x :: xs, ho, hl, n, h => by
    unfold encR at h
    split at h
    · cases h
    rename_i hb
    obtain ⟨m, hm, rfl⟩ := Option.map_eq_some_iff.1 h
    obtain ⟨m0, m1⟩ := encR_bd vs xs (fun u hu => ho u (by simp [hu])) (by simpa using hl) m hm
    have hpr := prodV_pos (l := vs) (fun u hu => ho u (by simp [hu]))
    have h0 : 0 ≤ (x - v.f1) * prodV vs := Int.mul_nonneg (by omega) (by omega)
    have h1 : (x - v.f1 + 1) * prodV vs ≤ (v.f2 - v.f1 + 1) * prodV vs := Int.mul_le_mul (by omega) (Int.le_refl _) (by omega) (by omega)
    rw [Int.add_mul, Int.one_mul] at h1
    rw [prodV_cons]
    omega
theorem codeOf_l0 (vs : List PVar) (rs : List PRule) (hv : vs.length ≤ 6) (ho : ∀ v ∈ vs, VOk v) (hp0 : prodV vs ≤ 4096) (xs : List Int) (hx : xs.length = vs.length) (d : Nat) : ∀ (i : Nat) (a : Int), i + d = vs.length → 0 ≤ a → a + prodV (vs.drop i) ≤ 4096 →
    Ev (fun k => foretellref_CodeOf.l0 k xs a i vs rs) (encP a 1 (encR (vs.drop i) (xs.drop i))) := by
  induction d with
  | zero =>
    intro i a hi ha hp
    rw [List.drop_of_length_le (by omega), List.drop_of_length_le (by omega)]
    have c1 : ¬ (i : Int) < (xs.length : Int) := by omega
    refine ev_succ ?_
    simp only [foretellref_CodeOf.l0, ↓reduceIte, c1, encR, encP, prodV, Int.mul_one, Int.add_zero]
    exact Ev.now _
  | succ d ih =>
    intro i a hi ha hp
    have hil : i < vs.length := by omega
    have hxl : i < xs.length := by omega
    have c1 : (i : Int) < (vs.length : Int) := by omega
    have c2 : (0 : Int) ≤ (i : Int) := by omega
    have c3 : (i : Int) < (xs.length : Int) := by omega
    have w1 : wrap64 ((i : Int) + 1) = ((i + 1 : Nat) : Int) := by rw [wrap_id (by omega) (by omega)]; rfl
    have hvi := ho _ (List.getElem_mem hil)
    rw [List.drop_eq_getElem_cons hil] at hp ⊢
    rw [List.drop_eq_getElem_cons hxl, encR]
    refine ev_succ ?_
    by_cases b1 : vs[i].f1 ≤ xs[i] ∧ xs[i] ≤ vs[i].f2
    case neg =>
      have d1 : decide (vs[i].f1 ≤ xs[i] ∧ xs[i] ≤ vs[i].f2) = false := decide_eq_false b1
      rw [if_pos (by omega)]
      simp only [foretellref_CodeOf.l0, ↓reduceIte, c1, c2, c3, rdV_get vs i hil, rd_get xs i hxl, inE_eq, x_bind, d1, Bool.false_eq_true]
      exact Ev.now _
    have d1 : decide (vs[i].f1 ≤ xs[i] ∧ xs[i] ≤ vs[i].f2) = true := decide_eq_true b1
    rw [if_neg (by omega)]
    simp only [foretellref_CodeOf.l0, ↓reduceIte, c1, c2, c3, rdV_get vs i hil, rd_get xs i hxl, inE_eq, x_bind, d1]
    refine ev_bind (behind_ev vs rs hv ho hp0 (i + 1) (by omega) (i : Int) (by omega)) ?_
    have hpr := prodV_pos (drop_ok ho (i + 1))
    have hvi' := hvi
    unfold VOk at hvi'
    rw [prodV_cons] at hp
    have h0 : 0 ≤ (xs[i] - vs[i].f1) * prodV (vs.drop (i + 1)) := Int.mul_nonneg (by omega) (by omega)
    have h1 : (xs[i] - vs[i].f1 + 1) * prodV (vs.drop (i + 1)) ≤ (vs[i].f2 - vs[i].f1 + 1) * prodV (vs.drop (i + 1)) := Int.mul_le_mul (by omega) (Int.le_refl _) (by omega) (by omega)
    rw [Int.add_mul, Int.one_mul] at h1
    have w2 : wrap64 (xs[i] - vs[i].f1) = xs[i] - vs[i].f1 := wrap_id (by omega) (by omega)
    have w3 : wrap64 ((xs[i] - vs[i].f1) * prodV (vs.drop (i + 1))) = (xs[i] - vs[i].f1) * prodV (vs.drop (i + 1)) := wrap_id (by omega) (by omega)
    have w4 : wrap64 (a + (xs[i] - vs[i].f1) * prodV (vs.drop (i + 1))) = a + (xs[i] - vs[i].f1) * prodV (vs.drop (i + 1)) := wrap_id (by omega) (by omega)
    simp only [w1, w2, w3, w4]
    refine ev_eq (ih (i + 1) _ (by omega) (by omega) (by omega)) ?_
    cases encR (vs.drop (i + 1)) (xs.drop (i + 1)) with
    | none => rfl
    | some n => simp only [encP, Option.map_some, Int.mul_one, Int.add_assoc]
def codeS (vs : List PVar) (rs : List PRule) (xs : List Int) : Int × Int := if modelS vs rs = 0 then (if xs.length = vs.length then encP 0 1 (encR vs xs) else (0, 9)) else (0, modelS vs rs)
theorem encP_zero (p : Int) (r : Option Int) : encP 0 p r = encP 0 1 r := by
  cases r with
  | none => rfl
  | some n => simp only [encP, Int.zero_mul]
theorem code_ev (vs : List PVar) (rs : List PRule) (xs : List Int) : Ev (fun k => model_Code.f k vs rs xs) (codeS vs rs xs) := by
  unfold model_Code.f codeS
  refine ev_bind (modelCheck_ev vs rs) ?_
  by_cases h : modelS vs rs = 0
  · obtain ⟨ho, hp⟩ := vars_ok (modelS_vars h)
    simp only [h, ↓reduceIte]
    by_cases h2 : xs.length = vs.length
    · have c1 : (xs.length : Int) = (vs.length : Int) := by omega
      simp only [h2, ↓reduceIte]
      have := code_l0 vs (modelS_len h) ho xs h2 vs.length 0 0 (by omega) (Int.le_refl _) (by rw [Int.zero_add, Int.one_mul]; exact hp)
      rw [encP_zero] at this
      exact this
    · have c1 : ¬ (xs.length : Int) = (vs.length : Int) := by omega
      simp only [h2, c1, ↓reduceIte]
      exact Ev.now _
  · simp only [h, ↓reduceIte]
    exact Ev.now _
theorem codeOf_ev (vs : List PVar) (rs : List PRule) (xs : List Int) : Ev (fun k => foretellref_CodeOf.f k vs rs xs) (codeS vs rs xs) := by
  unfold foretellref_CodeOf.f codeS
  refine ev_bind (modelFault_ev vs rs) ?_
  by_cases h : modelS vs rs = 0
  · obtain ⟨ho, hp⟩ := vars_ok (modelS_vars h)
    simp only [h, ↓reduceIte]
    by_cases h2 : xs.length = vs.length
    · have c1 : (xs.length : Int) = (vs.length : Int) := by omega
      simp only [h2, ↓reduceIte]
      exact codeOf_l0 vs rs (modelS_len h) ho hp xs h2 vs.length 0 0 (by omega) (Int.le_refl _) (by rw [Int.zero_add]; exact hp)
    · have c1 : ¬ (xs.length : Int) = (vs.length : Int) := by omega
      simp only [h2, c1, ↓reduceIte]
      exact Ev.now _
  · simp only [h, ↓reduceIte]
    exact Ev.now _
def firstS (vs : List PVar) (rs : List PRule) : Int × Int := codeS vs rs (vs.map (·.f3))
theorem first_l0 (vs : List PVar) (rs : List PRule) (hv : vs.length ≤ 3518437208883) (d : Nat) : ∀ i : Nat, i + d = vs.length → Ev (fun k => model_First.l0 k ((vs.take i).map (·.f3)) vs (vs.length : Int) i vs rs) (firstS vs rs) := by
  induction d with
  | zero =>
    intro i hi
    rw [List.take_of_length_le (by omega)]
    have c1 : ¬ (i : Int) < (vs.length : Int) := by omega
    refine ev_succ ?_
    simp only [model_First.l0, ↓reduceIte, c1]
    exact ev_bind (code_ev vs rs _) (Ev.now _)
  | succ d ih =>
    intro i hi
    have hil : i < vs.length := by omega
    have c1 : (i : Int) < (vs.length : Int) := by omega
    have c2 : (0 : Int) ≤ (i : Int) := by omega
    have c3 : ((vs.take i).map (·.f3)).length < 17592186044416 := by rw [List.length_map, List.length_take]; omega
    have w1 : wrap64 ((i : Int) + 1) = ((i + 1 : Nat) : Int) := by rw [wrap_id (by omega) (by omega)]; rfl
    have h := ih (i + 1) (by omega)
    rw [List.take_succ_eq_append_getElem hil, List.map_append] at h
    refine ev_succ ?_
    simp only [model_First.l0, ↓reduceIte, c1, c2, c3, w1, rdV_get vs i hil]
    exact h
theorem first_ev (vs : List PVar) (rs : List PRule) (hv : vs.length ≤ 3518437208883) : Ev (fun k => model_First.f k vs rs) (firstS vs rs) := first_l0 vs rs hv vs.length 0 (by omega)
theorem firstCode_l0 (vs : List PVar) (rs : List PRule) (hv : vs.length ≤ 3518437208883) (d : Nat) : ∀ i : Nat, i + d = vs.length → Ev (fun k => foretellref_FirstCode.l0 k ((vs.take i).map (·.f3)) i vs rs) (firstS vs rs) := by
  induction d with
  | zero =>
    intro i hi
    rw [List.take_of_length_le (by omega)]
    have c1 : ¬ (i : Int) < (vs.length : Int) := by omega
    refine ev_succ ?_
    simp only [foretellref_FirstCode.l0, ↓reduceIte, c1]
    exact ev_bind (codeOf_ev vs rs _) (Ev.now _)
  | succ d ih =>
    intro i hi
    have hil : i < vs.length := by omega
    have c1 : (i : Int) < (vs.length : Int) := by omega
    have c2 : (0 : Int) ≤ (i : Int) := by omega
    have c3 : ((vs.take i).map (·.f3)).length < 17592186044416 := by rw [List.length_map, List.length_take]; omega
    have w1 : wrap64 ((i : Int) + 1) = ((i + 1 : Nat) : Int) := by rw [wrap_id (by omega) (by omega)]; rfl
    have h := ih (i + 1) (by omega)
    rw [List.take_succ_eq_append_getElem hil, List.map_append] at h
    refine ev_succ ?_
    simp only [foretellref_FirstCode.l0, ↓reduceIte, c1, c2, c3, w1, rdV_get vs i hil]
    exact h
theorem firstCode_ev (vs : List PVar) (rs : List PRule) (hv : vs.length ≤ 3518437208883) : Ev (fun k => foretellref_FirstCode.f k vs rs) (firstS vs rs) := firstCode_l0 vs rs hv vs.length 0 (by omega)
theorem count_l0 (vs : List PVar) (hv : vs.length ≤ 6) (ho : ∀ v ∈ vs, VOk v) (d : Nat) : ∀ (i : Nat) (a : Int), i + d = vs.length → 1 ≤ a → a * prodV (vs.drop i) ≤ 4096 → Ev (fun k => model_Count.l0 k a vs (vs.length : Int) i) (a * prodV (vs.drop i), 0) := by
  induction d with
  | zero =>
    intro i a hi ha hp
    rw [List.drop_of_length_le (by omega)]
    have c1 : ¬ (i : Int) < (vs.length : Int) := by omega
    refine ev_succ ?_
    simp only [model_Count.l0, ↓reduceIte, c1, prodV, Int.mul_one]
    exact Ev.now _
  | succ d ih =>
    intro i a hi ha hp
    have hil : i < vs.length := by omega
    have c1 : (i : Int) < (vs.length : Int) := by omega
    have c2 : (0 : Int) ≤ (i : Int) := by omega
    have w1 : wrap64 ((i : Int) + 1) = ((i + 1 : Nat) : Int) := by rw [wrap_id (by omega) (by omega)]; rfl
    have hvi := ho _ (List.getElem_mem hil)
    rw [List.drop_eq_getElem_cons hil] at hp ⊢
    obtain ⟨p1, p2, p3⟩ := part_prod ha hvi (drop_ok ho _) hp
    have w2 : wrap64 (a * (vs[i].f2 - vs[i].f1 + 1)) = a * (vs[i].f2 - vs[i].f1 + 1) := wrap_id (by omega) (by omega)
    refine ev_succ ?_
    simp only [model_Count.l0, ↓reduceIte, c1, c2, rdV_get vs i hil, w1, span_wrap hvi, w2]
    rw [prodV_cons, ← Int.mul_assoc]
    exact ih (i + 1) _ (by omega) p1 p3
def countS (vs : List PVar) (rs : List PRule) : Int × Int := if modelS vs rs = 0 then (prodV vs, 0) else (0, modelS vs rs)
theorem count_ev (vs : List PVar) (rs : List PRule) : Ev (fun k => model_Count.f k vs rs) (countS vs rs) := by
  unfold model_Count.f countS
  refine ev_bind (modelCheck_ev vs rs) ?_
  by_cases h : modelS vs rs = 0
  · obtain ⟨ho, hp⟩ := vars_ok (modelS_vars h)
    simp only [h, ↓reduceIte]
    have := count_l0 vs (modelS_len h) ho vs.length 0 1 (by omega) (by decide) (by rw [Int.one_mul]; exact hp)
    rw [Int.one_mul] at this
    exact this
  · simp only [h, ↓reduceIte]
    exact Ev.now _
theorem stateCount_ev (vs : List PVar) (rs : List PRule) : Ev (fun k => foretellref_StateCount.f k vs rs) (countS vs rs) := by
  unfold foretellref_StateCount.f countS
  refine ev_bind (modelFault_ev vs rs) ?_
  by_cases h : modelS vs rs = 0
  · obtain ⟨ho, hp⟩ := vars_ok (modelS_vars h)
    simp only [h, ↓reduceIte]
    exact ev_bind (behind_ev vs rs (modelS_len h) ho hp 0 (by omega) (-1) (by omega)) (Ev.now _)
  · simp only [h, ↓reduceIte]
    exact Ev.now _
def valS : List PVar → Int → List Int
  | [], _ => []
  | v :: vs, c => (v.f1 + c / prodV vs) :: valS vs (c % prodV vs)
theorem valS_len : ∀ (vs : List PVar) (c : Int), (valS vs c).length = vs.length
  | [], _ => rfl
  | v :: vs, c => by simp [valS, valS_len vs]
theorem prodV_snoc (l : List PVar) (v : PVar) : prodV (l ++ [v]) = prodV l * (v.f2 - v.f1 + 1) := by
  induction l with
  | nil => simp [prodV]
  | cons u l ih => rw [List.cons_append, prodV_cons, prodV_cons, ih, Int.mul_assoc]
theorem div_mod_parts {c p s : Int} (hc : 0 ≤ c) (hp : 1 ≤ p) (hs : 1 ≤ s) : c / (p * s) = c / s / p ∧ (c % (p * s)) / s = (c / s) % p ∧ (c % (p * s)) % s = c % s := by
  have hps : 0 < p * s := Int.mul_pos (by omega) (by omega)
  refine ⟨by rw [Int.mul_comm, Int.ediv_ediv_of_nonneg (by omega)], ?_, by rw [Int.emod_emod_of_dvd _ (Int.dvd_mul_left p s)]⟩
  have h1 : c = c % (p * s) + (c / (p * s) * p) * s := by
    have := Int.emod_add_mul_ediv c (p * s)
    rw [Int.mul_comm (p * s), ← Int.mul_assoc] at this
    exact this.symm
  have h2 : c / s = c % (p * s) / s + c / (p * s) * p := by
    conv => lhs; rw [h1]
    rw [Int.add_mul_ediv_right _ _ (by omega)]
  rw [h2, Int.add_mul_emod_self_right]
  have r0 : 0 ≤ c % (p * s) := Int.emod_nonneg _ (by omega)
  have r1 : c % (p * s) < p * s := Int.emod_lt_of_pos _ hps
  exact (Int.emod_eq_of_lt (Int.ediv_nonneg r0 (by omega)) (Int.ediv_lt_of_lt_mul (by omega) r1)).symm
theorem valS_last (v : PVar) (hv : VOk v) : ∀ (l : List PVar) (c : Int), (∀ u ∈ l, VOk u) → 0 ≤ c → c < prodV (l ++ [v]) → valS (l ++ [v]) c = valS l (c / (v.f2 - v.f1 + 1)) ++ [v.f1 + c % (v.f2 - v.f1 + 1)]
  | [], c, _, hc, hlt => by
    unfold VOk at hv
    simp only [List.nil_append, valS, prodV, Int.ediv_one, List.cons.injEq, and_true]
    rw [List.nil_append, prodV_cons] at hlt
    unfold prodV at hlt
    rw [Int.emod_eq_of_lt hc (by omega)]
  | u :: l, c, hl, hc, hlt => by
    have hv' := hv
    unfold VOk at hv'
    have hp := prodV_pos (l := l) (fun x hx => hl x (by simp [hx]))
    have hps : 0 < prodV l * (v.f2 - v.f1 + 1) := Int.mul_pos (by omega) (by omega)
    obtain ⟨e1, e2, e3⟩ := div_mod_parts hc hp (show 1 ≤ v.f2 - v.f1 + 1 by omega)
    have hi := valS_last v hv l (c % prodV (l ++ [v])) (fun x hx => hl x (by simp [hx])) (by rw [prodV_snoc]; exact Int.emod_nonneg _ (by omega)) (by rw [prodV_snoc]; exact Int.emod_lt_of_pos _ hps)
    rw [List.cons_append]
    show (u.f1 + c / prodV (l ++ [v])) :: valS (l ++ [v]) (c % prodV (l ++ [v])) = (u.f1 + c / (v.f2 - v.f1 + 1) / prodV l) :: valS l (c / (v.f2 - v.f1 + 1) % prodV l) ++ _
    rw [hi, prodV_snoc, e1, e2, e3]
    rfl
theorem values_l0 (vs : List PVar) (rs : List PRule) (hv : vs.length ≤ 6) (ho : ∀ v ∈ vs, VOk v) (i : Nat) : ∀ (c : Int) (out : List Int), i ≤ vs.length → out.length = vs.length → 0 ≤ c → c < prodV (vs.take i) → prodV (vs.take i) ≤ 4096 →
    Ev (fun k => model_Values.l0 k c out ((i : Int) - 1) vs rs) (valS (vs.take i) c ++ out.drop i, 0) := by
  induction i with
  | zero =>
    intro c out hi hl hc hlt hp
    have c1 : ¬ ((0 : Nat) : Int) - 1 ≥ 0 := by decide
    refine ev_succ ?_
    simp only [model_Values.l0, ↓reduceIte, c1]
    exact Ev.now _
  | succ i ih =>
    intro c out hi hl hc hlt hp
    have hil : i < vs.length := by omega
    have hvi := ho _ (List.getElem_mem hil)
    have hvi' := hvi
    unfold VOk at hvi'
    have hto : ∀ u ∈ vs.take i, VOk u := fun u hu => ho u (List.mem_of_mem_take hu)
    have hpt := prodV_pos hto
    rw [List.take_succ_eq_append_getElem hil] at hlt hp ⊢
    have hlast := valS_last vs[i] hvi (vs.take i) c hto hc hlt
    rw [prodV_snoc] at hlt hp
    have hsp : prodV (vs.take i) * 1 ≤ prodV (vs.take i) * (vs[i].f2 - vs[i].f1 + 1) := Int.mul_le_mul (Int.le_refl _) (by omega) (by decide) (by omega)
    have e0 : ((i + 1 : Nat) : Int) - 1 = (i : Int) := by omega
    have c1 : (i : Int) ≥ 0 := by omega
    have c2 : (0 : Int) ≤ (i : Int) := by omega
    have c3 : (i : Int) < (vs.length : Int) := by omega
    have c4 : ¬ vs[i].f2 - vs[i].f1 + 1 = 0 := by omega
    have c5 : (i : Int) < (out.length : Int) := by omega
    have w1 : wrap64 ((i : Int) - 1) = (i : Int) - 1 := wrap_id (by omega) (by omega)
    have m0 : 0 ≤ c % (vs[i].f2 - vs[i].f1 + 1) := Int.emod_nonneg _ (by omega)
    have m1 : c % (vs[i].f2 - vs[i].f1 + 1) < vs[i].f2 - vs[i].f1 + 1 := Int.emod_lt_of_pos _ (by omega)
    have q0 : 0 ≤ c / (vs[i].f2 - vs[i].f1 + 1) := Int.ediv_nonneg hc (by omega)
    have q1 : c / (vs[i].f2 - vs[i].f1 + 1) < prodV (vs.take i) := Int.ediv_lt_of_lt_mul (by omega) hlt
    have w2 : wrap64 (c / (vs[i].f2 - vs[i].f1 + 1)) = c / (vs[i].f2 - vs[i].f1 + 1) := wrap_id (by omega) (by omega)
    have w3 : wrap64 (vs[i].f1 + c % (vs[i].f2 - vs[i].f1 + 1)) = vs[i].f1 + c % (vs[i].f2 - vs[i].f1 + 1) := wrap_id (by omega) (by omega)
    refine ev_succ ?_
    rw [e0]
    simp only [model_Values.l0, ↓reduceIte, c1, c2, c3, c4, c5, rdV_get vs i hil, span_wrap hvi, tdiv_of hc, tmod_of hc, w1, w2, w3, Int.toNat_natCast]
    refine ev_eq (ih _ _ (by omega) (by rw [List.length_set]; exact hl) q0 q1 (by omega)) ?_
    rw [hlast, List.append_assoc]
    congr 2
    have hol : i < out.length := by omega
    rw [List.drop_set, if_neg (by omega), Nat.sub_self, List.drop_eq_getElem_cons hol]
    rfl
def valuesS (vs : List PVar) (rs : List PRule) (c : Int) : List Int × Int := if modelS vs rs = 0 then (if c < 0 ∨ prodV vs ≤ c then ([], 9) else (valS vs c, 0)) else ([], modelS vs rs)
theorem values_ev (vs : List PVar) (rs : List PRule) (c : Int) : Ev (fun k => model_Values.f k vs rs c) (valuesS vs rs c) := by
  unfold model_Values.f valuesS
  refine ev_bind (count_ev vs rs) ?_
  unfold countS
  by_cases h : modelS vs rs = 0
  · obtain ⟨ho, hp⟩ := vars_ok (modelS_vars h)
    have hl := modelS_len h
    simp only [h, ↓reduceIte]
    by_cases h1 : c < 0
    · simp only [h1, true_or, ↓reduceIte]
      refine ev_succ ?_
      simp only [model_Values.j0, ↓reduceIte]
      exact Ev.now _
    by_cases h2 : prodV vs ≤ c
    · have d2 : decide (c ≥ prodV vs) = true := decide_eq_true h2
      simp only [h1, h2, d2, or_true, ↓reduceIte]
      refine ev_succ ?_
      simp only [model_Values.j0, ↓reduceIte]
      exact Ev.now _
    have d2 : decide (c ≥ prodV vs) = false := decide_eq_false (by omega)
    simp only [h1, h2, d2, or_self, ↓reduceIte]
    have c1 : (0 : Int) ≤ (vs.length : Int) := by omega
    have c2 : (vs.length : Int).toNat ≤ 35184372088832 := by omega
    have w1 : wrap64 ((vs.length : Int) - 1) = (vs.length : Int) - 1 := wrap_id (by omega) (by omega)
    refine ev_succ ?_
    simp only [model_Values.j0, Bool.false_eq_true, ↓reduceIte, c1, c2, w1]
    have := values_l0 vs rs hl ho vs.length c (List.replicate (vs.length : Int).toNat 0) (Nat.le_refl _) (by simp) (by omega) (by rw [List.take_length]; omega) (by rw [List.take_length]; exact hp)
    rw [List.take_length, List.drop_of_length_le (by simp), List.append_nil] at this
    exact this
  · simp only [h, ↓reduceIte]
    exact Ev.now _
theorem valuesOf_l0 (vs : List PVar) (rs : List PRule) (hv : vs.length ≤ 6) (ho : ∀ v ∈ vs, VOk v) (hp : prodV vs ≤ 4096) (d : Nat) : ∀ (i : Nat) (c : Int) (acc : List Int), i + d = vs.length → acc.length = i → 0 ≤ c → c < prodV (vs.drop i) →
    Ev (fun k => foretellref_ValuesOf.l0 k c acc i vs rs) (acc ++ valS (vs.drop i) c, 0) := by
  induction d with
  | zero =>
    intro i c acc hi ha hc hlt
    rw [List.drop_of_length_le (by omega)]
    have c1 : ¬ (i : Int) < (vs.length : Int) := by omega
    refine ev_succ ?_
    simp only [foretellref_ValuesOf.l0, ↓reduceIte, c1, valS, List.append_nil]
    exact Ev.now _
  | succ d ih =>
    intro i c acc hi ha hc hlt
    have hil : i < vs.length := by omega
    have c1 : (i : Int) < (vs.length : Int) := by omega
    have c2 : (0 : Int) ≤ (i : Int) := by omega
    have c3 : acc.length < 17592186044416 := by omega
    have w1 : wrap64 ((i : Int) + 1) = ((i + 1 : Nat) : Int) := by rw [wrap_id (by omega) (by omega)]; rfl
    have hvi := ho _ (List.getElem_mem hil)
    have hvi' := hvi
    unfold VOk at hvi'
    have hpr := prodV_pos (drop_ok ho (i + 1))
    have hdp := prodV_drop ho i
    have c4 : ¬ prodV (vs.drop (i + 1)) = 0 := by omega
    rw [List.drop_eq_getElem_cons hil] at hlt hdp ⊢
    rw [prodV_cons] at hlt hdp
    have q0 : 0 ≤ c / prodV (vs.drop (i + 1)) := Int.ediv_nonneg hc (by omega)
    have q1 : c / prodV (vs.drop (i + 1)) < vs[i].f2 - vs[i].f1 + 1 := Int.ediv_lt_of_lt_mul (by omega) hlt
    have w2 : wrap64 (c / prodV (vs.drop (i + 1))) = c / prodV (vs.drop (i + 1)) := wrap_id (by omega) (by omega)
    have w3 : wrap64 (vs[i].f1 + c / prodV (vs.drop (i + 1))) = vs[i].f1 + c / prodV (vs.drop (i + 1)) := wrap_id (by omega) (by omega)
    refine ev_succ ?_
    simp only [foretellref_ValuesOf.l0, ↓reduceIte, c1]
    refine ev_bind (behind_ev vs rs hv ho hp (i + 1) (by omega) (i : Int) (by omega)) ?_
    simp only [↓reduceIte, c2, c3, c4, rdV_get vs i hil, tdiv_of hc, tmod_of hc, w1, w2, w3]
    refine ev_eq (ih (i + 1) _ _ (by omega) (by simp [ha]) (Int.emod_nonneg _ (by omega)) (Int.emod_lt_of_pos _ (by omega))) ?_
    rw [List.append_assoc]
    rfl
theorem valuesOf_ev (vs : List PVar) (rs : List PRule) (c : Int) : Ev (fun k => foretellref_ValuesOf.f k vs rs c) (valuesS vs rs c) := by
  unfold foretellref_ValuesOf.f valuesS
  refine ev_bind (stateCount_ev vs rs) ?_
  unfold countS
  by_cases h : modelS vs rs = 0
  · obtain ⟨ho, hp⟩ := vars_ok (modelS_vars h)
    have hl := modelS_len h
    have hpp := prodV_pos ho
    have w1 : wrap64 (prodV vs - 1) = prodV vs - 1 := wrap_id (by omega) (by omega)
    simp only [h, ↓reduceIte, inE_eq, x_bind, w1]
    by_cases h1 : 0 ≤ c ∧ c ≤ prodV vs - 1
    · have d1 : decide (0 ≤ c ∧ c ≤ prodV vs - 1) = true := decide_eq_true h1
      rw [if_neg (show ¬ (c < 0 ∨ prodV vs ≤ c) by omega)]
      simp only [d1, ↓reduceIte]
      exact valuesOf_l0 vs rs hl ho hp vs.length 0 c [] (by omega) rfl h1.1 (by rw [List.drop_zero]; omega)
    · have d1 : decide (0 ≤ c ∧ c ≤ prodV vs - 1) = false := decide_eq_false h1
      rw [if_pos (show c < 0 ∨ prodV vs ≤ c by omega)]
      simp only [d1, Bool.false_eq_true, ↓reduceIte]
      exact Ev.now _
  · simp only [h, ↓reduceIte]
    exact Ev.now _
theorem valuesS_len (vs : List PVar) (rs : List PRule) (c : Int) : (valuesS vs rs c).1.length ≤ 6 := by
  unfold valuesS
  split
  · rename_i h
    split
    · decide
    · show (valS vs c).length ≤ 6
      rw [valS_len]; exact modelS_len h
  · exact Nat.zero_le _
theorem pushS_app (n : Int) (s t : List Int) : pushS n (s ++ t) = (match pushS n t with | .error c => .error c | .ok u => .ok (s ++ u)) := by
  unfold pushS
  split <;> simp
theorem dropLast_app (s t : List Int) (h : 0 < t.length) : (s ++ t).dropLast = s ++ t.dropLast := List.dropLast_append_of_ne_nil (by intro e; rw [e] at h; simp at h)
theorem getLastD_app (s t : List Int) (h : 0 < t.length) : (s ++ t).getLastD 0 = t.getLastD 0 := by
  have hne : t ≠ [] := by intro e; rw [e] at h; simp at h
  rw [List.getLastD_eq_getLast?, List.getLastD_eq_getLast?, List.getLast?_append]
  cases h2 : t.getLast? with
  | none => exact absurd (List.getLast?_eq_none_iff.1 h2) hne
  | some x => rfl
theorem stepS_app (env : List Int) (o : POp) (s t : List Int) (h10 : o.f0 = 10 → 1 ≤ t.length) (h2 : ¬ (o.f0 = 1 ∨ o.f0 = 2 ∨ o.f0 = 11 ∨ o.f0 = 12 ∨ o.f0 = 10) → 2 ≤ t.length) : stepS env o (s ++ t) = (match stepS env o t with | .error c => .error c | .ok u => .ok (s ++ u)) := by
  unfold stepS
  by_cases k1 : o.f0 = 1
  · simp only [if_pos k1]; exact pushS_app _ _ _
  by_cases k2 : o.f0 = 2
  · simp only [if_neg k1, if_pos k2]; exact pushS_app _ _ _
  by_cases k3 : o.f0 = 11
  · simp only [if_neg k1, if_neg k2, if_pos k3]; exact pushS_app _ _ _
  by_cases k4 : o.f0 = 12
  · simp only [if_neg k1, if_neg k2, if_neg k3, if_pos k4]; exact pushS_app _ _ _
  by_cases k5 : o.f0 = 10
  · simp only [if_neg k1, if_neg k2, if_neg k3, if_neg k4, if_pos k5]
    rw [dropLast_app _ _ (h10 k5), getLastD_app _ _ (h10 k5)]
    exact pushS_app _ _ _
  · simp only [if_neg k1, if_neg k2, if_neg k3, if_neg k4, if_neg k5]
    have h := h2 (by omega)
    have hd : 0 < t.dropLast.length := by rw [List.length_dropLast]; omega
    rw [dropLast_app _ _ (by omega), getLastD_app _ _ (by omega), dropLast_app _ _ hd, getLastD_app _ _ hd]
    exact pushS_app _ _ _
theorem run_app (env : List Int) {n : Int} (r : List POp) : ∀ (l : List POp) (m : Nat), (∀ o ∈ l, fitE n o = 0) → scan l m = .ok [] → runS env (l ++ r) = (match runS env r with | .error c => .error c | .ok s => match runS env l with | .error c => .error c | .ok t => .ok (s ++ t))
  | [], m, hf, hs => by
    show runS env r = _
    cases runS env r <;> simp [runS]
  | o :: l, 0, hf, hs => by rw [scan_zero] at hs; cases hs
  | o :: l, m + 1, hf, hs => by
    rw [scan_cons] at hs
    split at hs
    · rename_i hp
      have ih := run_app env r l _ (fun x hx => hf x (List.mem_cons_of_mem _ hx)) hs
      rw [List.cons_append, runS, ih]
      cases hr : runS env r with
      | error c => rfl
      | ok s =>
        cases hl : runS env l with
        | error c => simp [runS, hl]
        | ok t =>
          obtain ⟨k1, k2, k3⟩ := parts_of_kind hp (hf o (by simp))
          obtain ⟨a, _⟩ := run_len env l _ t (fun x hx => hf x (List.mem_cons_of_mem _ hx)) hs hl
          rw [k3] at a
          simp only [runS, hl]
          refine stepS_app env o s t (fun e => ?_) (fun e => ?_)
          · rw [if_neg (by omega), if_pos e] at a; omega
          · rw [if_neg (by omega), if_neg (by omega)] at a; omega
    · cases hs
def res (n : Int) : Int × Int := if -1000000 ≤ n ∧ n ≤ 1000000 then (n, 0) else (0, 8)
def wOf (x : Except Int (List Int)) : Int × Int := match x with | .error c => (0, c) | .ok stk => (stk.getLastD 0, 0)
def workedS (env : List Int) (l : List POp) : Int × Int := wOf (runS env l)
theorem w_push (n : Int) (s : List Int) : wOf (pushS n s) = res n := by
  unfold pushS res
  by_cases c : n < -1000000 ∨ 1000000 < n
  · rw [if_pos c, if_neg (by omega)]; rfl
  · rw [if_neg c, if_pos (by omega)]
    show ((s ++ [n]).getLastD 0, (0 : Int)) = _
    simp
theorem j2_ev (n : Int) (b : Bool) : Ev (fun k => foretellref_worked.j2 k n b) (res (if b = true then 1 else n)) := by
  refine ev_succ ?_
  cases b
  · simp only [foretellref_worked.j2, Bool.false_eq_true, if_false]
    refine ev_call (inE_eq _ _ _) ?_
    unfold res
    by_cases c : -1000000 ≤ n ∧ n ≤ 1000000
    · rw [decide_eq_true c, if_pos c]; exact Ev.now _
    · rw [decide_eq_false c, if_neg c]; exact Ev.now _
  · simp only [foretellref_worked.j2, if_true]
    refine ev_call (inE_eq _ _ _) ?_
    exact Ev.now _
theorem rdT_zero (o : POp) (l : List POp) : rd_T65 (o :: l) 0 = o := rfl
theorem split_of {l : List POp} (h : one l) (hl : l.length ≤ 60) : splitS l = (partsL l, 0) := by unfold splitS; rw [endsS_of_one h hl]; rfl
theorem fin0 (o : POp) (env : List Int) (n : Int) (hf : fitE n o = 0) (hn : n = env.length) (a : arIs o 0) : Ev (fun k => foretellref_worked.l1 k [o] env [] [] (-1)) (wOf (stepS env o [])) := by
  obtain ⟨k1, k2, k3⟩ := parts_of_kind (by have : partsS o.f0 = (((0 : Nat) : Int), 0) := a; rw [this]) hf
  have hk : (partsS o.f0).1.toNat = 0 := by have : partsS o.f0 = (((0 : Nat) : Int), 0) := a; rw [this]; rfl
  rw [hk] at k3
  have hc : o.f0 = 1 ∨ o.f0 = 2 ∨ o.f0 = 11 ∨ o.f0 = 12 := by
    by_cases c : o.f0 = 1 ∨ o.f0 = 2 ∨ o.f0 = 11 ∨ o.f0 = 12
    · exact c
    · rw [if_neg c] at k3
      split at k3 <;> omega
  have hneg : ¬ ((-1 : Int) ≥ 0) := by omega
  have hpos : (0 : Int) < (([o] : List POp).length : Int) := by simp
  refine ev_succ ?_
  unfold stepS
  rcases hc with e | e | e | e
  · simp only [foretellref_worked.l1, ↓reduceIte, hneg, hpos, rdT_zero, e, Int.reduceEq, w_push]
    exact j2_ev _ false
  · have hv : 0 ≤ o.f1 ∧ o.f1 < (env.length : Int) := by
      unfold fitE at hf
      rw [if_neg (by omega), if_neg (by omega), if_pos e] at hf
      split at hf
      · omega
      · cases hf
    simp only [foretellref_worked.l1, ↓reduceIte, hneg, hpos, rdT_zero, e, Int.reduceEq, w_push, hv.1, hv.2]
    exact j2_ev _ false
  · simp only [foretellref_worked.l1, ↓reduceIte, hneg, hpos, rdT_zero, e, Int.reduceEq, w_push]
    exact j2_ev 0 true
  · simp only [foretellref_worked.l1, ↓reduceIte, hneg, hpos, rdT_zero, e, Int.reduceEq, w_push]
    exact j2_ev 0 false
theorem un_kind {o : POp} {n : Int} (hf : fitE n o = 0) (a : arIs o 1) : o.f0 = 10 := by
  have ha : partsS o.f0 = (((1 : Nat) : Int), 0) := a
  obtain ⟨k1, k2, k3⟩ := parts_of_kind (by rw [ha]) hf
  rw [ha] at k3
  by_cases c : o.f0 = 1 ∨ o.f0 = 2 ∨ o.f0 = 11 ∨ o.f0 = 12
  · rw [if_pos c] at k3; cases k3
  · rw [if_neg c] at k3
    by_cases d : o.f0 = 10
    · exact d
    · rw [if_neg d] at k3; cases k3
theorem bin_kind {o : POp} {n : Int} (hf : fitE n o = 0) (a : arIs o 2) : 3 ≤ o.f0 ∧ o.f0 ≤ 9 := by
  have ha : partsS o.f0 = (((2 : Nat) : Int), 0) := a
  obtain ⟨k1, k2, k3⟩ := parts_of_kind (by rw [ha]) hf
  rw [ha] at k3
  by_cases c : o.f0 = 1 ∨ o.f0 = 2 ∨ o.f0 = 11 ∨ o.f0 = 12
  · rw [if_pos c] at k3; cases k3
  · rw [if_neg c] at k3
    by_cases d : o.f0 = 10
    · rw [if_pos d] at k3; cases k3
    · omega
theorem fin1 (o : POp) (p : List POp) (env : List Int) (ps : List (List POp)) (x : Int) (hk : o.f0 = 10) (hx : x = 0 ∨ x = 1) : Ev (fun k => foretellref_worked.l1 k (o :: p) env ps [x] (-1)) (wOf (stepS env o [x])) := by
  have hneg : ¬ ((-1 : Int) ≥ 0) := by omega
  have hpos : (0 : Int) < ((o :: p).length : Int) := by rw [List.length_cons]; omega
  have h1 : (0 : Int) < (([x] : List Int).length : Int) := by simp
  have hr : rd [x] 0 = x := rfl
  refine ev_succ ?_
  unfold stepS
  simp only [foretellref_worked.l1, ↓reduceIte, hneg, hpos, rdT_zero, hk, Int.reduceEq, w_push, h1, hr]
  rcases hx with rfl | rfl
  · exact j2_ev 0 true
  · exact j2_ev 0 false
theorem and01 {a b : Int} (ha : a = 0 ∨ a = 1) (hb : b = 0 ∨ b = 1) : Go.bits .and .i64 a b = (if a = 1 ∧ b = 1 then 1 else 0) ∧ Go.bits .or .i64 a b = (if a = 1 ∨ b = 1 then 1 else 0) := by
  rcases ha with rfl | rfl <;> rcases hb with rfl | rfl <;> decide +kernel
theorem fin2 (o : POp) (p : List POp) (env : List Int) (ps : List (List POp)) (a b : Int) (hk : 3 ≤ o.f0 ∧ o.f0 ≤ 9) (ha : -1000000 ≤ a ∧ a ≤ 1000000) (hb : -1000000 ≤ b ∧ b ≤ 1000000) (h01 : 8 ≤ o.f0 → (a = 0 ∨ a = 1) ∧ (b = 0 ∨ b = 1)) :
    Ev (fun k => foretellref_worked.l1 k (o :: p) env ps [a, b] (-1)) (wOf (stepS env o [b, a])) := by
  have hneg : ¬ ((-1 : Int) ≥ 0) := by omega
  have hpos : (0 : Int) < ((o :: p).length : Int) := by rw [List.length_cons]; omega
  have h1 : (0 : Int) < (([a, b] : List Int).length : Int) := by simp
  have h2 : (1 : Int) < (([a, b] : List Int).length : Int) := by simp
  have hr : rd [a, b] 0 = a := rfl
  have hr1 : rd [a, b] 1 = b := rfl
  have hm : (a * b).natAbs ≤ 1000000 * 1000000 := by rw [Int.natAbs_mul]; exact Nat.mul_le_mul (by omega) (by omega)
  have e1 : wrap64 (a + b) = a + b := wrap_id (by omega) (by omega)
  have e2 : wrap64 (a - b) = a - b := wrap_id (by omega) (by omega)
  have e3 : wrap64 (a * b) = a * b := wrap_id (by omega) (by omega)
  have hs : stepS env o [b, a] = pushS (doVal o.f0 a b) [] := by
    unfold stepS
    rw [if_neg (by omega), if_neg (by omega), if_neg (by omega), if_neg (by omega), if_neg (by omega)]
    rfl
  have ff : ((false : Bool) = true) = False := by simp
  rw [hs, w_push]
  refine ev_succ ?_
  have : o.f0 = 3 ∨ o.f0 = 4 ∨ o.f0 = 5 ∨ o.f0 = 6 ∨ o.f0 = 7 ∨ o.f0 = 8 ∨ o.f0 = 9 := by omega
  rcases this with e | e | e | e | e | e | e
  · simp only [foretellref_worked.l1, ↓reduceIte, hneg, hpos, rdT_zero, e, Int.reduceEq, h1, h2, hr, hr1, e1, doVal]
    exact j2_ev _ false
  · simp only [foretellref_worked.l1, ↓reduceIte, hneg, hpos, rdT_zero, e, Int.reduceEq, h1, h2, hr, hr1, e2, doVal]
    exact j2_ev _ false
  · simp only [foretellref_worked.l1, ↓reduceIte, hneg, hpos, rdT_zero, e, Int.reduceEq, h1, h2, hr, hr1, e3, doVal]
    exact j2_ev _ false
  · simp only [foretellref_worked.l1, ↓reduceIte, hneg, hpos, rdT_zero, e, Int.reduceEq, h1, h2, hr, hr1, doVal]
    refine ev_eq (j2_ev 0 (a == b)) ?_
    by_cases c : a = b
    · rw [if_pos c, if_pos (beq_iff_eq.2 c)]
    · rw [if_neg c, if_neg (by simpa using c)]
  · simp only [foretellref_worked.l1, ↓reduceIte, hneg, hpos, rdT_zero, e, Int.reduceEq, h1, h2, hr, hr1, doVal]
    refine ev_eq (j2_ev 0 (decide (a < b))) ?_
    by_cases c : a < b
    · rw [if_pos c, if_pos (decide_eq_true c)]
    · rw [if_neg c, if_neg (by simpa using c)]
  · obtain ⟨qa, qb⟩ := h01 (by omega)
    simp only [foretellref_worked.l1, ↓reduceIte, hneg, hpos, rdT_zero, e, Int.reduceEq, h1, h2, hr, hr1, doVal, (and01 qa qb).1]
    rcases qa with rfl | rfl
    · simp only [↓reduceIte, Int.reduceEq, false_and]
      exact j2_ev 0 false
    · rcases qb with rfl | rfl
      · exact j2_ev 0 false
      · exact j2_ev 0 true
  · obtain ⟨qa, qb⟩ := h01 (by omega)
    simp only [foretellref_worked.l1, ↓reduceIte, hneg, hpos, rdT_zero, e, Int.reduceEq, h1, h2, hr, hr1, doVal, (and01 qa qb).2]
    rcases qa with rfl | rfl
    · rcases qb with rfl | rfl
      · exact j2_ev 0 false
      · exact j2_ev 0 true
    · simp only [↓reduceIte, true_or]
      exact j2_ev 0 true
def truthy (env : List Int) (l : List POp) : Prop := mkH l = true → ∀ stk, runS env l = .ok stk → stk.getLastD 0 = 0 ∨ stk.getLastD 0 = 1
theorem run_one (env : List Int) {n : Int} {l : List POp} (h1 : one l) (hf : ∀ o ∈ l, fitE n o = 0) {stk : List Int} (h : runS env l = .ok stk) : ∃ x, stk = [x] ∧ -1000000 ≤ x ∧ x ≤ 1000000 := by
  obtain ⟨a, b⟩ := run_len env l 1 stk hf h1 h
  match stk, a with
  | [x], _ => exact ⟨x, rfl, b x (by simp)⟩
theorem run_err_ne (env : List Int) : ∀ (l : List POp) (c : Int), runS env l = .error c → c ≠ 0
  | [], c, h => by cases h
  | o :: l, c, h => by
    unfold runS at h
    split at h
    · rename_i c' hr
      cases h
      exact run_err_ne env l _ hr
    · rename_i s hr
      obtain ⟨n, s', e, _⟩ := stepS_cases env o s
      rw [e] at h
      rw [pushS_err h]
      decide
theorem worked_ev (env : List Int) (n : Int) (hn : n = env.length) : ∀ l, one l → (∀ o ∈ l, fitE n o = 0) → typB l = true → l.length ≤ 60 → Ev (fun k => foretellref_worked.f k l env) (workedS env l) ∧ truthy env l := by
  refine one_ind ?_ ?_ ?_
  · intro o a hf ht hl
    refine ⟨?_, ?_⟩
    · refine ev_succ ?_
      simp only [foretellref_worked.f]
      refine ev_bind (ev_eq (splitOf_ev [o]) (split_of (one_leaf a) (by simp))) ?_
      rw [partsL_leaf a]
      refine ev_succ ?_
      have h0 : ¬ ((0 : Int) < (([] : List (List POp)).length : Int)) := by simp
      have w0 : wrap64 ((([] : List (List POp)).length : Int) - 1) = -1 := by simp [wrap64]
      simp only [foretellref_worked.l0, ↓reduceIte, h0, w0]
      exact fin0 o env n (hf o (by simp)) hn a
    · intro hm stk hs
      have hk : decide (6 ≤ o.f0 ∧ o.f0 ≤ 12) = true := hm
      have hk := of_decide_eq_true hk
      have hfo := hf o (by simp)
      have ha : partsS o.f0 = (((0 : Nat) : Int), 0) := a
      obtain ⟨k1, k2, k3⟩ := parts_of_kind (by rw [ha]) hfo
      rw [ha] at k3
      have hs : stepS env o [] = .ok stk := hs
      by_cases c : o.f0 = 11
      · unfold stepS at hs
        rw [if_neg (by omega), if_neg (by omega), if_pos c] at hs
        obtain ⟨rfl, _⟩ := pushS_ok hs
        exact .inr rfl
      · have c2 : o.f0 = 12 := by
          by_cases d : o.f0 = 1 ∨ o.f0 = 2 ∨ o.f0 = 11 ∨ o.f0 = 12
          · omega
          · rw [if_neg d] at k3
            split at k3 <;> cases k3
        unfold stepS at hs
        rw [if_neg (by omega), if_neg (by omega), if_neg c, if_pos c2] at hs
        obtain ⟨rfl, _⟩ := pushS_ok hs
        exact .inl rfl
  · intro o p a hp ih hf ht hl
    have hfo := hf o (by simp)
    have hfp : ∀ x ∈ p, fitE n x = 0 := fun x hx => hf x (List.mem_cons_of_mem _ hx)
    have hk := un_kind hfo a
    rw [typB_un a hp, fitsAt_zero, partsL_un a hp, Bool.and_eq_true] at ht
    obtain ⟨ht1, ht2⟩ := ht
    have hmk : mkH p = true := by
      have : (mkH p == tk o.f0) = true := by simpa using ht1
      rw [beq_iff_eq.1 this]
      exact decide_eq_true (by omega)
    obtain ⟨ih1, ih2⟩ := ih hfp ht2 (by simp at hl; omega)
    have hrun : runS env (o :: p) = (match runS env p with | .error c => .error c | .ok stk => stepS env o stk) := rfl
    refine ⟨?_, ?_⟩
    · refine ev_succ ?_
      simp only [foretellref_worked.f]
      refine ev_bind (ev_eq (splitOf_ev (o :: p)) (split_of (one_un a hp) hl)) ?_
      rw [partsL_un a hp]
      have h0 : (0 : Int) < (([p] : List (List POp)).length : Int) := by simp
      have h1 : ¬ ((1 : Int) < (([p] : List (List POp)).length : Int)) := by simp
      have w0 : wrap64 (0 + 1) = 1 := by simp [wrap64]
      have w1 : wrap64 ((([p] : List (List POp)).length : Int) - 1) = 0 := by simp [wrap64]
      have w2 : wrap64 (0 - 1) = -1 := by simp [wrap64]
      have l0 : ([] : List Int).length < 17592186044416 := by decide
      have l1 : (0 : Int) < ((([] : List Int) ++ [0]).length : Int) := by decide
      have g0 : (0 : Int) ≥ 0 := by decide
      have gp : rd_L4 [p] 0 = p := rfl
      refine ev_succ (ev_succ ?_)
      simp only [foretellref_worked.l0, ↓reduceIte, h0, h1, w0, w1, l0]
      refine ev_succ ?_
      simp only [foretellref_worked.l1, ↓reduceIte, g0, h0, gp, Int.le_refl]
      refine ev_bind ih1 ?_
      unfold workedS
      rw [hrun]
      cases hr : runS env p with
      | error c =>
        have hc : c ≠ 0 := run_err_ne env p c hr
        simp only [wOf, hc, ↓reduceIte]
        exact Ev.now _
      | ok stk =>
        obtain ⟨x, rfl, hx⟩ := run_one env hp hfp hr
        have hx01 := ih2 hmk _ hr
        have hx01 : x = 0 ∨ x = 1 := hx01
        simp only [wOf, ↓reduceIte, l1, w2]
        exact fin1 o p env [p] x hk hx01
    · intro hm stk hs
      rw [hrun] at hs
      cases hr : runS env p with
      | error c => rw [hr] at hs; cases hs
      | ok s =>
        rw [hr] at hs
        obtain ⟨x, rfl, hx⟩ := run_one env hp hfp hr
        have hx01 : x = 0 ∨ x = 1 := ih2 hmk _ hr
        have hs : stepS env o [x] = .ok stk := hs
        unfold stepS at hs
        rw [if_neg (by omega), if_neg (by omega), if_neg (by omega), if_neg (by omega), if_pos hk] at hs
        obtain ⟨rfl, _⟩ := pushS_ok hs
        show (1 - x = 0 ∨ 1 - x = 1)
        omega
  · intro o p q a hp hq ihp ihq hf ht hl
    have hfo := hf o (by simp)
    have hfp : ∀ x ∈ p, fitE n x = 0 := fun x hx => hf x (by simp [hx])
    have hfq : ∀ x ∈ q, fitE n x = 0 := fun x hx => hf x (by simp [hx])
    have hk := bin_kind hfo a
    rw [typB_bin a hp hq, fitsAt_zero, partsL_bin a hp hq, Bool.and_eq_true, Bool.and_eq_true] at ht
    obtain ⟨ht1, ht2, ht3⟩ := ht
    have hmk : 8 ≤ o.f0 → mkH p = true ∧ mkH q = true := by
      intro h8
      have : (mkH p == tk o.f0) = true ∧ (mkH q == tk o.f0) = true := by simpa using ht1
      rw [beq_iff_eq.1 this.1, beq_iff_eq.1 this.2]
      exact ⟨decide_eq_true (by omega), decide_eq_true (by omega)⟩
    simp at hl
    obtain ⟨ihp1, ihp2⟩ := ihp hfp ht2 (by omega)
    obtain ⟨ihq1, ihq2⟩ := ihq hfq ht3 (by omega)
    have hrun : runS env (o :: (p ++ q)) = (match runS env q with | .error c => .error c | .ok s => match runS env p with | .error c => .error c | .ok t => stepS env o (s ++ t)) := by
      rw [runS, run_app env q p 1 hfp hp]
      cases runS env q with
      | error c => rfl
      | ok s => cases runS env p <;> rfl
    refine ⟨?_, ?_⟩
    · refine ev_succ ?_
      simp only [foretellref_worked.f]
      refine ev_bind (ev_eq (splitOf_ev (o :: (p ++ q))) (split_of (one_bin a hp hq) (by simp; omega))) ?_
      rw [partsL_bin a hp hq]
      have h0 : (0 : Int) < (([p, q] : List (List POp)).length : Int) := by simp
      have h1 : (1 : Int) < (([p, q] : List (List POp)).length : Int) := by simp
      have h2 : ¬ ((2 : Int) < (([p, q] : List (List POp)).length : Int)) := by simp
      have w0 : wrap64 (0 + 1) = 1 := by simp [wrap64]
      have w0' : wrap64 (1 + 1) = 2 := by simp [wrap64]
      have w1 : wrap64 ((([p, q] : List (List POp)).length : Int) - 1) = 1 := by simp [wrap64]
      have w2 : wrap64 (0 - 1) = -1 := by simp [wrap64]
      have w3 : wrap64 (1 - 1) = 0 := by simp [wrap64]
      have l0 : ([] : List Int).length < 17592186044416 := by decide
      have l0' : (([] : List Int) ++ [0]).length < 17592186044416 := by decide
      have l1 : (1 : Int) < ((([] : List Int) ++ [0] ++ [0]).length : Int) := by decide
      have l2 : ∀ b : Int, (0 : Int) < (((([] : List Int) ++ [0] ++ [0]).set (1 : Int).toNat b).length : Int) := fun b => by simp
      have g0 : (0 : Int) ≥ 0 := by decide
      have g1 : (1 : Int) ≥ 0 := by decide
      have g1' : (0 : Int) ≤ 1 := by decide
      have gp : rd_L4 [p, q] 0 = p := rfl
      have gq : rd_L4 [p, q] 1 = q := rfl
      refine ev_succ (ev_succ (ev_succ ?_))
      simp only [foretellref_worked.l0, ↓reduceIte, h0, h1, h2, w0, w0', w1, l0, l0']
      refine ev_succ ?_
      simp only [foretellref_worked.l1, ↓reduceIte, g1, g1', h1, gq]
      refine ev_bind ihq1 ?_
      unfold workedS
      rw [hrun]
      cases hrq : runS env q with
      | error c =>
        have hc : c ≠ 0 := run_err_ne env q c hrq
        simp only [wOf, hc, ↓reduceIte]
        exact Ev.now _
      | ok s =>
        obtain ⟨b, rfl, hb⟩ := run_one env hq hfq hrq
        simp only [wOf, ↓reduceIte, l1, w3]
        refine ev_succ ?_
        simp only [foretellref_worked.l1, ↓reduceIte, g0, h0, gp, Int.le_refl]
        refine ev_bind ihp1 ?_
        unfold workedS
        cases hrp : runS env p with
        | error c =>
          have hc : c ≠ 0 := run_err_ne env p c hrp
          simp only [wOf, hc, ↓reduceIte]
          exact Ev.now _
        | ok t =>
          obtain ⟨x, rfl, hx⟩ := run_one env hp hfp hrp
          simp only [wOf, ↓reduceIte, l2, w2]
          exact fin2 o (p ++ q) env [p, q] x b hk hx hb (fun h8 => ⟨ihp2 (hmk h8).1 _ hrp, ihq2 (hmk h8).2 _ hrq⟩)
    · intro hm stk hs
      rw [hrun] at hs
      cases hrq : runS env q with
      | error c => rw [hrq] at hs; cases hs
      | ok s =>
        cases hrp : runS env p with
        | error c => rw [hrq, hrp] at hs; cases hs
        | ok t =>
          rw [hrq, hrp] at hs
          obtain ⟨b, rfl, hb⟩ := run_one env hq hfq hrq
          obtain ⟨x, rfl, hx⟩ := run_one env hp hfp hrp
          have hs : stepS env o [b, x] = .ok stk := hs
          have hk6 : decide (6 ≤ o.f0 ∧ o.f0 ≤ 12) = true := hm
          have hk6 := of_decide_eq_true hk6
          unfold stepS at hs
          rw [if_neg (by omega), if_neg (by omega), if_neg (by omega), if_neg (by omega), if_neg (by omega)] at hs
          obtain ⟨rfl, _⟩ := pushS_ok hs
          show (doVal o.f0 x b = 0 ∨ doVal o.f0 x b = 1)
          unfold doVal
          rw [if_neg (by omega), if_neg (by omega), if_neg (by omega)]
          by_cases c6 : o.f0 = 6
          · rw [if_pos c6]; split <;> simp
          rw [if_neg c6]
          by_cases c7 : o.f0 = 7
          · rw [if_pos c7]; split <;> simp
          rw [if_neg c7]
          have q1 : x = 0 ∨ x = 1 := ihp2 (hmk (by omega)).1 _ hrp
          have q2 : b = 0 ∨ b = 1 := ihq2 (hmk (by omega)).2 _ hrq
          rw [(and01 q1 q2).1, (and01 q1 q2).2]
          split <;> split <;> simp
theorem evaluated_loop (l : List POp) (env : List Int) (hm : env.length ≤ 6) (h : Ev (fun k => foretellref_worked.f k l env) (workedS env l)) (d : Nat) : ∀ i : Nat, i + d = env.length →
    Ev (fun k => foretellref_Evaluated.l0 k l env i) (if (env.drop i).all inR = true then workedS env l else (0, 2)) := by
  induction d with
  | zero =>
    intro i hi
    rw [List.drop_of_length_le (by omega)]
    refine ev_succ ?_
    simp (disch := omega) only [foretellref_Evaluated.l0, if_neg, List.all_nil, if_true]
    exact ev_bind h (Ev.now _)
  | succ d ih =>
    intro i hi
    have hlt : i < env.length := by omega
    rw [List.drop_eq_getElem_cons hlt, List.all_cons]
    refine ev_succ ?_
    have c1 : (i : Int) < env.length := by omega
    have c2 : (0 : Int) ≤ (i : Int) := by omega
    have w1 : wrap64 ((i : Int) + 1) = (i : Int) + 1 := wrap_id (by omega) (by omega)
    simp only [foretellref_Evaluated.l0, ↓reduceIte, c1, c2, w1, rd_get env i hlt]
    refine ev_call (inE_eq _ _ _) ?_
    by_cases c : -1000000 ≤ env[i] ∧ env[i] ≤ 1000000
    · have hi : inR env[i] = true := decide_eq_true c
      rw [decide_eq_true c, hi, Bool.true_and]
      simp only [↓reduceIte]
      exact ih (i + 1) (by omega)
    · have hi : inR env[i] = false := decide_eq_false c
      rw [decide_eq_false c, hi, Bool.false_and]
      exact Ev.now _
theorem evaluated_ev (l : List POp) (env : List Int) (hm : env.length ≤ 9223372036854775807) : Ev (fun k => foretellref_Evaluated.f k l env) (evalS l env) := by
  unfold foretellref_Evaluated.f evalS
  refine ev_bind (exprChecked_ev l env.length ⟨by omega, by omega⟩) ?_
  by_cases h : (exprS l env.length).2 = 0
  · simp only [if_pos h]
    obtain ⟨⟨e0, e6⟩, h1, h60, hf, ht, _⟩ := exprS_ok h
    have hw := (worked_ev env env.length rfl l h1 hf ht h60).1
    have := evaluated_loop l env (by omega) hw env.length 0 (by omega)
    exact this
  · simp only [if_neg h]
    exact Ev.now _
def yesS (env : List Int) (p : List POp) : Bool := if (evalS p env).2 = 0 then (evalS p env).1 == 1 else false
def letterS (vs : List PVar) (rs : List PRule) (ps : List (List POp)) (c : Int) : List Bool × Int := if propsS vs rs ps = 0 then (if (valuesS vs rs c).2 = 0 then (ps.map (yesS (valuesS vs rs c).1), 0) else ([], (valuesS vs rs c).2)) else ([], propsS vs rs ps)
theorem propsS_len {vs : List PVar} {rs : List PRule} {ps : List (List POp)} (h : propsS vs rs ps = 0) : ps.length ≤ 6 := by
  unfold propsS at h
  split at h
  · split at h <;> omega
  · rename_i h1; exact absurd h h1
theorem letter_l0 (env : List Int) (ps : List (List POp)) (hp : ps.length ≤ 6) (d : Nat) : ∀ (i : Nat) (acc : List Bool), i + d = ps.length → acc.length = ps.length → Ev (fun k => step_Letter.l0 k env acc ps (ps.length : Int) i) (acc.take i ++ (ps.drop i).map (yesS env), 0) := by
  induction d with
  | zero =>
    intro i acc hi ha
    rw [List.drop_of_length_le (by omega), List.take_of_length_le (by omega), List.map_nil, List.append_nil]
    have c1 : ¬ (i : Int) < (ps.length : Int) := by omega
    refine ev_succ ?_
    simp only [step_Letter.l0, ↓reduceIte, c1]
    exact Ev.now _
  | succ d ih =>
    intro i acc hi ha
    have hil : i < ps.length := by omega
    have c1 : (i : Int) < (ps.length : Int) := by omega
    have c2 : (0 : Int) ≤ (i : Int) := by omega
    have c3 : (i : Int) < (acc.length : Int) := by omega
    have w1 : wrap64 ((i : Int) + 1) = ((i + 1 : Nat) : Int) := by rw [wrap_id (by omega) (by omega)]; rfl
    have he : expr_Eval.f ps[i] env = some (evalS ps[i] env) := rfl
    have key : ∀ b : Bool, b = yesS env ps[i] → Ev (fun k => step_Letter.l0 k env (acc.set i b) ps (ps.length : Int) ((i + 1 : Nat) : Int)) (acc.take i ++ (ps.drop i).map (yesS env), 0) := by
      intro b hb
      refine ev_eq (ih (i + 1) (acc.set i b) (by omega) (by rw [List.length_set]; exact ha)) ?_
      rw [List.drop_eq_getElem_cons hil, List.map_cons, ← hb]
      have hlt : i < (acc.set i b).length := by rw [List.length_set]; omega
      rw [List.take_succ_eq_append_getElem hlt, List.getElem_set_self, List.take_set_of_le (Nat.le_refl _), List.append_assoc]
      rfl
    refine ev_succ ?_
    simp only [step_Letter.l0, ↓reduceIte, c1, c2, rdL_get ps i hil, he, x_bind]
    by_cases h : (evalS ps[i] env).2 = 0
    · simp only [h, ↓reduceIte, c3, w1, Int.toNat_natCast]
      exact key _ (by unfold yesS; rw [if_pos h])
    · simp only [h, ↓reduceIte, c3, w1, Int.toNat_natCast]
      exact key _ (by unfold yesS; rw [if_neg h])
theorem letter_ev (vs : List PVar) (rs : List PRule) (ps : List (List POp)) (c : Int) : Ev (fun k => step_Letter.f k vs rs ps c) (letterS vs rs ps c) := by
  unfold step_Letter.f letterS
  refine ev_bind (props_ev vs rs ps) ?_
  by_cases h : propsS vs rs ps = 0
  · have hp := propsS_len h
    simp only [h, ↓reduceIte]
    refine ev_bind (values_ev vs rs c) ?_
    by_cases h2 : (valuesS vs rs c).2 = 0
    · have c1 : (0 : Int) ≤ (ps.length : Int) := by omega
      have c2 : (ps.length : Int).toNat ≤ 281474976710656 := by omega
      simp only [h2, c1, c2, ↓reduceIte]
      exact letter_l0 _ ps hp ps.length 0 _ (by omega) (by simp)
    · simp only [h2, ↓reduceIte]
      exact Ev.now _
  · simp only [h, ↓reduceIte]
    exact Ev.now _
theorem letterOf_l0 (env : List Int) (he : env.length ≤ 6) (ps : List (List POp)) (hp : ps.length ≤ 6) (d : Nat) : ∀ (i : Nat), i + d = ps.length → Ev (fun k => foretellref_LetterOf.l0 k ps env ((ps.take i).map (yesS env)) i) (ps.map (yesS env), 0) := by
  induction d with
  | zero =>
    intro i hi
    rw [List.take_of_length_le (by omega)]
    have c1 : ¬ (i : Int) < (ps.length : Int) := by omega
    refine ev_succ ?_
    simp only [foretellref_LetterOf.l0, ↓reduceIte, c1]
    exact Ev.now _
  | succ d ih =>
    intro i hi
    have hil : i < ps.length := by omega
    have c1 : (i : Int) < (ps.length : Int) := by omega
    have c2 : (0 : Int) ≤ (i : Int) := by omega
    have c3 : ((ps.take i).map (yesS env)).length < 140737488355328 := by rw [List.length_map, List.length_take]; omega
    have w1 : wrap64 ((i : Int) + 1) = ((i + 1 : Nat) : Int) := by rw [wrap_id (by omega) (by omega)]; rfl
    have h := ih (i + 1) (by omega)
    rw [List.take_succ_eq_append_getElem hil, List.map_append, List.map_cons, List.map_nil] at h
    refine ev_succ ?_
    simp only [foretellref_LetterOf.l0, ↓reduceIte, c1, c2, rdL_get ps i hil]
    refine ev_bind (evaluated_ev ps[i] env (by omega)) ?_
    by_cases h2 : (evalS ps[i] env).2 = 0
    · have e : yesS env ps[i] = ((evalS ps[i] env).1 == 1) := by unfold yesS; rw [if_pos h2]
      rw [e] at h
      simp only [h2, c3, w1, ↓reduceIte]
      exact h
    · have e : yesS env ps[i] = false := by unfold yesS; rw [if_neg h2]
      rw [e] at h
      simp only [h2, c3, w1, ↓reduceIte]
      exact h
theorem letterOf_ev (vs : List PVar) (rs : List PRule) (ps : List (List POp)) (c : Int) : Ev (fun k => foretellref_LetterOf.f k vs rs ps c) (letterS vs rs ps c) := by
  unfold foretellref_LetterOf.f letterS
  refine ev_bind (propsFault_ev vs rs ps) ?_
  by_cases h : propsS vs rs ps = 0
  · have hp := propsS_len h
    simp only [h, ↓reduceIte]
    refine ev_bind (valuesOf_ev vs rs c) ?_
    by_cases h2 : (valuesS vs rs c).2 = 0
    · simp only [h2, ↓reduceIte]
      exact letterOf_l0 _ (valuesS_len vs rs c) ps hp ps.length 0 (by omega)
    · simp only [h2, ↓reduceIte]
      exact Ev.now _
  · simp only [h, ↓reduceIte]
    exact Ev.now _
theorem aheadOf_loop (l : List POp) (hl : l.length ≤ 1000000) (d : Nat) : ∀ (i : Nat) (acc : List Int), i + d = l.length → acc.length ≤ i → Ev (fun k => foretellref_AheadOf.l0 k l acc i) (acc ++ aheadL (l.drop i) i, 0) := by
  induction d with
  | zero =>
    intro i acc hi ha
    rw [List.drop_of_length_le (by omega)]
    exact ev_now (fun k => by simp (disch := omega) only [foretellref_AheadOf.l0, if_neg, aheadL, List.append_nil])
  | succ d ih =>
    intro i acc hi ha
    have hlt : i < l.length := by omega
    have hg : rd_T65 l i = l[i] := getD_get _ _ _ hlt
    rw [List.drop_eq_getElem_cons hlt]
    unfold aheadL
    by_cases h : ahd l[i].f0 = true
    · rw [if_pos h]
      refine Ev.step (fun k => ?_) (ev_eq (ih (i + 1) (acc ++ [(i : Int)]) (by omega) (by simp; omega)) (by simp))
      simp (disch := omega) only [foretellref_AheadOf.l0, if_pos, hg, looksAhead_eq, h, Option.bind_some, wrap_id]
      rfl
    · rw [if_neg h]
      refine Ev.step (fun k => ?_) (ih (i + 1) acc (by omega) (by omega))
      simp (disch := omega) only [foretellref_AheadOf.l0, if_pos, hg, looksAhead_eq, if_neg h, Option.bind_some, wrap_id]
      rfl
theorem aheadOf_ev (l : List POp) (n : Int) : Ev (fun k => foretellref_AheadOf.f k l n) (aheadS l n) := by
  unfold foretellref_AheadOf.f aheadS
  refine ev_bind (formulaFault_ev l n) ?_
  by_cases h : checkS l n = 0
  · simp only [if_pos h]
    exact aheadOf_loop l (by have := (checkS_ok h).2.2.1; omega) l.length 0 [] (by omega) (by simp)
  · simp only [if_neg h]
    exact Ev.now _
end Go.Proofs.YthffpjkkmkjplaaDoor.Pure
namespace Go.Proofs.YthffpjkkmkjplaaDoor.Pure
open Go.RowKit Go.Proofs.YthffpjkkmkjplaaDoor Go.Proofs.YthffpjkkmkjplaaDoor.S Go.Proofs.YthffpjkkmkjplaaDoor.Base Go.Proofs.YthffpjkkmkjplaaDoorW.PrintWords Go.Proofs.YthffpjkkmkjplaaDoorW.PrintLast Go.Proofs.YthffpjkkmkjplaaDoorW.PrintMore
set_option linter.unusedVariables false
theorem secondAt_ev {l : List POp} (h1 : one l) (hl : l.length ≤ 60) (i : Nat) (hi : i < l.length) (ha : arIs l[i] 2) : Ev (fun k => foretellref_secondAt.f k l (i : Int)) ((i + 1 + (endAt (l.drop (i + 1)) 0).toNat : Nat) : Int) := by
  obtain ⟨h2, h3, h4, h5⟩ := second_at h1 i hi ha
  unfold foretellref_secondAt.f
  rw [show wrap64 ((i : Int) + 1) = ((i + 1 : Nat) : Int) by rw [wrap_id (by omega) (by omega)]; rfl]
  refine ev_bind (endOf_ev l (by omega) (i + 1) (by omega)) (ev_eq (Ev.now _) ?_)
  obtain ⟨r, hr⟩ := one_places l h1 (i + 1) h2
  have e : endAt l (i + 1) = (l.length : Int) - r.length := by unfold endAt; rw [hr]
  rw [hr]
  show (l.length : Int) - r.length = _
  omega
end Go.Proofs.YthffpjkkmkjplaaDoor.Pure
namespace Go.Proofs.YthffpjkkmkjplaaDoor.Pure
open Go.RowKit Go.Proofs.YthffpjkkmkjplaaDoor Go.Proofs.YthffpjkkmkjplaaDoor.S Go.Proofs.YthffpjkkmkjplaaDoor.Base Go.Proofs.YthffpjkkmkjplaaDoorW.PrintWords Go.Proofs.YthffpjkkmkjplaaDoorW.PrintLast Go.Proofs.YthffpjkkmkjplaaDoorW.PrintMore
set_option linter.unusedVariables false
set_option linter.unusedSimpArgs false
theorem aheadL_ge : ∀ (l : List POp) (b : Nat) (p : Int), p ∈ aheadL l b → (b : Int) ≤ p
  | [], b, p, h => by simp [aheadL] at h
  | o :: l, b, p, h => by
    unfold aheadL at h
    split at h
    · rcases List.mem_cons.1 h with rfl | h
      · exact Int.le_refl _
      · have := aheadL_ge l (b + 1) p h; omega
    · have := aheadL_ge l (b + 1) p h; omega
theorem aheadL_get : ∀ (l : List POp) (i b : Nat) (h : i < l.length), ahd l[i].f0 = true → (aheadL l b)[cA (l.take i)]? = some ((b + i : Nat) : Int)
  | o :: l, 0, b, h, ha => by
    have ha : ahd o.f0 = true := ha
    simp [aheadL, cA, ha]
  | o :: l, i + 1, b, h, ha => by
    have ih := aheadL_get l i (b + 1) (by simpa using h) (by simpa using ha)
    unfold aheadL
    rw [List.take_succ_cons, cA]
    by_cases c : ahd o.f0 = true
    · rw [if_pos c, if_pos c, Nat.add_comm 1, List.getElem?_cons_succ, ih]
      congr 2; omega
    · rw [if_neg c, if_neg c, Nat.zero_add, ih]
      congr 2; omega
theorem aheadL_inj : ∀ (l : List POp) (j i b : Nat), (aheadL l b)[j]? = some ((b + i : Nat) : Int) → j = cA (l.take i)
  | [], j, i, b, h => by simp [aheadL] at h
  | o :: l, j, i, b, h => by
    unfold aheadL at h
    by_cases c : ahd o.f0 = true
    · rw [if_pos c] at h
      cases j with
      | zero =>
        simp at h
        obtain rfl : i = 0 := by omega
        rfl
      | succ j =>
        rw [List.getElem?_cons_succ] at h
        have hge := aheadL_ge l (b + 1) _ (List.mem_of_getElem? h)
        cases i with
        | zero => omega
        | succ i =>
          have := aheadL_inj l j i (b + 1) (by rw [h]; congr 2; omega)
          rw [List.take_succ_cons, cA, if_pos c]
          omega
    · rw [if_neg c] at h
      have hge := aheadL_ge l (b + 1) _ (List.mem_of_getElem? h)
      cases i with
      | zero => omega
      | succ i =>
        have := aheadL_inj l j i (b + 1) (by rw [h]; congr 2; omega)
        rw [List.take_succ_cons, cA, if_neg c]
        omega
theorem trS_drop (letter : List Bool) (claim : Int) : ∀ (l : List POp) (c i : Nat), i ≤ l.length → (trS letter claim l c).drop i = trS letter claim (l.drop i) (c + cA (l.take i))
  | l, c, 0, h => by simp [cA]
  | [], c, i + 1, h => by simp at h
  | o :: l, c, i + 1, h => by
    rw [trS, List.drop_succ_cons, List.drop_succ_cons, trS_drop letter claim l _ i (by simpa using h), List.take_succ_cons, cA]
    congr 1
    omega
theorem trS_at (letter : List Bool) (claim : Int) (l : List POp) (i : Nat) (hi : i < l.length) : (trS letter claim l 0).getD i false =
    (if l[i].f0 = 13 then letter.getD l[i].f1.toNat false
     else if l[i].f0 = 11 then true
     else if l[i].f0 = 12 then false
     else if l[i].f0 = 10 then !((trS letter claim l 0).getD (i + 1) false)
     else if l[i].f0 = 8 then ((trS letter claim l 0).getD (i + 1) false && (trS letter claim l 0).getD (i + 1 + (endAt (l.drop (i + 1)) 0).toNat) false)
     else if l[i].f0 = 9 then ((trS letter claim l 0).getD (i + 1) false || (trS letter claim l 0).getD (i + 1 + (endAt (l.drop (i + 1)) 0).toNat) false)
     else decide (claim / 2 ^ cA (l.take i) % 2 = 1)) := by
  have h1 := trS_drop letter claim l 0 i (by omega)
  have h2 := trS_drop letter claim l 0 (i + 1) (by omega)
  have g : ∀ m, (trS letter claim l 0).getD (i + 1 + m) false = (trS letter claim (l.drop (i + 1)) (cA (l.take i) + if ahd l[i].f0 then 1 else 0)).getD m false := by
    intro m
    have e : (0 + cA (l.take (i + 1))) = cA (l.take i) + if ahd l[i].f0 then 1 else 0 := by rw [cA_take l i hi]; omega
    rw [e] at h2
    rw [← h2, List.getD_eq_getElem?_getD, List.getD_eq_getElem?_getD, List.getElem?_drop]
  have g0 := g 0
  rw [Nat.add_zero] at g0
  have h3 : (trS letter claim l 0).getD i false = ((trS letter claim l 0).drop i).getD 0 false := by
    rw [List.getD_eq_getElem?_getD, List.getD_eq_getElem?_getD, List.getElem?_drop, Nat.add_zero]
  rw [h3, h1, List.drop_eq_getElem_cons hi, trS, g0, g, Nat.zero_add]
  rfl
theorem places_loop (ps : List Int) (hps : ps.length ≤ 1000) (a : Int) (j : Nat) (hj : ps[j]? = some a) (hne : ∀ i, i < j → ps[i]? ≠ some a) (d : Nat) : ∀ (i : Nat) (c : Int), i + d = j → 0 ≤ c → c ≤ 1000000 → Ev (fun k => foretellref_truthAt.l0 k a ps c i) (decide (c / 2 ^ d % 2 = 1)) := by
  obtain ⟨hjl, hje⟩ := List.getElem?_eq_some_iff.1 hj
  induction d with
  | zero =>
    intro i c hi h0 h1
    obtain rfl : i = j := by omega
    refine ev_now (fun k => ?_)
    have hg : rd ps (i : Int) = a := by rw [rd_get _ _ hjl, hje]
    simp (disch := omega) only [foretellref_truthAt.l0, if_pos, hg, tmod_of]
    rw [Int.pow_zero, Int.ediv_one]
    congr 1
  | succ d ih =>
    intro i c hi h0 h1
    have hlt : i < ps.length := by omega
    have hg : ¬ rd ps (i : Int) = a := by
      rw [rd_get _ _ hlt]
      intro e
      exact hne i (by omega) (by rw [List.getElem?_eq_getElem hlt, e])
    refine Ev.step (fun k => ?_) (ev_eq (ih (i + 1) (c / 2) (by omega) (by omega) (by omega)) ?_)
    · simp (disch := omega) only [foretellref_truthAt.l0, if_pos, if_neg hg, tdiv_of, wrap_id]
      rfl
    · rw [Int.ediv_ediv_of_nonneg (by omega), Int.pow_succ, Int.mul_comm]
theorem kind_cases {l : List POp} {n : Int} (h1 : one l) (i : Nat) (hi : i < l.length) (hf : fit n l[i] = 0) :
    (l[i].f0 = 13 ∧ 0 ≤ l[i].f1 ∧ l[i].f1 < n) ∨ l[i].f0 = 11 ∨ l[i].f0 = 12 ∨ (l[i].f0 = 10 ∧ arIs l[i] 1) ∨ (l[i].f0 = 8 ∧ arIs l[i] 2) ∨ (l[i].f0 = 9 ∧ arIs l[i] 2) ∨ (14 ≤ l[i].f0 ∧ l[i].f0 ≤ 18) := by
  obtain ⟨rr, hrr⟩ := one_places l h1 i hi
  rw [List.drop_eq_getElem_cons hi, scan_cons] at hrr
  have hp : ¬ (l[i].f0 < 1 ∨ 18 < l[i].f0) := by
    intro hc
    have e : (partsS l[i].f0).2 = 13 := by unfold partsS; rw [if_pos hc]
    rw [e] at hrr
    simp at hrr
  unfold fit at hf
  have h8 : ¬ l[i].f0 < 8 := by
    intro hc
    rw [if_pos hc] at hf
    cases hf
  rw [if_neg h8] at hf
  by_cases k13 : l[i].f0 = 13
  · rw [if_pos k13] at hf
    split at hf
    · cases hf
    · exact .inl ⟨k13, by omega, by omega⟩
  have : l[i].f0 = 8 ∨ l[i].f0 = 9 ∨ l[i].f0 = 10 ∨ l[i].f0 = 11 ∨ l[i].f0 = 12 ∨ (14 ≤ l[i].f0 ∧ l[i].f0 ≤ 18) := by omega
  rcases this with e | e | e | e | e | e
  · exact .inr (.inr (.inr (.inr (.inl ⟨e, by unfold arIs; rw [e]; decide⟩))))
  · exact .inr (.inr (.inr (.inr (.inr (.inl ⟨e, by unfold arIs; rw [e]; decide⟩)))))
  · exact .inr (.inr (.inr (.inl ⟨e, by unfold arIs; rw [e]; decide⟩)))
  · exact .inr (.inl e)
  · exact .inr (.inr (.inl e))
  · exact .inr (.inr (.inr (.inr (.inr (.inr e)))))
theorem cA_take_le (l : List POp) (i : Nat) : cA (l.take i) ≤ cA l := by
  have := cA_append (l.take i) (l.drop i)
  rw [List.take_append_drop] at this
  omega
theorem pow_cA {l : List POp} (h : cA l ≤ 6) : (2 : Int) ^ cA l ≤ 64 := by
  have : cA l = 0 ∨ cA l = 1 ∨ cA l = 2 ∨ cA l = 3 ∨ cA l = 4 ∨ cA l = 5 ∨ cA l = 6 := by omega
  rcases this with e | e | e | e | e | e | e <;> (rw [e]; decide)
theorem truthAt_ev {l : List POp} {letter : List Bool} {claim : Int} (hc : checkS l letter.length = 0) (h0 : 0 ≤ claim) (h1 : claim ≤ 64) (d : Nat) : ∀ i : Nat, i < l.length → l.length - i ≤ d →
    Ev (fun k => foretellref_truthAt.f k l (i : Int) letter (aheadL l 0) claim) ((trS letter claim l 0).getD i false) := by
  obtain ⟨q1, q2, q3, q4⟩ := checkS_ok hc
  obtain ⟨q5, q6⟩ := checkS_fit hc
  have hpl := aheadL_le l 0
  induction d with
  | zero => intro i hi hd; omega
  | succ d ih =>
    intro i hi hd
    have hg : rd_T65 l (i : Int) = l[i] := getD_get _ _ _ hi
    rw [trS_at letter claim l i hi]
    have w1 : wrap64 ((i : Int) + 1) = ((i + 1 : Nat) : Int) := by rw [wrap_id (by omega) (by omega)]; rfl
    rcases kind_cases q2 i hi (q6 l[i] (List.getElem_mem hi)) with ⟨e, e1, e2⟩ | e | e | ⟨e, ha⟩ | ⟨e, ha⟩ | ⟨e, ha⟩ | ⟨e1, e2⟩
    · refine ev_now (fun k => ?_)
      simp (disch := omega) only [foretellref_truthAt.f, if_pos, hg]
      rfl
    · refine ev_now (fun k => ?_)
      simp (disch := omega) only [foretellref_truthAt.f, if_pos, if_neg, hg]
    · refine ev_now (fun k => ?_)
      simp (disch := omega) only [foretellref_truthAt.f, if_pos, if_neg, hg]
    · have hi1 := first_at q2 i hi 0 ha
      refine Ev.step (f := fun k => (foretellref_truthAt.f k l ((i + 1 : Nat) : Int) letter (aheadL l 0) claim).bind fun t => some (!t)) (fun k => ?_) (ev_bind (ih (i + 1) hi1 (by omega)) (ev_eq (Ev.now _) ?_))
      · simp (disch := omega) only [foretellref_truthAt.f, if_pos, if_neg, hg, w1]
      · simp (disch := omega) only [if_pos, if_neg]
    · obtain ⟨s1, s2, s3, s4⟩ := second_at q2 i hi ha
      refine Ev.step (f := fun k => foretellref_truthAt.j0 k l (i : Int) letter (aheadL l 0) claim true) (fun k => ?_) ?_
      · simp (disch := omega) only [foretellref_truthAt.f, if_pos, if_neg, hg]
        rw [beq_iff_eq.2 e]
      refine Ev.step (f := fun k => (foretellref_truthAt.f k l ((i + 1 : Nat) : Int) letter (aheadL l 0) claim).bind fun a => (foretellref_secondAt.f k l (i : Int)).bind fun s => (foretellref_truthAt.f k l s letter (aheadL l 0) claim).bind fun b => some (a && b)) (fun k => ?_) ?_
      · simp (disch := omega) only [foretellref_truthAt.j0, if_pos, if_neg, if_true, hg, w1]
        congr 1; funext a; congr 1; funext s; congr 1; funext b
        cases a <;> cases b <;> simp
      refine ev_bind (ih (i + 1) s1 (by omega)) (ev_bind (secondAt_ev q2 q3 i hi ha) (ev_bind (ih _ (by omega) (by omega)) (ev_eq (Ev.now _) ?_)))
      simp (disch := omega) only [if_pos, if_neg]
    · obtain ⟨s1, s2, s3, s4⟩ := second_at q2 i hi ha
      refine Ev.step (f := fun k => foretellref_truthAt.j0 k l (i : Int) letter (aheadL l 0) claim true) (fun k => ?_) ?_
      · simp (disch := omega) only [foretellref_truthAt.f, if_pos, if_neg, hg]
        rw [beq_iff_eq.2 e]
      refine Ev.step (f := fun k => (foretellref_truthAt.f k l ((i + 1 : Nat) : Int) letter (aheadL l 0) claim).bind fun a => (foretellref_secondAt.f k l (i : Int)).bind fun s => (foretellref_truthAt.f k l s letter (aheadL l 0) claim).bind fun b => some (a || b)) (fun k => ?_) ?_
      · simp (disch := omega) only [foretellref_truthAt.j0, if_pos, if_neg, if_true, hg, w1]
        congr 1; funext a; congr 1; funext s; congr 1; funext b
        cases a <;> cases b <;> simp
      refine ev_bind (ih (i + 1) s1 (by omega)) (ev_bind (secondAt_ev q2 q3 i hi ha) (ev_bind (ih _ (by omega) (by omega)) (ev_eq (Ev.now _) ?_)))
      simp (disch := omega) only [if_pos, if_neg]
    · have hah : ahd l[i].f0 = true := decide_eq_true ⟨e1, e2⟩
      have e9 : (l[i].f0 == 9) = false := by rw [beq_eq_false_iff_ne]; omega
      have hcle := cA_take_le l i
      refine Ev.step (f := fun k => foretellref_truthAt.j0 k l (i : Int) letter (aheadL l 0) claim false) (fun k => ?_) ?_
      · simp (disch := omega) only [foretellref_truthAt.f, if_pos, if_neg, hg, e9]
      refine Ev.step (f := fun k => foretellref_truthAt.l0 k (i : Int) (aheadL l 0) claim 0) (fun k => ?_) ?_
      · simp (disch := omega) only [foretellref_truthAt.j0, Bool.false_eq_true, if_false]
      refine ev_eq (places_loop (aheadL l 0) (by omega) (i : Int) (cA (l.take i)) ?_ ?_ (cA (l.take i)) 0 claim (by omega) h0 (by omega)) ?_
      · have := aheadL_get l i 0 hi hah
        rw [Nat.zero_add] at this
        exact this
      · intro j hj hc
        have := aheadL_inj l j i 0 (by rw [Nat.zero_add]; exact hc)
        omega
      · simp (disch := omega) only [if_neg]
theorem most_loop (l : List POp) (letter : List Bool) (claim : Int) (ps : List Int) (hps : ps.length ≤ 6) (r : List Bool × Int) (h : Ev (fun k => (foretellref_In.f claim 0 (2 ^ ps.length - 1)).bind fun t => (if t = true then (foretellref_TruthsOf.l1 k l letter claim ps ([] : List Bool) 0) else (some (([] : List Bool), 2)))) r) (d : Nat) :
    ∀ i : Nat, i + d = ps.length → Ev (fun k => foretellref_TruthsOf.l0 k l letter claim ps (2 ^ i) i) r := by
  have hp : ∀ i : Nat, i ≤ 6 → (1 : Int) ≤ 2 ^ i ∧ (2 : Int) ^ i ≤ 64 := by
    intro i hi
    have : i = 0 ∨ i = 1 ∨ i = 2 ∨ i = 3 ∨ i = 4 ∨ i = 5 ∨ i = 6 := by omega
    rcases this with e | e | e | e | e | e | e <;> (rw [e]; decide)
  induction d with
  | zero =>
    intro i hi
    obtain rfl : i = ps.length := by omega
    refine Ev.step (fun k => ?_) h
    have := hp ps.length hps
    simp (disch := omega) only [foretellref_TruthsOf.l0, if_neg, wrap_id]
  | succ d ih =>
    intro i hi
    refine Ev.step (fun k => ?_) (ih (i + 1) (by omega))
    have := hp i (by omega)
    simp (disch := omega) only [foretellref_TruthsOf.l0, if_pos, wrap_id]
    rw [Int.pow_succ]
    rfl
theorem truths_loop {l : List POp} {letter : List Bool} {claim : Int} (hc : checkS l letter.length = 0) (h0 : 0 ≤ claim) (h1 : claim ≤ 64) (d : Nat) : ∀ i : Nat, i + d = l.length →
    Ev (fun k => foretellref_TruthsOf.l1 k l letter claim (aheadL l 0) ((trS letter claim l 0).take i) i) (trS letter claim l 0, 0) := by
  have q3 := (checkS_ok hc).2.2.1
  have hlen := trS_len letter claim l 0
  induction d with
  | zero =>
    intro i hi
    refine ev_now (fun k => ?_)
    simp (disch := omega) only [foretellref_TruthsOf.l1, if_neg]
    rw [List.take_of_length_le (by omega)]
  | succ d ih =>
    intro i hi
    refine Ev.step (f := fun k => (foretellref_truthAt.f k l (i : Int) letter (aheadL l 0) claim).bind fun t => foretellref_TruthsOf.l1 k l letter claim (aheadL l 0) ((trS letter claim l 0).take i ++ [t]) ((i + 1 : Nat) : Int)) (fun k => ?_) (ev_bind (truthAt_ev hc h0 h1 l.length i (by omega) (by omega)) (ev_eq (g := fun k => foretellref_TruthsOf.l1 k l letter claim (aheadL l 0) ((trS letter claim l 0).take i ++ [(trS letter claim l 0).getD i false]) ((i + 1 : Nat) : Int)) ?_ rfl))
    · have : ((trS letter claim l 0).take i).length < 140737488355328 := by rw [List.length_take]; omega
      simp (disch := omega) only [foretellref_TruthsOf.l1, if_pos, wrap_id]
      rfl
    · have e : (trS letter claim l 0).take i ++ [(trS letter claim l 0).getD i false] = (trS letter claim l 0).take (i + 1) := by
        rw [List.take_succ_eq_append_getElem (by omega)]
        simp [show i < (trS letter claim l 0).length by omega]
      rw [e]
      exact ih (i + 1) (by omega)
theorem truthsOf_ev (l : List POp) (letter : List Bool) (claim : Int) : Ev (fun k => foretellref_TruthsOf.f k l letter claim) (truthsS l letter claim) := by
  unfold foretellref_TruthsOf.f truthsS
  refine ev_bind (aheadOf_ev l letter.length) ?_
  unfold aheadS
  by_cases hc : checkS l letter.length = 0
  · simp only [if_pos hc, if_true]
    have q5 := (checkS_fit hc).1
    have hal := aheadL_cA l 0
    refine most_loop l letter claim (aheadL l 0) (by omega) _ ?_ (aheadL l 0).length 0 (by omega)
    rw [hal]
    refine ev_call (in_eq _ _ _) ?_
    by_cases h : 0 ≤ claim ∧ claim < 2 ^ cA l
    · rw [if_pos h, decide_eq_true (by omega)]
      simp only [if_true]
      exact truths_loop hc h.1 (by exact Int.le_of_lt (Int.lt_of_lt_of_le h.2 (pow_cA q5))) l.length 0 (by omega)
    · rw [if_neg h, decide_eq_false (by omega)]
      simp only [Bool.false_eq_true, if_false]
      exact Ev.now _
  · simp only [if_neg hc]
    exact Ev.now _
end Go.Proofs.YthffpjkkmkjplaaDoor.Pure
namespace Go.Proofs.YthffpjkkmkjplaaDoor.Pure
open Go.RowKit Go.Proofs.YthffpjkkmkjplaaDoorW.PrintWords Go.Proofs.YthffpjkkmkjplaaDoorW.PrintLast Go.Proofs.YthffpjkkmkjplaaDoorW.PrintMore
set_option linter.unusedVariables false
def pw (b : Nat) : Int := 2 ^ b
theorem pw_succ (b : Nat) : pw (b + 1) = pw b * 2 := Int.pow_succ 2 b
theorem pw_bd {b : Nat} (h : b ≤ 6) : 1 ≤ pw b ∧ pw b ≤ 64 := by
  have : b = 0 ∨ b = 1 ∨ b = 2 ∨ b = 3 ∨ b = 4 ∨ b = 5 ∨ b = 6 := by omega
  rcases this with e | e | e | e | e | e | e <;> (rw [e]; decide)
end Go.Proofs.YthffpjkkmkjplaaDoor.Pure
namespace Go.Proofs.YthffpjkkmkjplaaDoor.Pure
open Go.RowKit Go.Proofs.YthffpjkkmkjplaaDoor Go.Proofs.YthffpjkkmkjplaaDoor.S Go.Proofs.YthffpjkkmkjplaaDoor.Base Go.Proofs.YthffpjkkmkjplaaDoorW.PrintWords Go.Proofs.YthffpjkkmkjplaaDoorW.PrintLast Go.Proofs.YthffpjkkmkjplaaDoorW.PrintMore
set_option linter.unusedVariables false
set_option linter.unusedSimpArgs false
theorem encR_init : ∀ vs : List PVar, (∀ v ∈ vs, VOk v) → ∃ n, encR vs (vs.map (·.f3)) = some n
  | [], _ => ⟨0, rfl⟩
  | v :: vs, h => by
    obtain ⟨n, hn⟩ := encR_init vs (fun u hu => h u (List.mem_cons_of_mem _ hu))
    have hv := h v List.mem_cons_self
    unfold VOk at hv
    refine ⟨(v.f3 - v.f1) * prodV vs + n, ?_⟩
    rw [List.map_cons, encR, if_neg (by omega), hn]
    rfl
theorem firstS_ok {vs : List PVar} {rs : List PRule} (h : modelS vs rs = 0) : ∃ n, firstS vs rs = (n, 0) ∧ 0 ≤ n ∧ n < prodV vs := by
  obtain ⟨ho, hp⟩ := vars_ok (modelS_vars h)
  obtain ⟨n, hn⟩ := encR_init vs ho
  have hb := encR_bd vs (vs.map (·.f3)) ho (by rw [List.length_map]) n hn
  refine ⟨n, ?_, hb⟩
  unfold firstS codeS
  rw [if_pos h, if_pos (by rw [List.length_map]), hn]
  simp [encP]
theorem propsS_model {vs : List PVar} {rs : List PRule} {ps : List (List POp)} (h : propsS vs rs ps = 0) : modelS vs rs = 0 := by
  unfold propsS at h
  by_cases hc : modelS vs rs = 0
  · exact hc
  · rw [if_neg hc] at h; exact absurd h hc
theorem taskS_ok {vs : List PVar} {rs : List PRule} {ps : List (List POp)} {f : List POp} (h : taskS vs rs ps f = 0) : modelS vs rs = 0 ∧ propsS vs rs ps = 0 ∧ checkS f (ps.length : Int) = 0 := by
  unfold taskS at h
  by_cases hc : propsS vs rs ps = 0
  · rw [if_pos hc] at h; exact ⟨propsS_model hc, hc, h⟩
  · rw [if_neg hc] at h; exact absurd h hc
theorem letterS_ok {vs : List PVar} {rs : List PRule} {ps : List (List POp)} {c : Int} (h : propsS vs rs ps = 0) (h0 : 0 ≤ c) (h1 : c < prodV vs) : (letterS vs rs ps c).1.length = ps.length ∧ (letterS vs rs ps c).2 = 0 := by
  have hm := propsS_model h
  have hv : (valuesS vs rs c).2 = 0 := by
    unfold valuesS
    rw [if_pos hm, if_neg (by omega)]
  unfold letterS
  rw [if_pos h, if_pos hv]
  exact ⟨by simp, rfl⟩
abbrev PSpot := S73
def beginL (s : Int) (lt : List Bool) (l : List POp) : Nat → Nat → List PSpot
  | 0, _ => []
  | d + 1, c => if (trS lt (c : Int) l 0).getD 0 false = true then beginL s lt l d (c + 1) else ⟨s, (c : Int)⟩ :: beginL s lt l d (c + 1)
theorem beginL_len (s : Int) (lt : List Bool) (l : List POp) : ∀ d c : Nat, (beginL s lt l d c).length ≤ d
  | 0, _ => Nat.le_refl _
  | d + 1, c => by
    have := beginL_len s lt l d (c + 1)
    rw [beginL]
    split
    · omega
    · rw [List.length_cons]; omega
def manyN (l : List POp) : Nat := 2 ^ cA l
theorem manyN_pw (l : List POp) : (manyN l : Int) = pw (cA l) := by unfold manyN pw; push_cast; rfl
theorem manyN_le {l : List POp} (h : cA l ≤ 6) : manyN l ≤ 64 := by
  have := pw_bd h
  have := manyN_pw l
  omega
theorem truthsS_right {l : List POp} {lt : List Bool} {c : Nat} (hc : checkS l (lt.length : Int) = 0) (h : c < manyN l) : truthsS l lt (c : Int) = (trS lt (c : Int) l 0, 0) := by
  have e : (2 : Int) ^ cA l = (manyN l : Int) := (manyN_pw l).symm
  unfold truthsS
  rw [if_pos hc, e, if_pos (by omega)]
theorem begin_l0 (s : Int) (lt : List Bool) (vs : List PVar) (rs : List PRule) (ps : List (List POp)) (l : List POp) (hc : checkS l (lt.length : Int) = 0) (d : Nat) : ∀ (c : Nat) (acc : List PSpot), c + d = manyN l → acc.length ≤ c →
    Ev (fun k => product_Begin.l0 k s lt acc (manyN l : Int) (c : Int) vs rs ps l) (acc ++ beginL s lt l d c, 0) := by
  have hm := manyN_le (checkS_fit hc).1
  induction d with
  | zero =>
    intro c acc h ha
    have c1 : ¬ (c : Int) < (manyN l : Int) := by omega
    refine ev_succ ?_
    simp only [product_Begin.l0, ↓reduceIte, c1, beginL, List.append_nil]
    exact Ev.now _
  | succ d ih =>
    intro c acc h ha
    have c1 : (c : Int) < (manyN l : Int) := by omega
    have ht : logic_Truths.f l lt (c : Int) = some (trS lt (c : Int) l 0, 0) := (show logic_Truths.f l lt (c : Int) = some (truthsS l lt (c : Int)) from rfl).trans (congrArg some (truthsS_right hc (by omega)))
    have c2 : (0 : Int) < ((trS lt (c : Int) l 0).length : Int) := by rw [trS_len]; have := one_pos (checkS_ok hc).2.1; omega
    have c3 : acc.length < 8796093022208 := by omega
    have w1 : wrap64 ((c : Int) + 1) = ((c + 1 : Nat) : Int) := by rw [wrap_id (by omega) (by omega)]; rfl
    have hr : rdOf false (trS lt (c : Int) l 0) 0 = (trS lt (c : Int) l 0).getD 0 false := rfl
    refine ev_succ ?_
    simp only [product_Begin.l0, ↓reduceIte, c1, ht, Option.bind_some, c2, hr, w1, beginL]
    by_cases hb : (trS lt (c : Int) l 0).getD 0 false = true
    · simp only [hb, ↓reduceIte]
      exact ih (c + 1) acc (by omega) (by omega)
    · simp only [hb, ↓reduceIte, c3, Bool.false_eq_true]
      refine ev_eq (ih (c + 1) (acc ++ [⟨s, (c : Int)⟩]) (by omega) (by rw [List.length_append, List.length_singleton]; omega)) ?_
      rw [List.append_assoc]
      rfl
theorem beginOf_l0 (s : Int) (lt : List Bool) (vs : List PVar) (rs : List PRule) (ps : List (List POp)) (l : List POp) (hc : checkS l (lt.length : Int) = 0) (d : Nat) : ∀ (c : Nat) (acc : List PSpot), c + d = manyN l → acc.length ≤ c →
    Ev (fun k => foretellref_BeginOf.l0 k s lt (manyN l : Int) acc (c : Int) vs rs ps l) (acc ++ beginL s lt l d c, 0) := by
  have hm := manyN_le (checkS_fit hc).1
  induction d with
  | zero =>
    intro c acc h ha
    have c1 : ¬ (c : Int) < (manyN l : Int) := by omega
    refine ev_succ ?_
    simp only [foretellref_BeginOf.l0, ↓reduceIte, c1, beginL, List.append_nil]
    exact Ev.now _
  | succ d ih =>
    intro c acc h ha
    have c1 : (c : Int) < (manyN l : Int) := by omega
    have ht := truthsOf_ev l lt (c : Int)
    rw [truthsS_right hc (by omega)] at ht
    have c2 : (0 : Int) < ((trS lt (c : Int) l 0).length : Int) := by rw [trS_len]; have := one_pos (checkS_ok hc).2.1; omega
    have c3 : acc.length < 8796093022208 := by omega
    have w1 : wrap64 ((c : Int) + 1) = ((c + 1 : Nat) : Int) := by rw [wrap_id (by omega) (by omega)]; rfl
    have hr : rdOf false (trS lt (c : Int) l 0) 0 = (trS lt (c : Int) l 0).getD 0 false := rfl
    refine ev_succ ?_
    simp only [foretellref_BeginOf.l0, ↓reduceIte, c1, w1, beginL]
    refine ev_bind ht ?_
    simp only [c2, hr, ↓reduceIte]
    by_cases hb : (trS lt (c : Int) l 0).getD 0 false = true
    · simp only [hb, ↓reduceIte]
      exact ih (c + 1) acc (by omega) (by omega)
    · simp only [hb, ↓reduceIte, c3, Bool.false_eq_true]
      refine ev_eq (ih (c + 1) (acc ++ [⟨s, (c : Int)⟩]) (by omega) (by rw [List.length_append, List.length_singleton]; omega)) ?_
      rw [List.append_assoc]
      rfl
theorem shl_all : ∀ b : Fin 7, shl .i64 1 (b.val : Int) = 2 ^ b.val := by decide +kernel
theorem claims_ev (vs : List PVar) (rs : List PRule) (ps : List (List POp)) (l : List POp) (hc : checkS l (ps.length : Int) = 0) : Ev (fun k => product_claims.f k vs rs ps l) (manyN l : Int) := by
  unfold product_claims.f
  have h := ahead_ev l (ps.length : Int)
  have hA := (checkS_fit hc).1
  have ha : aheadS l (ps.length : Int) = (aheadL l 0, 0) := by unfold aheadS; rw [if_pos hc]
  rw [ha] at h
  refine ev_bind h (ev_eq (Ev.now _) ?_)
  show shl .i64 1 ((aheadL l 0).length : Int) = _
  rw [aheadL_cA, manyN_pw]
  exact shl_all ⟨cA l, by omega⟩
theorem many_l0 (ps : List Int) (hp : ps.length ≤ 6) (d : Nat) : ∀ i : Nat, i + d = ps.length → Ev (fun k => foretellref_manyClaims.l0 k ps (pw i) (i : Int)) (pw ps.length) := by
  induction d with
  | zero =>
    intro i hi
    obtain rfl : i = ps.length := by omega
    have c1 : ¬ ((ps.length : Nat) : Int) < (ps.length : Int) := by omega
    refine ev_succ ?_
    simp only [foretellref_manyClaims.l0, ↓reduceIte, c1]
    exact Ev.now _
  | succ d ih =>
    intro i hi
    have c1 : (i : Int) < (ps.length : Int) := by omega
    have hb := pw_bd (show i ≤ 6 by omega)
    have w1 : wrap64 (pw i * 2) = pw (i + 1) := by rw [pw_succ, wrap_id (by omega) (by omega)]
    have w2 : wrap64 ((i : Int) + 1) = ((i + 1 : Nat) : Int) := by rw [wrap_id (by omega) (by omega)]; rfl
    refine ev_succ ?_
    simp only [foretellref_manyClaims.l0, ↓reduceIte, c1, w1, w2]
    exact ih (i + 1) (by omega)
theorem many_ev (vs : List PVar) (rs : List PRule) (ps : List (List POp)) (l : List POp) (hc : checkS l (ps.length : Int) = 0) : Ev (fun k => foretellref_manyClaims.f k vs rs ps l) (manyN l : Int) := by
  unfold foretellref_manyClaims.f
  have h := aheadOf_ev l (ps.length : Int)
  have hA := (checkS_fit hc).1
  have ha : aheadS l (ps.length : Int) = (aheadL l 0, 0) := by unfold aheadS; rw [if_pos hc]
  rw [ha] at h
  refine ev_bind h ?_
  rw [manyN_pw, ← aheadL_cA l 0]
  exact many_l0 (aheadL l 0) (by rw [aheadL_cA]; exact hA) (aheadL l 0).length 0 (by omega)
def beginS (vs : List PVar) (rs : List PRule) (ps : List (List POp)) (l : List POp) : List PSpot × Int :=
  if taskS vs rs ps l = 0 then (beginL (firstS vs rs).1 (letterS vs rs ps (firstS vs rs).1).1 l (manyN l) 0, 0) else ([], taskS vs rs ps l)
theorem begin_ev (vs : List PVar) (rs : List PRule) (hv : vs.length ≤ 3518437208883) (ps : List (List POp)) (l : List POp) : Ev (fun k => product_Begin.f k vs rs ps l) (beginS vs rs ps l) := by
  unfold product_Begin.f beginS
  refine ev_bind (taskCheck_ev vs rs ps l) ?_
  by_cases h : taskS vs rs ps l = 0
  · obtain ⟨h1, h2, h3⟩ := taskS_ok h
    obtain ⟨n, hn, n0, n1⟩ := firstS_ok h1
    simp only [h, ↓reduceIte]
    refine ev_bind (first_ev vs rs hv) (ev_bind (letter_ev vs rs ps (firstS vs rs).1) (ev_bind (claims_ev vs rs ps l h3) ?_))
    have hl := (letterS_ok h2 n0 n1).1
    rw [hn]
    exact begin_l0 n _ vs rs ps l (by rw [hl]; exact h3) (manyN l) 0 [] (by omega) (Nat.le_refl _)
  · simp only [h, ↓reduceIte]
    exact Ev.now _
theorem beginOf_ev (vs : List PVar) (rs : List PRule) (hv : vs.length ≤ 3518437208883) (ps : List (List POp)) (l : List POp) : Ev (fun k => foretellref_BeginOf.f k vs rs ps l) (beginS vs rs ps l) := by
  unfold foretellref_BeginOf.f beginS
  refine ev_bind (taskFault_ev vs rs ps l) ?_
  by_cases h : taskS vs rs ps l = 0
  · obtain ⟨h1, h2, h3⟩ := taskS_ok h
    obtain ⟨n, hn, n0, n1⟩ := firstS_ok h1
    simp only [h, ↓reduceIte]
    refine ev_bind (firstCode_ev vs rs hv) (ev_bind (letterOf_ev vs rs ps (firstS vs rs).1) (ev_bind (many_ev vs rs ps l h3) ?_))
    have hl := (letterS_ok h2 n0 n1).1
    rw [hn]
    exact beginOf_l0 n _ vs rs ps l (by rw [hl]; exact h3) (manyN l) 0 [] (by omega) (Nat.le_refl _)
  · simp only [h, ↓reduceIte]
    exact Ev.now _
theorem beginS_len (vs : List PVar) (rs : List PRule) (ps : List (List POp)) (l : List POp) : (beginS vs rs ps l).1.length ≤ 64 := by
  unfold beginS
  by_cases h : taskS vs rs ps l = 0
  · obtain ⟨h1, h2, h3⟩ := taskS_ok h
    rw [if_pos h]
    have := beginL_len (firstS vs rs).1 (letterS vs rs ps (firstS vs rs).1).1 l (manyN l) 0
    have := manyN_le (checkS_fit h3).1
    show (beginL _ _ _ _ _).length ≤ 64
    omega
  · rw [if_neg h]; exact Nat.zero_le _
end Go.Proofs.YthffpjkkmkjplaaDoor.Pure
namespace Go.Proofs.YthffpjkkmkjplaaDoor.Pure
open Go.RowKit Go.Proofs.YthffpjkkmkjplaaDoor Go.Proofs.YthffpjkkmkjplaaDoor.S Go.Proofs.YthffpjkkmkjplaaDoor.Base Go.Proofs.YthffpjkkmkjplaaDoorW.PrintWords Go.Proofs.YthffpjkkmkjplaaDoorW.PrintLast Go.Proofs.YthffpjkkmkjplaaDoorW.PrintMore
set_option linter.unusedVariables false
theorem sameSpots_loop (l : List S73) (hl : l.length ≤ 9223372036854775806) (d : Nat) : ∀ i : Nat, i + d = l.length → Ev (fun k => foretelllaw_sameSpots.l0 k l l i) true := by
  induction d with
  | zero =>
    intro i hi
    have c1 : ¬ (i : Int) < (l.length : Int) := by omega
    refine ev_succ ?_
    simp only [foretelllaw_sameSpots.l0, ↓reduceIte, c1]
    exact Ev.now _
  | succ d ih =>
    intro i hi
    have c1 : (i : Int) < (l.length : Int) := by omega
    have c2 : (0 : Int) ≤ (i : Int) := Int.natCast_nonneg _
    have w1 : wrap64 ((i : Int) + 1) = ((i + 1 : Nat) : Int) := by rw [wrap_id (by omega) (by omega)]; rfl
    refine ev_succ ?_
    simp only [foretelllaw_sameSpots.l0, ↓reduceIte, c1, c2, beq_self_eq_true, Bool.not_true, Bool.or_self, Bool.false_eq_true, w1]
    exact ih (i + 1) (by omega)
theorem sameSpots_refl (l : List S73) (hl : l.length ≤ 9223372036854775806) : Ev (fun k => foretelllaw_sameSpots.f k l l) true := by
  unfold foretelllaw_sameSpots.f
  simp only [if_true]
  exact sameSpots_loop l hl l.length 0 (by omega)
theorem ProductBegins (x0 : S47) (good0 : G47 x0) : ∃ k, foretelllaw_ProductBegins.f k x0.f0.f0 x0.f0.f1 x0.f1 x0.f2 = some true := by
  refine Ev.rounds (g := fun k => foretelllaw_ProductBegins.f k x0.f0.f0 x0.f0.f1 x0.f1 x0.f2) ?_
  unfold foretelllaw_ProductBegins.f
  have hv : x0.f0.f0.length ≤ 3518437208883 := by have := good0.1.1.1; omega
  have hl := beginS_len x0.f0.f0 x0.f0.f1 x0.f1 x0.f2
  refine ev_bind (tasks_ev x0 good0) (ev_bind (begin_ev x0.f0.f0 x0.f0.f1 hv x0.f1 x0.f2) (ev_bind (beginOf_ev x0.f0.f0 x0.f0.f1 hv x0.f1 x0.f2) ?_))
  simp only [↓reduceIte]
  exact ev_bind (sameSpots_refl _ (by omega)) (Ev.now _)
end Go.Proofs.YthffpjkkmkjplaaDoor.Pure
