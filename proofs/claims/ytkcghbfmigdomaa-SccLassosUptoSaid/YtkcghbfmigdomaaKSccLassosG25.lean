import Derived.Test.YtkcghbfmigdomaaKSccLassosG22
import Derived.Test.YtkcghbfmigdomaaKSccLassosG16
import Derived.Test.YtkcghbfmigdomaaKSccLassosG8
import Derived.Test.YtkcghbfmigdomaaKSccLassosG23
-- Cut by a program of this session (wip/prune.py) from a longer text: declarations that the law does not need are left out.
namespace Go.Proofs.Ytkcghbfmigdomaa.Pure
open Go.RowKit Go.Proofs.Ytkcghbfmigdomaa.Q Go.Proofs.Ytkcghbfmigdomaa.Base Go.Proofs.YtkcghbfmigdomaaW.PrintWords Go.Proofs.YtkcghbfmigdomaaW.PrintLast Go.Proofs.YtkcghbfmigdomaaW.PrintMore
set_option linter.unusedVariables false
def rowIn (n : Int) (l : List Int) : Bool := l.all fun k => decide (0 ≤ k ∧ k < n)
theorem rowIn_bad {n x : Int} {l : List Int} (h : x < 0 ∨ n ≤ x) : rowIn n (x :: l) = false := by
 simp only [rowIn, List.all_cons]
 rw [decide_eq_false (by omega)]; rfl
theorem rowIn_ok {n x : Int} {l : List Int} (h0 : 0 ≤ x) (h1 : x < n) : rowIn n (x :: l) = rowIn n l := by
 simp only [rowIn, List.all_cons]
 rw [decide_eq_true (by omega)]; rfl
theorem ite_and (a b : Bool) : (if a = true then (if b = true then (0 : Int) else 9) else 9) = if (a && b) = true then 0 else 9 := by cases a <;> cases b <;> rfl
def restIn (n p : Int) : List (List Int) → List Int → Bool
 | l :: ls, s :: ss => rowIn n l && decide (0 ≤ s ∧ s < p) && restIn n p ls ss
 | _, _ => true
def pow2 (m : Int) : Int := 2 ^ m.toNat
theorem pow2_cases {m : Int} (h0 : 0 ≤ m) (h1 : m ≤ 6) : (m = 0 ∧ pow2 m = 1) ∨ (m = 1 ∧ pow2 m = 2) ∨ (m = 2 ∧ pow2 m = 4) ∨ (m = 3 ∧ pow2 m = 8) ∨ (m = 4 ∧ pow2 m = 16) ∨ (m = 5 ∧ pow2 m = 32) ∨ (m = 6 ∧ pow2 m = 64) := by
 have : m = 0 ∨ m = 1 ∨ m = 2 ∨ m = 3 ∨ m = 4 ∨ m = 5 ∨ m = 6 := by omega
 rcases this with rfl | rfl | rfl | rfl | rfl | rfl | rfl <;> simp [pow2]
theorem shl_pow2 {m : Int} (h0 : 0 ≤ m) (h1 : m ≤ 6) : shl .i64 1 m = pow2 m := by
 have : m = 0 ∨ m = 1 ∨ m = 2 ∨ m = 3 ∨ m = 4 ∨ m = 5 ∨ m = 6 := by omega
 rcases this with rfl | rfl | rfl | rfl | rfl | rfl | rfl <;> decide
theorem pow2_bd {m : Int} (h0 : 0 ≤ m) (h1 : m ≤ 6) : 1 ≤ pow2 m ∧ pow2 m ≤ 64 := by
 rcases pow2_cases h0 h1 with h | h | h | h | h | h | h <;> omega
def graphOK (n init : Int) (next : List (List Int)) (sets : List Int) (many : Int) : Bool :=
 decide (n ≤ 20000 ∧ (next.length : Int) = n ∧ (sets.length : Int) = n ∧ 0 ≤ init ∧ init ≤ n ∧ 0 ≤ many ∧ many ≤ 6) && restIn n (pow2 many) next sets
def okErr (b : Bool) : Int := if b then 0 else 9
section
variable (spots : List S63) (init : Int) (next : List (List Int)) (sets : List Int) (many : Int)
theorem zAd (n : Int) (p : List (List Int)) (len x51 : Int) (i : Nat) (hi : i < sets.length) (hm0 : 0 ≤ many) (hm1 : many ≤ 6) (l : List Int) (hl : l.length ≤ 9223372036854775807) (r : Int)
  (hr : Ev (fun k => zAM.l0 k n p len (wrap64 (x51 + 1)) spots init next sets many) r) (d : Nat) : ∀ j : Nat, j + d = l.length →
  Ev (fun k => zAM.l1 k n i p len x51 l (l.length : Int) j spots init next sets many) (if rowIn n (l.drop j) && decide (0 ≤ sets[i] ∧ sets[i] < pow2 many) then r else 9) := by
 induction d with
 | zero =>
  intro j hj
  rw [List.drop_of_length_le (by omega)]
  have hs := shl_pow2 hm0 hm1
  by_cases c0 : sets[i] < 0
  ·exact ev_now (fun k => by rw [if_neg (by simp [rowIn]; omega)]; simp (disch := omega) only [zAM.l1, if_neg, if_pos, rd_get])
  by_cases c1 : sets[i] ≥ pow2 many
  ·exact ev_now (fun k => by rw [if_neg (by simp [rowIn]; omega)]; simp (disch := omega) only [zAM.l1, if_neg, if_pos, rd_get, hs])
  ·rw [if_pos (by simp [rowIn]; omega)]
   exact Ev.step (fun k => by simp (disch := omega) only [zAM.l1, if_neg, if_pos, rd_get, hs]) hr
 | succ d ih =>
  intro j hj
  have hlt : j < l.length := by omega
  rw [List.drop_eq_getElem_cons hlt]
  by_cases c0 : l[j] < 0
  ·exact ev_now (fun k => by rw [rowIn_bad (.inl c0)]; simp (disch := omega) only [zAM.l1, if_pos, rd_get, Bool.false_and, Bool.false_eq_true, if_false])
  by_cases c1 : l[j] ≥ n
  ·exact ev_now (fun k => by rw [rowIn_bad (.inr c1)]; simp (disch := omega) only [zAM.l1, if_pos, if_neg, rd_get, Bool.false_and, Bool.false_eq_true, if_false])
  rw [rowIn_ok (by omega) (by omega)]
  refine Ev.step (fun k => ?_) (ih (j + 1) (by omega))
  simp (disch := omega) only [zAM.l1, if_pos, if_neg, rd_get, wrap_id]
  rfl
theorem zAc (hn : (next.length : Int) ≤ 20000) (hs : sets.length = next.length) (hm0 : 0 ≤ many) (hm1 : many ≤ 6) (hb : ∀ l ∈ next, l.length ≤ 9223372036854775807) (d : Nat) : ∀ i : Nat, i + d = next.length →
  Ev (fun k => zAM.l0 k (next.length : Int) next (next.length : Int) i spots init next sets many) (okErr (restIn (next.length : Int) (pow2 many) (next.drop i) (sets.drop i))) := by
 induction d with
 | zero =>
  intro i hi
  rw [List.drop_of_length_le (by omega)]
  exact ev_now (fun k => by simp (disch := omega) only [zAM.l0, if_neg, okErr, restIn, if_true])
 | succ d ih =>
  intro i hi
  have hlt : i < next.length := by omega
  have hlt2 : i < sets.length := by omega
  have hg : zAE next i = next[i] := getD_get _ _ _ hlt
  have h1 := zAd spots init next sets many (next.length : Int) next (next.length : Int) i i hlt2 hm0 hm1 next[i] (hb _ (List.getElem_mem hlt)) _ (by rw [wrap_id (by omega) (by omega)]; exact ih (i + 1) (by omega)) next[i].length 0 (by omega)
  refine Ev.step (f := fun k => zAM.l1 k (next.length : Int) i next (next.length : Int) i next[i] (next[i].length : Int) ((0 : Nat) : Int) spots init next sets many) (fun k => ?_) (ev_eq h1 ?_)
  ·simp (disch := omega) only [zAM.l0, if_pos, hg]
   rfl
  ·rw [List.drop_eq_getElem_cons hlt, List.drop_eq_getElem_cons hlt2, List.drop_zero]
   simp only [restIn, okErr]
   exact ite_and _ _
theorem check_ev (hb : ∀ l ∈ next, l.length ≤ 9223372036854775807) : Ev (fun k => zAM.f k spots init next sets many) (okErr (graphOK spots.length init next sets many)) := by
 unfold zAM.f
 have bad : ∀ b, b = true → Ev (fun k => zAM.j0 k (spots.length : Int) b spots init next sets many) 9 := fun b hb => ev_now (fun k => by simp only [zAM.j0, hb, if_true])
 have h9 : ∀ {c : Prop} [Decidable c], ¬ c → okErr (decide c && restIn (spots.length : Int) (pow2 many) next sets) = 9 := fun h => by simp [okErr, h]
 unfold graphOK
 by_cases c1 : (spots.length : Int) > 20000
 ·simp only [if_pos c1]; rw [h9 (by omega)]; exact bad _ rfl
 simp only [if_neg c1]
 by_cases c2 : (next.length : Int) = (spots.length : Int)
 ·simp only [if_pos c2]
  by_cases c3 : (sets.length : Int) = (spots.length : Int)
  ·simp only [if_pos c3]
   by_cases c4 : init < 0
   ·simp only [if_pos c4]; rw [h9 (by omega)]; exact bad _ rfl
   simp only [if_neg c4]
   by_cases c5 : init > (spots.length : Int)
   ·simp only [if_pos c5]; rw [h9 (by omega)]; exact bad _ rfl
   simp only [if_neg c5]
   by_cases c6 : many < 0
   ·simp only [if_pos c6]; rw [h9 (by omega)]; exact bad _ rfl
   simp only [if_neg c6]
   by_cases c7 : many > 6
   ·rw [h9 (by omega)]; exact bad _ (decide_eq_true c7)
   ·have e : ((spots.length : Int)) = (next.length : Int) := c2.symm
    have hr := zAc spots init next sets many (by omega) (by omega) (by omega) (by omega) hb next.length 0 (by omega)
    refine Ev.step (f := fun k => zAM.l0 k (next.length : Int) next (next.length : Int) ((0 : Nat) : Int) spots init next sets many) (fun k => ?_) (ev_eq hr ?_)
    ·simp only [zAM.j0, decide_eq_true_eq, if_neg c7, e]; rfl
    ·rw [decide_eq_true (by omega), e]; rfl
  ·simp only [if_neg c3]; rw [h9 (by omega)]; exact bad _ rfl
 ·simp only [if_neg c2]; rw [h9 (by omega)]; exact bad _ rfl
theorem fault_row (n p : Int) (i : Nat) (hi : i < next.length) (hn0 : 0 ≤ n) (hn1 : n ≤ 20000) (hl : next[i].length ≤ 9223372036854775807) (r : Int)
  (hr : Ev (fun k => zAD.l1 k n p (wrap64 ((i : Int) + 1)) spots init next sets many) r) (d : Nat) : ∀ j : Nat, j + d = next[i].length →
  Ev (fun k => zAD.l2 k n p i j spots init next sets many) (if rowIn n (next[i].drop j) then r else 9) := by
 have hg : zAE next i = next[i] := getD_get _ _ _ hi
 induction d with
 | zero =>
  intro j hj
  rw [List.drop_of_length_le (by omega), if_pos (by simp [rowIn])]
  exact Ev.step (fun k => by simp (disch := omega) only [zAD.l2, if_neg, if_pos, hg]) hr
 | succ d ih =>
  intro j hj
  have hlt : j < next[i].length := by omega
  rw [List.drop_eq_getElem_cons hlt]
  by_cases c0 : next[i][j] < 0
  ·exact ev_now (fun k => by rw [rowIn_bad (.inl c0)]; simp (disch := omega) only [zAD.l2, zAO.f, if_pos, if_neg, rd_get, hg, Option.bind_some, Bool.false_eq_true, if_false])
  by_cases c1 : next[i][j] ≥ n
  ·exact ev_now (fun k => by rw [rowIn_bad (.inr c1)]; simp (disch := omega) only [zAD.l2, zAO.f, if_pos, if_neg, rd_get, hg, Option.bind_some, wrap_id, decide_eq_true_eq, Bool.false_eq_true, if_false])
  rw [rowIn_ok (by omega) (by omega)]
  refine Ev.step (fun k => ?_) (ih (j + 1) (by omega))
  simp (disch := omega) only [zAD.l2, zAO.f, if_pos, rd_get, hg, Option.bind_some, wrap_id, decide_eq_true_eq]
  rfl
theorem fault_rest (p : Int) (hp0 : 1 ≤ p) (hp1 : p ≤ 64) (hn : (next.length : Int) ≤ 20000) (hs : sets.length = next.length) (hb : ∀ l ∈ next, l.length ≤ 9223372036854775807) (d : Nat) : ∀ i : Nat, i + d = next.length →
  Ev (fun k => zAD.l1 k (next.length : Int) p i spots init next sets many) (okErr (restIn (next.length : Int) p (next.drop i) (sets.drop i))) := by
 induction d with
 | zero =>
  intro i hi
  rw [List.drop_of_length_le (by omega)]
  exact ev_now (fun k => by simp (disch := omega) only [zAD.l1, if_neg, okErr, restIn, if_true])
 | succ d ih =>
  intro i hi
  have hlt : i < next.length := by omega
  have hlt2 : i < sets.length := by omega
  rw [List.drop_eq_getElem_cons hlt, List.drop_eq_getElem_cons hlt2]
  simp only [restIn]
  by_cases c0 : sets[i] < 0
  ·exact ev_now (fun k => by simp (disch := omega) only [zAD.l1, zAO.f, if_pos, if_neg, rd_get, Option.bind_some, Bool.false_eq_true, if_false]; rw [decide_eq_false (by omega)]; simp [okErr])
  by_cases c1 : sets[i] ≥ p
  ·exact ev_now (fun k => by simp (disch := omega) only [zAD.l1, zAO.f, if_pos, if_neg, rd_get, Option.bind_some, wrap_id, decide_eq_true_eq]; rw [decide_eq_false (by omega)]; simp [okErr])
  have h1 := fault_row spots init next sets many (next.length : Int) p i hlt (by omega) hn (hb _ (List.getElem_mem hlt)) _ (by rw [wrap_id (by omega) (by omega)]; exact ih (i + 1) (by omega)) next[i].length 0 (by omega)
  refine Ev.step (f := fun k => zAD.l2 k (next.length : Int) p i ((0 : Nat) : Int) spots init next sets many) (fun k => ?_) (ev_eq h1 ?_)
  ·simp (disch := omega) only [zAD.l1, zAO.f, if_pos, rd_get, Option.bind_some, wrap_id, decide_eq_true_eq]
   rfl
  ·rw [List.drop_zero, decide_eq_true (by omega)]
   simp only [okErr, Bool.and_true]
   exact ite_and _ _
theorem fault_pow (n : Int) (hm0 : 0 ≤ many) (hm1 : many ≤ 6) (r : Int) (h : Ev (fun k => zAD.l1 k n (pow2 many) 0 spots init next sets many) r) : Ev (fun k => zAD.l0 k n 1 0 spots init next sets many) r := by
 rcases pow2_cases hm0 hm1 with ⟨rfl, e⟩ | ⟨rfl, e⟩ | ⟨rfl, e⟩ | ⟨rfl, e⟩ | ⟨rfl, e⟩ | ⟨rfl, e⟩ | ⟨rfl, e⟩ <;> rw [e] at h
 ·exact ev_steps 1 (fun k => by simp [zAD.l0]) h
 ·exact ev_steps 2 (fun k => by simp [zAD.l0, wrap64]) h
 ·exact ev_steps 3 (fun k => by simp [zAD.l0, wrap64]) h
 ·exact ev_steps 4 (fun k => by simp [zAD.l0, wrap64]) h
 ·exact ev_steps 5 (fun k => by simp [zAD.l0, wrap64]) h
 ·exact ev_steps 6 (fun k => by simp [zAD.l0, wrap64]) h
 ·exact ev_steps 7 (fun k => by simp [zAD.l0, wrap64]) h
theorem fault_ev (hb : ∀ l ∈ next, l.length ≤ 9223372036854775807) : Ev (fun k => zAD.f k spots init next sets many) (okErr (graphOK spots.length init next sets many)) := by
 unfold zAD.f
 have bad : ∀ b, b = true → Ev (fun k => zAD.j0 k (spots.length : Int) b spots init next sets many) 9 := fun b hb => ev_now (fun k => by simp only [zAD.j0, hb, if_true])
 have h9 : ∀ {c : Prop} [Decidable c], ¬ c → okErr (decide c && restIn (spots.length : Int) (pow2 many) next sets) = 9 := fun h => by simp [okErr, h]
 unfold graphOK
 by_cases c1 : (spots.length : Int) > 20000
 ·simp only [if_pos c1]; rw [h9 (by omega)]; exact bad _ rfl
 simp only [if_neg c1]
 by_cases c2 : (next.length : Int) = (spots.length : Int)
 ·simp only [if_pos c2]
  by_cases c3 : (sets.length : Int) = (spots.length : Int)
  ·simp only [if_pos c3]
   by_cases c4 : 0 ≤ init ∧ init ≤ (spots.length : Int)
   ·refine ev_call (a := true) (by unfold zAO.f; rw [if_pos c4.1, decide_eq_true c4.2]) ?_
    simp only [if_true]
    by_cases c6 : 0 ≤ many ∧ many ≤ 6
    ·refine ev_call (a := true) (by unfold zAO.f; rw [if_pos c6.1, decide_eq_true c6.2]) ?_
     have e : ((spots.length : Int)) = (next.length : Int) := c2.symm
     obtain ⟨hp0, hp1⟩ := pow2_bd c6.1 c6.2
     have hr := fault_rest spots init next sets many (pow2 many) hp0 hp1 (by omega) (by omega) hb next.length 0 (by omega)
     refine Ev.step (f := fun k => zAD.l0 k (next.length : Int) 1 0 spots init next sets many) (fun k => ?_) (fault_pow spots init next sets many _ c6.1 c6.2 _ (ev_eq hr ?_))
     ·simp only [zAD.j0, e]; rfl
     ·rw [decide_eq_true (by omega), e]; rfl
    ·refine ev_call (a := false) (by unfold zAO.f; split; rw [decide_eq_false (by omega)]; rfl) ?_
     rw [h9 (by omega)]; exact bad _ rfl
   ·refine ev_call (a := false) (by unfold zAO.f; split; rw [decide_eq_false (by omega)]; rfl) ?_
    simp only [Bool.false_eq_true, if_false]
    rw [h9 (by omega)]; exact bad _ rfl
  ·simp only [if_neg c3]; rw [h9 (by omega)]; exact bad _ rfl
 ·simp only [if_neg c2]; rw [h9 (by omega)]; exact bad _ rfl
end
theorem lists_loop (l : List (List Int)) (hl : l.length * 24 ≤ 140737488351232) (hb : ∀ x ∈ l, x.length * 8 ≤ 140737488351232) (d : Nat) : ∀ (i : Nat) (acc : List (List Int)), i + d = l.length → acc.length = i → Ev (fun k => zAN.l0 k l acc i) (acc ++ l.drop i) := by
 induction d with
 | zero =>
  intro i acc hi _
  rw [List.drop_of_length_le (by omega), List.append_nil]
  exact ev_now (fun k => by simp (disch := omega) only [zAN.l0, if_neg])
 | succ d ih =>
  intro i acc hi ha
  have hlt : i < l.length := by omega
  have hg : zAE l i = l[i] := getD_get _ _ _ hlt
  have h8 := hb _ (List.getElem_mem hlt)
  have hc : zAU.f l[i] = some l[i] := by unfold zAU.f; rw [if_pos (by simp; omega)]; rfl
  rw [List.drop_eq_getElem_cons hlt]
  refine Ev.step (f := fun k => zAN.l0 k l (acc ++ [l[i]]) ((i + 1 : Nat) : Int)) (fun k => ?_) (ev_eq (ih (i + 1) (acc ++ [l[i]]) (by omega) (by simp [ha])) (List.append_assoc _ _ _))
  simp (disch := omega) only [zAN.l0, if_pos, hg, hc, Option.bind_some, wrap_id]
  rfl
theorem graphs_ev (g : S26) (h : G26 g) : Ev (fun k => zAR.f k g.f0 g.f1 g.f2 g.f3 g.f4) (g.f0, g.f1, g.f2, g.f3, g.f4) := by
 obtain ⟨⟨h0, _⟩, _, ⟨h2, h2'⟩, ⟨h3, _⟩, _⟩ := h
 unfold zAR.f
 simp only [if_pos (show ([] : List S63).length + g.f0.length < 8796093022208 by simp; omega)]
 refine ev_bind (lists_loop g.f2 h2 (fun x hx => (h2' x hx).1) g.f2.length 0 [] (by omega) rfl) ?_
 refine ev_call (a := g.f3) (by unfold zAU.f; rw [if_pos (by simp; omega)]; rfl) ?_
 exact ev_const (fun k => rfl)
theorem graph_len {g : S26} (h : G26 g) : ∀ l ∈ g.f2, l.length ≤ 9223372036854775807 := fun l hl => by
 have := (h.2.2.1.2 l hl).1
 omega
end Go.Proofs.Ytkcghbfmigdomaa.Pure
-- Cut by a program of this session (wip/prune.py) from a longer text: declarations that the law does not need are left out.
namespace Go.Proofs.Ytkcghbfmigdomaa.Pure
open Go.RowKit Go.Proofs.Ytkcghbfmigdomaa.Q Go.Proofs.Ytkcghbfmigdomaa.Base Go.Proofs.YtkcghbfmigdomaaW.PrintWords Go.Proofs.YtkcghbfmigdomaaW.PrintLast Go.Proofs.YtkcghbfmigdomaaW.PrintMore
set_option linter.unusedVariables false
inductive Reach (next : List (List Int)) (frm : Int → Prop) : Int → Prop
 | start (x : Int) : frm x → Reach next frm x
 | step (a b : Int) : Reach next frm a → b ∈ zAE next a → Reach next frm b
def tru (s : List Bool) (x : Int) : Prop := s.getD x.toNat false = true
section
variable (next : List (List Int)) (frm : Int → Prop) (n : Nat) (hN : next.length = n) (hin : ∀ a, ∀ b ∈ zAE next a, 0 ≤ b ∧ b < (n : Int)) (hf : ∀ x, frm x → 0 ≤ x ∧ x < (n : Int)) (hn : n ≤ 20000) (hl : ∀ a, (zAE next a).length ≤ 9223372036854775807)
def GoodR (r : List Bool) : Prop := r.length = n ∧ ∀ x : Int, 0 ≤ x → x < (n : Int) → (tru r x ↔ Reach next frm x)
theorem good_eq {r r' : List Bool} (h : GoodR next frm n r) (h' : GoodR next frm n r') : r = r' := by
 refine List.ext_getElem (h.1.trans h'.1.symm) (fun i hi hi' => ?_)
 have e1 := h.2 i (by omega) (by rw [h.1] at hi; omega)
 have e2 := h'.2 i (by omega) (by rw [h.1] at hi; omega)
 have e := e1.trans e2.symm
 unfold tru at e
 rw [Int.toNat_natCast, List.getD_eq_getElem?_getD, List.getD_eq_getElem?_getD, List.getElem?_eq_getElem hi, List.getElem?_eq_getElem hi', Option.getD_some, Option.getD_some] at e
 exact Bool.eq_iff_iff.2 e
include hin hf in
theorem reach_in {x : Int} (h : Reach next frm x) : 0 ≤ x ∧ x < (n : Int) := by
 cases h with
 | start _ h => exact hf _ h
 | step a _ _ h => exact hin a _ h
theorem tru_set {s : List Bool} {i : Int} (h0 : 0 ≤ i) (h1 : i < (s.length : Int)) {x : Int} (hx : 0 ≤ x) : tru (s.set i.toNat true) x ↔ (x = i ∨ tru s x) := by
 unfold tru
 rw [List.getD_eq_getElem?_getD, List.getD_eq_getElem?_getD, List.getElem?_set]
 by_cases c : i.toNat = x.toNat
 ·have hlt : x.toNat < s.length := by omega
  simp only [c, ↓reduceIte, hlt, Option.getD_some, true_iff]
  exact .inl (by omega)
 ·simp only [c, ↓reduceIte]
  exact ⟨.inr, fun h => h.elim (fun e => absurd (by rw [e]) c) id⟩
structure SInv (cur : Int → Prop) (s : List Bool) (t : List Int) : Prop where
 len : s.length = n
 snd : ∀ x : Int, 0 ≤ x → x < (n : Int) → tru s x → Reach next frm x
 tin : ∀ x ∈ t, 0 ≤ x ∧ x < (n : Int) ∧ tru s x
 cl : ∀ a : Int, 0 ≤ a → a < (n : Int) → tru s a → a ∈ t ∨ cur a ∨ ∀ b ∈ zAE next a, tru s b
def meas (s : List Bool) (t : List Int) : Nat := t.length + s.count false
theorem visit_mono {s : List Bool} {t : List Int} {i x : Int} (h0 : 0 ≤ i) (h1 : i < (s.length : Int)) (hx : 0 ≤ x) (h : tru s x) : tru (visit1 s t i).1 x := by
 unfold visit1
 split
 ·exact h
 ·exact (tru_set h0 h1 hx).2 (.inr h)
theorem visit_tru {s : List Bool} {t : List Int} {i : Int} (h0 : 0 ≤ i) (h1 : i < (s.length : Int)) : tru (visit1 s t i).1 i := by
 unfold visit1
 split
 ·assumption
 ·exact (tru_set h0 h1 h0).2 (.inl rfl)
theorem visit_meas {s : List Bool} {t : List Int} {i : Int} (h0 : 0 ≤ i) (h1 : i < (s.length : Int)) : meas (visit1 s t i).1 (visit1 s t i).2 = meas s t := by
 unfold visit1
 split
 ·rfl
 ·rename_i h
  have hlt : i.toNat < s.length := by omega
  have hv : s[i.toNat] = false := by
   rw [List.getD_eq_getElem?_getD, List.getElem?_eq_getElem hlt, Option.getD_some] at h
   exact Bool.eq_false_iff.2 h
  have hp : 0 < s.count false := List.count_pos_iff.2 (hv ▸ List.getElem_mem hlt)
  unfold meas
  rw [List.count_set hlt, hv, List.length_append]
  simp
  omega
include hin in
theorem visit_inv {cur : Int → Prop} {s : List Bool} {t : List Int} {i : Int} (h : SInv next frm n cur s t) (h0 : 0 ≤ i) (h1 : i < (n : Int)) (hr : Reach next frm i) : SInv next frm n cur (visit1 s t i).1 (visit1 s t i).2 := by
 have h1' : i < (s.length : Int) := by rw [h.len]; exact h1
 unfold visit1
 split
 ·exact h
 ·refine ⟨by rw [List.length_set]; exact h.len, fun x hx hx' hh => ?_, fun x hx => ?_, fun a ha ha' hh => ?_⟩
  ·rcases (tru_set h0 h1' hx).1 hh with rfl | hh
   ·exact hr
   ·exact h.snd x hx hx' hh
  ·rcases List.mem_append.1 hx with hx | hx
   ·obtain ⟨a, b, c⟩ := h.tin x hx
    exact ⟨a, b, (tru_set h0 h1' a).2 (.inr c)⟩
   ·rw [List.mem_singleton.1 hx]
    exact ⟨h0, h1, (tru_set h0 h1' h0).2 (.inl rfl)⟩
  ·rcases (tru_set h0 h1' ha).1 hh with rfl | hh
   ·exact .inl (by simp)
   ·rcases h.cl a ha ha' hh with c | c | c
    ·exact .inl (by simp [c])
    ·exact .inr (.inl c)
    ·exact .inr (.inr fun b hb => (tru_set h0 h1' (hin a b hb).1).2 (.inr (c b hb)))
def Res (g : Nat → Option (List Bool)) : Prop := ∃ r, GoodR next frm n r ∧ Ev g r
include hN hin hf hn hl
theorem row_run (cur : Int) (hcur : Reach next frm cur) (M : Nat) (hM : M ≤ n)
  (ih : ∀ s t, SInv next frm n (fun _ => False) s t → (∀ x, frm x → tru s x) → meas s t ≤ M → Res next frm n (fun k => zAK.l1 k s t next)) (d : Nat) :
  ∀ (j : Nat) (s : List Bool) (t : List Int), j + d = (zAE next cur).length → SInv next frm n (fun a => a = cur) s t → (∀ x, frm x → tru s x) → meas s t ≤ M → (∀ b ∈ (zAE next cur).take j, tru s b) →
   Res next frm n (fun k => zAK.l2 k s t (zAE next cur) j next) := by
 have hlr := hl cur
 induction d with
 | zero =>
  intro j s t hj hS hI hm hb
  have c1 : ¬ (j : Int) < ((zAE next cur).length : Int) := by omega
  rw [List.take_of_length_le (by omega)] at hb
  obtain ⟨r, hg, he⟩ := ih s t ⟨hS.len, hS.snd, hS.tin, fun a ha ha' hh => by
   rcases hS.cl a ha ha' hh with c | c | c
   ·exact .inl c
   ·subst c; exact .inr (.inr hb)
   ·exact .inr (.inr c)⟩ hI hm
  refine ⟨r, hg, ev_succ ?_⟩
  simp only [zAK.l2, ↓reduceIte, c1]
  exact he
 | succ d ihd =>
  intro j s t hj hS hI hm hb
  have hlt : j < (zAE next cur).length := by omega
  have hmem := List.getElem_mem hlt
  have hrd : rd (zAE next cur) (j : Int) = (zAE next cur)[j] := rd_get _ _ hlt
  obtain ⟨b0, b1⟩ := hin cur _ hmem
  have b1' : (zAE next cur)[j] < (s.length : Int) := by rw [hS.len]; exact b1
  have hr : Reach next frm ((zAE next cur)[j]) := .step cur _ hcur hmem
  have c1 : (j : Int) < ((zAE next cur).length : Int) := by omega
  have c2 : (0 : Int) ≤ (j : Int) := by omega
  have c3 : t.length < 17592186044416 := by unfold meas at hm; omega
  have w1 : wrap64 ((j : Int) + 1) = ((j + 1 : Nat) : Int) := by rw [wrap_id (by omega) (by omega)]; rfl
  obtain ⟨r, hg, he⟩ := ihd (j + 1) _ _ (by omega) (visit_inv next frm n hin hS b0 b1 hr) (fun x hx => visit_mono b0 b1' (hf x hx).1 (hI x hx)) (by rw [visit_meas b0 b1']; exact hm) (fun b hb' => by
   rw [List.take_succ_eq_append_getElem hlt] at hb'
   rcases List.mem_append.1 hb' with hb' | hb'
   ·exact visit_mono b0 b1' (hin cur b (List.mem_of_mem_take hb')).1 (hb b hb')
   ·rw [List.mem_singleton.1 hb']; exact visit_tru b0 b1')
  refine ⟨r, hg, ev_succ ?_⟩
  simp only [zAK.l2, ↓reduceIte, c1, c2, hrd, b0, b1', c3, w1]
  exact he
omit hN hn hl in
theorem zAZ (s : List Bool) (t : List Int) (hS : SInv next frm n (fun _ => False) s t) (hI : ∀ x, frm x → tru s x) (ht : ¬ 0 < t.length) : Res next frm n (fun k => zAK.l1 k s t next) := by
 refine ⟨s, ⟨hS.len, fun x hx hx' => ⟨hS.snd x hx hx', fun hr => ?_⟩⟩, ev_succ ?_⟩
 ·clear hx hx'
  induction hr with
  | start x h => exact hI x h
  | step a b ha hb ih =>
   obtain ⟨a0, a1⟩ := reach_in next frm n hin hf ha
   rcases hS.cl a a0 a1 ih with c | c | c
   ·exact absurd (List.length_pos_of_mem c) ht
   ·exact c.elim
   ·exact c b hb
 ·simp only [zAK.l1, ↓reduceIte, ht]
  exact Ev.now _
theorem zAb (M : Nat) : ∀ (s : List Bool) (t : List Int), M ≤ n → SInv next frm n (fun _ => False) s t → (∀ x, frm x → tru s x) → meas s t ≤ M → Res next frm n (fun k => zAK.l1 k s t next) := by
 induction M with
 | zero =>
  intro s t hM hS hI hm
  have ht : ¬ 0 < t.length := by unfold meas at hm; omega
  exact zAZ next frm n hin hf s t hS hI ht
 | succ M ih =>
  intro s t hM hS hI hm
  by_cases ht : 0 < t.length
  ·obtain ⟨m, hm'⟩ : ∃ m, t.length = m + 1 := ⟨t.length - 1, by omega⟩
   have hlt : m < t.length := by omega
   have hrd : rd t ((t.length : Int) - 1) = t[m] := by rw [show (t.length : Int) - 1 = (m : Int) by omega]; exact rd_get _ _ hlt
   obtain ⟨b0, b1, b2⟩ := hS.tin _ (List.getElem_mem hlt)
   have b1' : t[m] < (next.length : Int) := by rw [hN]; exact b1
   have c3 : t.length ≤ 17592186044416 := by unfold meas at hm; omega
   have ht' : t = t.take m ++ [t[m]] := by rw [List.take_append_getElem]; exact (List.take_of_length_le (by omega)).symm
   obtain ⟨r, hg, he⟩ := row_run next frm n hN hin hf hn hl t[m] (hS.snd _ b0 b1 b2) M (by omega) (fun s t a b c => ih s t (by omega) a b c) (zAE next t[m]).length 0 s (t.take m) (by omega) ⟨hS.len, hS.snd, fun x hx => hS.tin x (List.mem_of_mem_take hx), fun a ha ha' hh => by
    rcases hS.cl a ha ha' hh with c | c | c
    ·rw [ht'] at c
     rcases List.mem_append.1 c with c | c
     ·exact .inl c
     ·exact .inr (.inl (List.mem_singleton.1 c))
    ·exact c.elim
    ·exact .inr (.inr c)⟩ hI (by unfold meas at hm ⊢; rw [List.length_take]; omega) (fun b hb => by simp at hb)
   refine ⟨r, hg, ev_succ ?_⟩
   simp only [zAK.l1, ↓reduceIte, ht, c3, hrd, b0, b1']
   rw [show t.length - 1 = m by omega]
   exact he
  ·exact zAZ next frm n hin hf s t hS hI ht
end
end Go.Proofs.Ytkcghbfmigdomaa.Pure
namespace Go.Proofs.Ytkcghbfmigdomaa.Pure
open Go.RowKit Go.Proofs.Ytkcghbfmigdomaa.Q Go.Proofs.Ytkcghbfmigdomaa.Base Go.Proofs.YtkcghbfmigdomaaW.PrintWords Go.Proofs.YtkcghbfmigdomaaW.PrintLast Go.Proofs.YtkcghbfmigdomaaW.PrintMore
set_option linter.unusedVariables false
theorem same_ints (r : List Int) (hr : r.length ≤ 9223372036854775806) : Ev (fun k => zAG.f k r r) true := by
 have loop : ∀ (d j : Nat), j + d = r.length → Ev (fun k => zAG.l0 k r r j) true := by
  intro d
  induction d with
  | zero =>
   intro j hj
   have c1 : ¬ (j : Int) < (r.length : Int) := by omega
   refine ev_succ ?_
   simp only [zAG.l0, ↓reduceIte, c1]
   exact Ev.now _
  | succ d ih =>
   intro j hj
   have c1 : (j : Int) < (r.length : Int) := by omega
   have c2 : (0 : Int) ≤ (j : Int) := by omega
   have w1 : wrap64 ((j : Int) + 1) = ((j + 1 : Nat) : Int) := by rw [wrap_id (by omega) (by omega)]; rfl
   refine ev_succ ?_
   simp only [zAG.l0, ↓reduceIte, c1, c2, w1]
   exact ih (j + 1) (by omega)
 unfold zAG.f
 simp only [↓reduceIte]
 exact loop r.length 0 (by omega)
theorem same_spots (r : List S63) (hr : r.length ≤ 9223372036854775806) : Ev (fun k => zAH.f k r r) true := by
 have loop : ∀ (d j : Nat), j + d = r.length → Ev (fun k => zAH.l0 k r r j) true := by
  intro d
  induction d with
  | zero =>
   intro j hj
   have c1 : ¬ (j : Int) < (r.length : Int) := by omega
   refine ev_succ ?_
   simp only [zAH.l0, ↓reduceIte, c1]
   exact Ev.now _
  | succ d ih =>
   intro j hj
   have c1 : (j : Int) < (r.length : Int) := by omega
   have c2 : (0 : Int) ≤ (j : Int) := by omega
   have w1 : wrap64 ((j : Int) + 1) = ((j + 1 : Nat) : Int) := by rw [wrap_id (by omega) (by omega)]; rfl
   refine ev_succ ?_
   simp only [zAH.l0, ↓reduceIte, c1, c2, w1, beq_self_eq_true, Bool.not_true, Bool.or_self, Bool.false_eq_true]
   exact ih (j + 1) (by omega)
 unfold zAH.f
 simp only [↓reduceIte]
 exact loop r.length 0 (by omega)
theorem same_lists (r : List (List Int)) (hr : r.length ≤ 9223372036854775806) (hb : ∀ l ∈ r, l.length ≤ 9223372036854775806) : Ev (fun k => zAI.f k r r) true := by
 have loop : ∀ (d j : Nat), j + d = r.length → Ev (fun k => zAI.l0 k r r j) true := by
  intro d
  induction d with
  | zero =>
   intro j hj
   have c1 : ¬ (j : Int) < (r.length : Int) := by omega
   refine ev_succ ?_
   simp only [zAI.l0, ↓reduceIte, c1]
   exact Ev.now _
  | succ d ih =>
   intro j hj
   have c1 : (j : Int) < (r.length : Int) := by omega
   have c2 : (0 : Int) ≤ (j : Int) := by omega
   have w1 : wrap64 ((j : Int) + 1) = ((j + 1 : Nat) : Int) := by rw [wrap_id (by omega) (by omega)]; rfl
   have hm : (zAE r (j : Int)).length ≤ 9223372036854775806 := by
    unfold zAE
    rw [Int.toNat_natCast, List.getD_eq_getElem?_getD, List.getElem?_eq_getElem (by omega)]
    exact hb _ (List.getElem_mem _)
   refine ev_succ ?_
   simp only [zAI.l0, ↓reduceIte, c1, c2, w1]
   refine ev_bind (same_ints _ hm) ?_
   simp only [↓reduceIte]
   exact ih (j + 1) (by omega)
 unfold zAI.f
 simp only [↓reduceIte]
 exact loop r.length 0 (by omega)
theorem same_graph {g : S26} (h : G26 g) : Ev (fun k => zAQ.f k g.f0 g.f1 g.f2 g.f3 g.f4 g.f0 g.f1 g.f2 g.f3 g.f4) true := by
 obtain ⟨⟨h0, _⟩, _, ⟨h2, h2'⟩, ⟨h3, _⟩, _⟩ := h
 unfold zAQ.f
 refine ev_bind (same_spots _ (by omega)) ?_
 simp only [↓reduceIte]
 refine ev_bind (same_lists _ (by omega) (fun l hl => by have := (h2' l hl).1; omega)) ?_
 simp only [↓reduceIte]
 exact ev_bind (same_ints _ (by omega)) (ev_const (fun k => rfl))
end Go.Proofs.Ytkcghbfmigdomaa.Pure
-- Cut by a program of this session (wip/prune.py) from a longer text: declarations that the law does not need are left out.
namespace Go.Proofs.Ytkcghbfmigdomaa.Pure
open Go.RowKit Go.Proofs.Ytkcghbfmigdomaa.Q Go.Proofs.Ytkcghbfmigdomaa.Base Go.Proofs.YtkcghbfmigdomaaW.PrintWords Go.Proofs.YtkcghbfmigdomaaW.PrintLast Go.Proofs.YtkcghbfmigdomaaW.PrintMore
set_option linter.unusedVariables false
theorem rd_set {st : List Int} {i v : Int} (h0 : 0 ≤ i) (h1 : i < (st.length : Int)) {x : Int} (hx : 0 ≤ x) : rd (st.set i.toNat v) x = if x = i then v else rd st x := by
 unfold rd
 rw [List.getD_eq_getElem?_getD, List.getD_eq_getElem?_getD, List.getElem?_set]
 by_cases c : x = i
 ·have hlt : x.toNat < st.length := by omega
  subst c
  simp only [↓reduceIte, hlt, Option.getD_some]
 ·have c' : ¬ i.toNat = x.toNat := by omega
  simp only [c, c', ↓reduceIte]
section
variable (spots : List S63) (init : Int) (next : List (List Int)) (sets : List Int) (many : Int) (frm : Int → Prop) (n : Nat) (hN : next.length = n) (hin : ∀ a, ∀ b ∈ zAE next a, 0 ≤ b ∧ b < (n : Int)) (hf : ∀ x, frm x → 0 ≤ x ∧ x < (n : Int)) (hn : n ≤ 20000) (hl : ∀ a, (zAE next a).length ≤ 9223372036854775807)
structure RInv (cur dn : Int → Prop) (st : List Int) : Prop where
 len : st.length = n
 val : ∀ x : Int, 0 ≤ x → x < (n : Int) → 0 ≤ rd st x ∧ rd st x ≤ 2
 snd : ∀ x : Int, 0 ≤ x → x < (n : Int) → 0 < rd st x → Reach next frm x
 cl : ∀ a : Int, 0 ≤ a → a < (n : Int) → rd st a = 2 → cur a ∨ ∀ b ∈ zAE next a, 0 < rd st b
 ini : ∀ x : Int, dn x → 0 < rd st x
def left2 (st : List Int) : Nat := st.length - st.count 2
theorem out_run (st : List Int) (hs : st.length ≤ 20000) (d : Nat) : ∀ (j : Nat) (acc : List Bool), j + d = st.length → acc.length = j → Ev (fun k => zAB.l4 k st acc j) (acc ++ (st.drop j).map (fun v => decide (v > 0))) := by
 induction d with
 | zero =>
  intro j acc hj ha
  rw [List.drop_of_length_le (by omega), List.map_nil, List.append_nil]
  have c1 : ¬ (j : Int) < (st.length : Int) := by omega
  refine ev_succ ?_
  simp only [zAB.l4, ↓reduceIte, c1]
  exact Ev.now _
 | succ d ih =>
  intro j acc hj ha
  have hlt : j < st.length := by omega
  have c1 : (j : Int) < (st.length : Int) := by omega
  have c2 : (0 : Int) ≤ (j : Int) := by omega
  have c3 : acc.length < 140737488355328 := by omega
  have w1 : wrap64 ((j : Int) + 1) = ((j + 1 : Nat) : Int) := by rw [wrap_id (by omega) (by omega)]; rfl
  rw [List.drop_eq_getElem_cons hlt, List.map_cons]
  refine ev_succ ?_
  simp only [zAB.l4, ↓reduceIte, c1, c2, c3, rd_get st j hlt, w1]
  refine ev_eq (ih (j + 1) (acc ++ [decide (st[j] > 0)]) (by omega) (by simp [ha])) ?_
  rw [List.append_assoc]
  rfl
theorem tru_map (st : List Int) {x : Int} (h0 : 0 ≤ x) (h1 : x < (st.length : Int)) : tru (st.map (fun v => decide (v > 0))) x ↔ 0 < rd st x := by
 have hlt : x.toNat < st.length := by omega
 unfold tru rd
 rw [List.getD_eq_getElem?_getD, List.getD_eq_getElem?_getD, List.getElem?_map, List.getElem?_eq_getElem hlt]
 simp
include hN hin hf hn hl
omit hn in
theorem row_rounds (cur : Int) (hc0 : 0 ≤ cur) (hc1 : cur < (n : Int)) (hcur : Reach next frm cur) (c : Nat)
  (ih : ∀ st, RInv next frm n (fun _ => False) frm st → st.count 2 = c → Res next frm n (fun k => zAB.l2 k st true (wrap64 (cur + 1)) spots init next sets many)) (d : Nat) :
  ∀ (j : Nat) (st : List Int), j + d = (zAE next cur).length → RInv next frm n (fun a => a = cur) frm st → st.count 2 = c → (∀ b ∈ (zAE next cur).take j, 0 < rd st b) →
   Res next frm n (fun k => zAB.l3 k st true cur j spots init next sets many) := by
 have hlr := hl cur
 have g1 : cur < (next.length : Int) := by omega
 induction d with
 | zero =>
  intro j st hj hS hc hb
  have c1 : ¬ (j : Int) < ((zAE next cur).length : Int) := by omega
  rw [List.take_of_length_le (by omega)] at hb
  obtain ⟨r, hg, he⟩ := ih st ⟨hS.len, hS.val, hS.snd, fun a ha ha' hh => by
   rcases hS.cl a ha ha' hh with c | c
   ·subst c; exact .inr hb
   ·exact .inr c, hS.ini⟩ hc
  refine ⟨r, hg, ev_succ ?_⟩
  simp only [zAB.l3, ↓reduceIte, hc0, g1, c1]
  exact he
 | succ d ihd =>
  intro j st hj hS hc hb
  have hlt : j < (zAE next cur).length := by omega
  have hmem := List.getElem_mem hlt
  have hrd : rd (zAE next cur) (j : Int) = (zAE next cur)[j] := rd_get _ _ hlt
  obtain ⟨b0, b1⟩ := hin cur _ hmem
  have b1' : (zAE next cur)[j] < (st.length : Int) := by rw [hS.len]; exact b1
  have hr : Reach next frm ((zAE next cur)[j]) := .step cur _ hcur hmem
  have c1 : (j : Int) < ((zAE next cur).length : Int) := by omega
  have c2 : (0 : Int) ≤ (j : Int) := by omega
  have w1 : wrap64 ((j : Int) + 1) = ((j + 1 : Nat) : Int) := by rw [wrap_id (by omega) (by omega)]; rfl
  by_cases z : rd st ((zAE next cur)[j]) = 0
  ·have hlt2 : ((zAE next cur)[j]).toNat < st.length := by omega
   have hz : st[((zAE next cur)[j]).toNat] = 0 := by
    unfold rd at z
    rw [List.getD_eq_getElem?_getD, List.getElem?_eq_getElem hlt2] at z
    exact z
   have mono : ∀ x : Int, 0 ≤ x → 0 < rd st x → 0 < rd (st.set ((zAE next cur)[j]).toNat 1) x := fun x hx h => by
    rw [rd_set b0 b1' hx]; split <;> omega
   obtain ⟨r, hg, he⟩ := ihd (j + 1) (st.set ((zAE next cur)[j]).toNat 1) (by omega) ⟨by rw [List.length_set]; exact hS.len, fun x hx hx' => by
     have := hS.val x hx hx'
     rw [rd_set b0 b1' hx]; split <;> omega, fun x hx hx' h => by
     rw [rd_set b0 b1' hx] at h
     split at h
     ·rename_i e; rw [e]; exact hr
     ·exact hS.snd x hx hx' h, fun a ha ha' hh => by
     rw [rd_set b0 b1' ha] at hh
     split at hh
     ·omega
     ·rcases hS.cl a ha ha' hh with c | c
      ·exact .inl c
      ·exact .inr fun b hb => mono b (hin a b hb).1 (c b hb), fun x hx => mono x (hf x hx).1 (hS.ini x hx)⟩ (by rw [List.count_set hlt2, hz]; simpa using hc) (fun b hb' => by
     rw [List.take_succ_eq_append_getElem hlt] at hb'
     rcases List.mem_append.1 hb' with hb' | hb'
     ·exact mono b (hin cur b (List.mem_of_mem_take hb')).1 (hb b hb')
     ·rw [List.mem_singleton.1 hb', rd_set b0 b1' b0, if_pos rfl]; decide)
   refine ⟨r, hg, ev_succ ?_⟩
   simp only [zAB.l3, ↓reduceIte, hc0, g1, c1, c2, hrd, b0, b1', z, w1]
   exact he
  ·have hp : 0 < rd st ((zAE next cur)[j]) := by have := hS.val _ b0 b1; omega
   obtain ⟨r, hg, he⟩ := ihd (j + 1) st (by omega) hS hc (fun b hb' => by
     rw [List.take_succ_eq_append_getElem hlt] at hb'
     rcases List.mem_append.1 hb' with hb' | hb'
     ·exact hb b hb'
     ·rw [List.mem_singleton.1 hb']; exact hp)
   refine ⟨r, hg, ev_succ ?_⟩
   simp only [zAB.l3, ↓reduceIte, hc0, g1, c1, c2, hrd, b0, b1', z, w1]
   exact he
theorem pass_rounds (M : Nat) (ih : ∀ st, RInv next frm n (fun _ => False) frm st → left2 st < M → Res next frm n (fun k => zAB.l1 k st true spots init next sets many)) (d : Nat) :
  ∀ (j : Nat) (st : List Int) (b : Bool), j + d = n → RInv next frm n (fun _ => False) frm st → (b = true ∧ left2 st < M) ∨ (b = false ∧ left2 st ≤ M ∧ ∀ x : Int, 0 ≤ x → x < (j : Int) → rd st x ≠ 1) →
   Res next frm n (fun k => zAB.l2 k st b j spots init next sets many) := by
 induction d with
 | zero =>
  intro j st b hj hS hb
  have c1 : ¬ (j : Int) < (st.length : Int) := by rw [hS.len]; omega
  rcases hb with ⟨rfl, hM⟩ | ⟨rfl, hM, h1⟩
  ·obtain ⟨r, hg, he⟩ := ih st hS hM
   refine ⟨r, hg, ev_succ ?_⟩
   simp only [zAB.l2, ↓reduceIte, c1]
   exact he
  ·refine ⟨st.map (fun v => decide (v > 0)), ⟨by rw [List.length_map]; exact hS.len, fun x hx hx' => (tru_map st hx (by rw [hS.len]; exact hx')).trans ⟨hS.snd x hx hx', fun hr => ?_⟩⟩, ev_succ ?_⟩
   ·clear hx hx'
    induction hr with
    | start x h => exact hS.ini x h
    | step a b ha hb ih =>
     obtain ⟨a0, a1⟩ := reach_in next frm n hin hf ha
     have h3 := hS.val a a0 a1
     have h4 := h1 a a0 (by omega)
     rcases hS.cl a a0 a1 (by omega) with c | c
     ·exact c.elim
     ·exact c b hb
   ·simp only [zAB.l2, ↓reduceIte, c1]
    refine ev_succ ?_
    simp only [zAB.l1, Bool.false_eq_true, ↓reduceIte]
    exact out_run st (by rw [hS.len]; exact hn) st.length 0 [] (by omega) rfl
 | succ d ihd =>
  intro j st b hj hS hb
  have hlt : j < st.length := by rw [hS.len]; omega
  have c1 : (j : Int) < (st.length : Int) := by omega
  have c2 : (0 : Int) ≤ (j : Int) := by omega
  have hjn : (j : Int) < (n : Int) := by omega
  have w1 : wrap64 ((j : Int) + 1) = ((j + 1 : Nat) : Int) := by rw [wrap_id (by omega) (by omega)]; rfl
  by_cases z : rd st (j : Int) = 1
  ·have hz : st[j] = 1 := by rw [← rd_get st j hlt]; exact z
   have hcnt : (st.set j 2).count 2 = st.count 2 + 1 := by rw [List.count_set hlt, hz]; simp
   have hle : (st.set j 2).count 2 ≤ (st.set j 2).length := List.count_le_length
   rw [List.length_set] at hle
   have hMle : left2 st ≤ M := by rcases hb with ⟨_, h⟩ | ⟨_, h, _⟩ <;> omega
   have es : st.set j 2 = st.set (j : Int).toNat 2 := rfl
   obtain ⟨r, hg, he⟩ := row_rounds spots init next sets many frm n hN hin hf hl (j : Int) c2 hjn (hS.snd _ c2 hjn (by omega)) (st.count 2 + 1) (fun st' hS' hc => by
     rw [w1]
     refine ihd (j + 1) st' true (by omega) hS' (.inl ⟨rfl, ?_⟩)
     unfold left2 at hMle ⊢
     rw [hS'.len, hc]
     rw [hS.len] at hMle hle
     omega) (zAE next (j : Int)).length 0 (st.set (j : Int).toNat 2) (by omega) ⟨by rw [List.length_set]; exact hS.len, fun x hx hx' => by
     have := hS.val x hx hx'
     rw [rd_set c2 c1 hx]; split <;> omega, fun x hx hx' h => by
     rw [rd_set c2 c1 hx] at h
     split at h
     ·rename_i e; rw [e]; exact hS.snd _ c2 hjn (by omega)
     ·exact hS.snd x hx hx' h, fun a ha ha' hh => by
     rw [rd_set c2 c1 ha] at hh
     split at hh
     ·rename_i e; exact .inl e
     ·rcases hS.cl a ha ha' hh with c | c
      ·exact c.elim
      ·exact .inr fun b hb => by rw [rd_set c2 c1 (hin a b hb).1]; have := c b hb; split <;> omega, fun x hx => by rw [rd_set c2 c1 (hf x hx).1]; have := hS.ini x hx; split <;> omega⟩ hcnt (fun b hb => by simp at hb)
   refine ⟨r, hg, ev_succ ?_⟩
   simp only [zAB.l2, ↓reduceIte, c1, c2, z]
   exact he
  ·obtain ⟨r, hg, he⟩ := ihd (j + 1) st b (by omega) hS (hb.imp id fun ⟨e, h, k⟩ => ⟨e, h, fun x hx hx' => by
    by_cases e : x = (j : Int)
    ·rw [e]; exact z
    ·exact k x hx (by omega)⟩)
   refine ⟨r, hg, ev_succ ?_⟩
   simp only [zAB.l2, ↓reduceIte, c1, c2, z, w1]
   exact he
theorem rounds_run (M : Nat) : ∀ st, RInv next frm n (fun _ => False) frm st → left2 st ≤ M → Res next frm n (fun k => zAB.l1 k st true spots init next sets many) := by
 induction M using Nat.strongRecOn with
 | _ M ih =>
  intro st hS hM
  obtain ⟨r, hg, he⟩ := pass_rounds spots init next sets many frm n hN hin hf hn hl M (fun st' hS' hlt => ih (left2 st') hlt st' hS' (Nat.le_refl _)) n 0 st false (by omega) hS (.inr ⟨rfl, hM, fun x hx hx' => by omega⟩)
  refine ⟨r, hg, ev_succ ?_⟩
  simp only [zAB.l1, ↓reduceIte]
  exact he
end
end Go.Proofs.Ytkcghbfmigdomaa.Pure
