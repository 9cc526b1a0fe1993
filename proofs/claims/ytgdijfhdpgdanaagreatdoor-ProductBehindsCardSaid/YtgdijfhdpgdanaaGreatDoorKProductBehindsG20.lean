import Derived.Test.YtgdijfhdpgdanaaGreatDoorKProductBehindsG19
namespace Go.Proofs.YtgdijfhdpgdanaaGreatDoor.Pure
open Go.RowKit Go.Proofs.YtgdijfhdpgdanaaGreatDoor Go.Proofs.YtgdijfhdpgdanaaGreatDoor.B Go.Proofs.YtgdijfhdpgdanaaGreatDoor.Base Go.Proofs.YtgdijfhdpgdanaaGreatDoorW.PrintWords Go.Proofs.YtgdijfhdpgdanaaGreatDoorW.PrintLast Go.Proofs.YtgdijfhdpgdanaaGreatDoorW.PrintMore
set_option linter.unusedVariables false
set_option linter.unusedSimpArgs false
theorem partsOf_ev (a : Int) : Ev (fun k => zAP.f k a) (partsS a) := by
 by_cases h : a < 1 ∨ 18 < a
 ·have e : ∀ n : Int, 1 ≤ n → n ≤ 18 → (a == n) = false := fun n h0 h1 => by rw [beq_eq_false_iff_ne]; omega
  unfold partsS
  rw [if_pos h]
  refine ev_nows 2 (fun k => ?_)
  simp (disch := omega) only [zAP.f, zAP.j0, zAP.j1, if_neg, e, Bool.false_eq_true, if_false]
 ·have : a = 1 ∨ a = 2 ∨ a = 3 ∨ a = 4 ∨ a = 5 ∨ a = 6 ∨ a = 7 ∨ a = 8 ∨ a = 9 ∨ a = 10 ∨ a = 11 ∨ a = 12 ∨ a = 13 ∨ a = 14 ∨ a = 15 ∨ a = 16 ∨ a = 17 ∨ a = 18 := by omega
  rcases this with rfl | rfl | rfl | rfl | rfl | rfl | rfl | rfl | rfl | rfl | rfl | rfl | rfl | rfl | rfl | rfl | rfl | rfl <;> exact ev_nows 2 (fun k => rfl)
theorem ops_eq (l : List POp) (h : l.length * 16 ≤ 140737488351232) : zBA.f l = some l := by
 unfold zBA.f
 rw [if_pos (by simp; omega)]
 rfl
def endRes (l : List POp) (r : Except Int (List POp)) : Int × Int := match r with | .ok r => ((l.length : Int) - r.length, 0) | .error e => (0, e)
theorem endOf_loop (l : List POp) (hl : l.length ≤ 1000000) (d : Nat) : ∀ (i w : Nat), i + d = l.length → w ≤ 2 * i + 1 → 0 < w → Ev (fun k => zAa.l0 k l (w : Int) i) (endRes l (scan (l.drop i) w)) := by
 induction d with
 | zero =>
  intro i w hi hw hw0
  rw [List.drop_of_length_le (by omega)]
  obtain ⟨w, rfl⟩ : ∃ m, w = m + 1 := ⟨w - 1, by omega⟩
  exact ev_now (fun k => by simp (disch := omega) only [zAa.l0, if_neg, scan_nil, endRes])
 | succ d ih =>
  intro i w hi hw hw0
  have hlt : i < l.length := by omega
  have hg : zAI l i = l[i] := getD_get _ _ _ hlt
  obtain ⟨w, rfl⟩ : ∃ m, w = m + 1 := ⟨w - 1, by omega⟩
  rw [List.drop_eq_getElem_cons hlt, scan_cons]
  obtain ⟨o, ho⟩ : ∃ o, o = l[i] := ⟨_, rfl⟩
  rw [← ho] at hg ⊢
  have hp := partsOf_ev o.f0
  obtain ⟨n, e, hpq⟩ : ∃ n e, partsS o.f0 = (n, e) := ⟨_, _, rfl⟩
  have hb := partsS_bd (a := o.f0)
  rw [hpq] at hb hp ⊢
  simp only at hb ⊢
  refine Ev.step (f := fun k => (zAP.f k o.f0).bind fun bt109 => (if bt109.2 = 0 then (if (wrap64 ((wrap64 (((w + 1 : Nat) : Int) + bt109.1)) - 1)) = 0 then (some (wrap64 ((i : Int) + 1), 0)) else (zAa.l0 k l (wrap64 ((wrap64 (((w + 1 : Nat) : Int) + bt109.1)) - 1)) (wrap64 ((i : Int) + 1)))) else (some (0, bt109.2)))) (fun k => by simp (disch := omega) only [zAa.l0, if_pos, hg]) ?_
  refine ev_bind hp ?_
  by_cases c : e = 0
  ·obtain ⟨b0, b1⟩ := hb c
   simp only [if_pos c, wrap_id (show -9223372036854775808 ≤ ((w + 1 : Nat) : Int) + n by omega) (by omega), wrap_id (show -9223372036854775808 ≤ ((w + 1 : Nat) : Int) + n - 1 by omega) (by omega), wrap_id (show -9223372036854775808 ≤ (i : Int) + 1 by omega) (by omega)]
   by_cases c2 : ((w + 1 : Nat) : Int) + n - 1 = 0
   ·simp only [if_pos c2]
    rw [show w + n.toNat = 0 by omega, scan_zero]
    refine ev_const (fun k => ?_)
    simp only [endRes, List.length_drop]
    congr 2
    omega
   ·simp only [if_neg c2]
    have e2 : ((w + 1 : Nat) : Int) + n - 1 = ((w + n.toNat : Nat) : Int) := by omega
    rw [e2]
    exact ih (i + 1) (w + n.toNat) (by omega) (by omega) (by omega)
  ·simp only [if_neg c]
   exact Ev.now _
theorem endOf_ev (l : List POp) (hl : l.length ≤ 1000000) (i : Nat) (hi : i ≤ l.length) : Ev (fun k => zAa.f k l (i : Int)) (endRes l (scan (l.drop i) 1)) := endOf_loop l hl (l.length - i) i 1 (by omega) (by omega) (by omega)
theorem endRes_fst (l : List POp) (i : Nat) : (endRes l (scan (l.drop i) 1)).1 = endAt l i := by
 unfold endRes endAt
 split <;> simp_all
theorem endsOf_loop (l : List POp) (hl : l.length ≤ 1000000) (d : Nat) : ∀ (i : Nat), i + d = l.length → Ev (fun k => zAX.l0 k l ((List.range i).map (endAt l)) i) ((List.range l.length).map (endAt l), 0) := by
 induction d with
 | zero =>
  intro i hi
  obtain rfl : i = l.length := by omega
  exact ev_now (fun k => by simp (disch := omega) only [zAX.l0, if_neg])
 | succ d ih =>
  intro i hi
  have hq : ((List.range i).map (endAt l)).length < 17592186044416 := by simp; omega
  refine Ev.step (f := fun k => (zAa.f k l (i : Int)).bind fun bt113 => zAX.l0 k l ((List.range i).map (endAt l) ++ [bt113.1]) ((i + 1 : Nat) : Int)) (fun k => ?_) (ev_bind (endOf_ev l hl i (by omega)) ?_)
  ·simp (disch := omega) only [zAX.l0, if_pos, wrap_id]
   rfl
  ·rw [endRes_fst]
   have : (List.range i).map (endAt l) ++ [endAt l i] = (List.range (i + 1)).map (endAt l) := by rw [List.range_succ, List.map_append]; rfl
   rw [this]
   exact ih (i + 1) (by omega)
theorem endsOf_ev (l : List POp) : Ev (fun k => zAX.f k l) (endsS l) := by
 unfold zAX.f endsS
 by_cases c : l.length > 60
 ·have c' : (l.length : Int) > 60 := by omega
  simp only [if_pos c, if_pos c']
  exact Ev.now _
 ·have c' : ¬ (l.length : Int) > 60 := by omega
  simp only [if_neg c, if_neg c']
  have h := endOf_ev l (by omega) 0 (by omega)
  rw [List.drop_zero] at h
  cases hs : scan l 1 with
  | error e =>
   have he : e ≠ 0 := by rcases scan_err _ _ _ hs with h | h <;> omega
   have h : Ev (fun k => zAa.f k l ((0 : Nat) : Int)) (0, e) := by rw [hs] at h; exact h
   refine ev_bind h ?_
   simp only [if_neg he]
   exact Ev.now _
  | ok r =>
   have h : Ev (fun k => zAa.f k l ((0 : Nat) : Int)) ((l.length : Int) - (r.length : Int), 0) := by rw [hs] at h; exact h
   refine ev_bind h ?_
   simp only [if_true]
   by_cases hr : r = []
   ·subst hr
    have hn : ¬ ((l.length : Int) - (([] : List POp).length : Int) < (l.length : Int)) := by simp
    refine Ev.congr (f := fun k => zAX.l0 k l ((List.range 0).map (endAt l)) ((0 : Nat) : Int)) (fun k => by rw [if_neg hn]; rfl) ?_
    exact endsOf_loop l (by omega) l.length 0 (by omega)
   ·have hn : (l.length : Int) - (r.length : Int) < (l.length : Int) := by
     have := List.length_pos_iff.2 hr
     omega
    exact ev_const (fun k => by rw [if_pos hn, if_neg hr])
theorem endsS_ok {l : List POp} (h : (endsS l).2 = 0) : one l ∧ l.length ≤ 60 ∧ endsS l = ((List.range l.length).map (endAt l), 0) := by
 unfold endsS at h ⊢
 by_cases c : l.length > 60
 ·rw [if_pos c] at h; cases h
 rw [if_neg c] at h ⊢
 cases hs : scan l 1 with
 | error e =>
  rw [hs] at h
  rcases scan_err _ _ _ hs with rfl | rfl <;> cases h
 | ok r =>
  rw [hs] at h
  simp only at h ⊢
  by_cases hr : r = []
  ·subst hr
   exact ⟨hs, by omega, by simp⟩
  ·rw [if_neg hr] at h; cases h
theorem endsS_of_one {l : List POp} (h : one l) (hl : l.length ≤ 60) : endsS l = ((List.range l.length).map (endAt l), 0) := by
 unfold endsS
 rw [if_neg (by omega), h]
 rfl
def terms : List POp → Nat → List (List POp)
 | _, 0 => []
 | l, n + 1 => match scan l 1 with
  | .ok r => l.take (l.length - r.length) :: terms r n
  | .error _ => []
def partsL : List POp → List (List POp)
 | [] => []
 | o :: l => terms l (partsS o.f0).1.toNat
theorem terms_one {p q : List POp} {n : Nat} (hp : one p) : terms (p ++ q) (n + 1) = p :: terms q n := by
 show (match scan (p ++ q) 1 with | .ok r => (p ++ q).take ((p ++ q).length - r.length) :: terms r n | .error _ => []) = _
 rw [scan_append p 1 [] q hp]
 simp
theorem partsL_leaf {o : POp} (h : arIs o 0) : partsL [o] = [] := by simp only [partsL, show partsS o.f0 = (0, 0) from h]; rfl
theorem partsL_un {o : POp} {p : List POp} (h : arIs o 1) (hp : one p) : partsL (o :: p) = [p] := by
 simp only [partsL, show partsS o.f0 = (1, 0) from h]
 have := terms_one (q := []) (n := 0) hp
 rw [List.append_nil] at this
 exact this
theorem partsL_bin {o : POp} {p q : List POp} (h : arIs o 2) (hp : one p) (hq : one q) : partsL (o :: (p ++ q)) = [p, q] := by
 simp only [partsL, show partsS o.f0 = (2, 0) from h]
 have := terms_one (q := []) (n := 0) hq
 rw [List.append_nil] at this
 show terms (p ++ q) 2 = _
 rw [terms_one hp, this]
 rfl
def splitS (l : List POp) : List (List POp) × Int := if (endsS l).2 = 0 then (partsL l, 0) else ([], (endsS l).2)
theorem ops_loop (l : List POp) (hl : l.length ≤ 1000000) (hi : Nat) (hh : hi ≤ l.length) (lo : Nat) (d : Nat) : ∀ i : Nat, i + d = hi → lo ≤ i → Ev (fun k => zAt.l0 k l (hi : Int) ((l.take i).drop lo) i) ((l.take hi).drop lo) := by
 induction d with
 | zero =>
  intro i e _
  obtain rfl : i = hi := by omega
  exact ev_now (fun k => by simp (disch := omega) only [zAt.l0, if_neg])
 | succ d ih =>
  intro i e hlo
  have hlt : i < l.length := by omega
  have hg : zAI l i = l[i] := getD_get _ _ _ hlt
  have ht : (l.take i).drop lo ++ [l[i]] = (l.take (i + 1)).drop lo := by
   rw [List.take_succ_eq_append_getElem hlt, List.drop_append_of_le_length (by rw [List.length_take]; omega)]
  have hq : ((l.take i).drop lo).length < 8796093022208 := by rw [List.length_drop, List.length_take]; omega
  refine Ev.step (f := fun k => zAt.l0 k l (hi : Int) ((l.take (i + 1)).drop lo) ((i + 1 : Nat) : Int)) (fun k => ?_) (ih (i + 1) (by omega) (by omega))
  simp (disch := omega) only [zAt.l0, if_pos, hg, wrap_id]
  rw [show ((⟨l[i].f0, l[i].f1⟩ : S96)) = l[i] from rfl, ht]
  rfl
theorem ops_ev (l : List POp) (hl : l.length ≤ 1000000) (lo hi : Nat) (h : lo ≤ hi) (hh : hi ≤ l.length) : Ev (fun k => zAt.f k l (lo : Int) (hi : Int)) ((l.take hi).drop lo) := by
 have := ops_loop l hl hi hh lo (hi - lo) lo (by omega) (Nat.le_refl _)
 rw [List.drop_of_length_le (by rw [List.length_take]; omega)] at this
 exact this
theorem splitOf_loop (l : List POp) (hl : l.length ≤ 60) (n : Nat) (m : Int) : ∀ (at_ : Nat) (acc : List (List POp)) (j : Int), 0 ≤ j → j + n = m → m ≤ 100 → acc.length ≤ 100 → (acc.length : Int) = j → at_ ≤ l.length → scan (l.drop at_) n = .ok [] →
  Ev (fun k => zAg.l0 k l acc m (at_ : Int) j) (acc ++ terms (l.drop at_) n, 0) := by
 induction n with
 | zero =>
  intro at_ acc j h0 h1 h2 h3 h4 h5 h6
  exact ev_now (fun k => by simp (disch := omega) only [zAg.l0, if_neg, terms, List.append_nil])
 | succ n ih =>
  intro at_ acc j h0 h1 h2 h3 h4 h5 h6
  obtain ⟨p, q, hpq, hp, hq, hne⟩ := scan_split h6
  have hlen : l.length - at_ = p.length + q.length := by rw [← List.length_append, ← hpq, List.length_drop]
  have hp0 := one_pos hp
  have hd : l.drop (at_ + p.length) = q := by rw [← List.drop_drop, hpq, List.drop_left]
  have hE : Ev (fun k => zAa.f k l (at_ : Int)) (((at_ + p.length : Nat) : Int), 0) := by
   refine ev_eq (endOf_ev l (by omega) at_ h5) ?_
   rw [hpq, scan_append p 1 [] q hp]
   simp only [endRes, List.nil_append]
   congr 1
   omega
  have hO := ops_ev l (by omega) at_ (at_ + p.length) (by omega) (by omega)
  have ht : (l.take (at_ + p.length)).drop at_ = p := by
   rw [List.drop_take, show at_ + p.length - at_ = p.length by omega, hpq, List.take_left]
  rw [ht] at hO
  rw [hpq, terms_one hp]
  refine Ev.step (f := fun k => (zAa.f k l (at_ : Int)).bind fun bt => ((zAt.f k l (at_ : Int) bt.1).bind fun t164 => zAg.l0 k l (acc ++ [t164]) m bt.1 (j + 1))) (fun k => ?_) (ev_bind hE (ev_bind hO ?_))
  ·simp (disch := omega) only [zAg.l0, if_pos, wrap_id]
  ·have := ih (at_ + p.length) (acc ++ [p]) (j + 1) (by omega) (by omega) h2 (by simp; omega) (by simp; omega) (by omega) (by rw [hd]; exact hq)
   rw [hd] at this
   refine ev_eq this ?_
   simp
theorem splitOf_ev (l : List POp) : Ev (fun k => zAg.f k l) (splitS l) := by
 unfold zAg.f splitS
 refine ev_bind (endsOf_ev l) ?_
 by_cases h : (endsS l).2 = 0
 ·simp only [if_pos h]
  obtain ⟨h1, hl, _⟩ := endsS_ok h
  cases l with
  | nil => exact absurd rfl (one_ne h1)
  | cons o l =>
   have hpos : 0 < ((o :: l).length : Int) := by simp
   simp only [if_pos hpos]
   have hsc := h1
   unfold one at hsc
   rw [scan_cons] at hsc
   split at hsc
   ·rename_i hp
    obtain ⟨b0, b1⟩ := partsS_bd hp
    refine ev_bind (partsOf_ev o.f0) ?_
    have := splitOf_loop (o :: l) hl (partsS o.f0).1.toNat (partsS o.f0).1 1 [] 0 (by omega) (by omega) (by omega) (by simp) (by simp) (by simp) (by simpa using hsc)
    simpa [partsL] using this
   ·cases hsc
 ·simp only [if_neg h]
  exact Ev.now _
def mk (a : Int) : Bool := decide (6 ≤ a ∧ a ≤ 12)
def tk (a : Int) : Bool := decide (8 ≤ a ∧ a ≤ 12)
def mkH : List POp → Bool
 | [] => false
 | o :: _ => mk o.f0
theorem inE_eq (a b c : Int) : zAE.f a b c = some (decide (b ≤ a ∧ a ≤ c)) := by
 unfold zAE.f
 by_cases h : a ≥ b
 ·rw [if_pos h]
  congr 1
  simp only [decide_eq_decide]
  omega
 ·rw [if_neg h]
  congr 1
  exact (decide_eq_false (by omega)).symm
theorem truth_ev (a : Int) : Ev (fun k => zAo.f k a) (mk a, tk a, decide (1 ≤ a ∧ a ≤ 12)) := by
 by_cases h : 1 ≤ a ∧ a ≤ 12
 ·have : a = 1 ∨ a = 2 ∨ a = 3 ∨ a = 4 ∨ a = 5 ∨ a = 6 ∨ a = 7 ∨ a = 8 ∨ a = 9 ∨ a = 10 ∨ a = 11 ∨ a = 12 := by omega
  rcases this with rfl | rfl | rfl | rfl | rfl | rfl | rfl | rfl | rfl | rfl | rfl | rfl <;> exact ev_nows 2 (fun k => rfl)
 ·have e : (mk a, tk a, decide (1 ≤ a ∧ a ≤ 12)) = (false, false, false) := by
   unfold mk tk
   rw [decide_eq_false h, decide_eq_false (by omega), decide_eq_false (by omega)]
  rw [e]
  refine ev_nows 2 (fun k => ?_)
  have h5 : (a == 5) = false := beq_false_of_ne (by omega)
  have h7 : (a == 7) = false := beq_false_of_ne (by omega)
  simp (disch := omega) only [zAo.f, zAo.j0, zAo.j1, if_neg, h5, h7, Bool.false_eq_true, if_false]
def fitsAt (l : List POp) (i : Nat) : Bool := match l.drop i with
 | [] => true
 | o :: t => (terms t (partsS o.f0).1.toNat).all (fun p => mkH p == tk o.f0)
def fitsFrom (l : List POp) (i : Nat) : Nat → Bool
 | 0 => true
 | d + 1 => fitsAt l i && fitsFrom l (i + 1) d
theorem fitsFrom_add (l : List POp) (b : Nat) : ∀ (a i : Nat), fitsFrom l i (a + b) = (fitsFrom l i a && fitsFrom l (i + a) b)
 | 0, i => by simp [fitsFrom]
 | a + 1, i => by
  rw [show a + 1 + b = (a + b) + 1 by omega, fitsFrom, fitsFrom, fitsFrom_add l b a (i + 1), Bool.and_assoc, show i + 1 + a = i + (a + 1) by omega]
theorem terms_append : ∀ (n : Nat) (l r s : List POp), scan l n = .ok r → terms (l ++ s) n = terms l n
 | 0, l, r, s, h => rfl
 | n + 1, l, r, s, h => by
  obtain ⟨p, q, rfl, hp, hq, _⟩ := scan_split h
  rw [List.append_assoc, terms_one hp, terms_one hp, terms_append n q r s hq]
theorem fitsAt_append {l s : List POp} (h : ∀ i, i < l.length → ∃ r, scan (l.drop i) 1 = .ok r) (i : Nat) (hi : i < l.length) : fitsAt (l ++ s) i = fitsAt l i := by
 obtain ⟨r, hr⟩ := h i hi
 unfold fitsAt
 rw [List.drop_append_of_le_length (by omega)]
 rw [List.drop_eq_getElem_cons hi] at hr ⊢
 rw [scan_cons] at hr
 split at hr
 ·rename_i hp
  simp only [List.cons_append]
  rw [terms_append _ _ r s (by simpa using hr)]
 ·cases hr
theorem fitsFrom_congr {l l' : List POp} {j : Nat} : ∀ (d i : Nat), (∀ m, i ≤ m → m < i + d → fitsAt l' (j + m) = fitsAt l m) → fitsFrom l' (j + i) d = fitsFrom l i d
 | 0, i, h => rfl
 | d + 1, i, h => by
  rw [fitsFrom, fitsFrom, h i (by omega) (by omega), show j + i + 1 = j + (i + 1) by omega, fitsFrom_congr d (i + 1) (fun m h1 h2 => h m (by omega) (by omega))]
def typB (l : List POp) : Bool := fitsFrom l 0 l.length
theorem typB_un {o : POp} {p : List POp} (a : arIs o 1) (hp : one p) : typB (o :: p) = (fitsAt (o :: p) 0 && typB p) := by
 unfold typB
 rw [List.length_cons, fitsFrom]
 congr 1
 have := fitsFrom_congr (l := p) (l' := o :: p) (j := 1) p.length 0 (fun m _ _ => by rw [Nat.add_comm]; rfl)
 exact this
theorem typB_bin {o : POp} {p q : List POp} (a : arIs o 2) (hp : one p) (hq : one q) : typB (o :: (p ++ q)) = (fitsAt (o :: (p ++ q)) 0 && (typB p && typB q)) := by
 unfold typB
 rw [List.length_cons, fitsFrom, List.length_append, fitsFrom_add]
 congr 1
 congr 1
 ·exact fitsFrom_congr (l := p) (l' := o :: (p ++ q)) (j := 1) p.length 0 (fun m _ h => by
   rw [Nat.add_comm]
   exact fitsAt_append (one_places p hp) m (by omega))
 ·have := fitsFrom_congr (l := q) (l' := o :: (p ++ q)) (j := p.length + 1) q.length 0 (fun m _ h => by
   rw [show p.length + 1 + m = (p.length + m) + 1 by omega]
   unfold fitsAt
   rw [List.drop_succ_cons, List.drop_append, List.drop_of_length_le (by omega), List.nil_append, show p.length + m - p.length = m by omega])
  rw [show 0 + 1 + p.length = p.length + 1 + 0 by omega]
  exact this
theorem fitsAt_zero (o : POp) (l : List POp) : fitsAt (o :: l) 0 = (partsL (o :: l)).all (fun p => mkH p == tk o.f0) := rfl
def fitE (n : Int) (o : POp) : Int := if 12 < o.f0 then 13 else if o.f0 = 1 then (if -1000 ≤ o.f1 ∧ o.f1 ≤ 1000 then 0 else 2) else if o.f0 = 2 then (if 0 ≤ o.f1 ∧ o.f1 ≤ n - 1 then 0 else 2) else if o.f1 = 0 then 0 else 2
def chkE (n : Int) : List POp → Int
 | [] => 0
 | o :: l => if fitE n o = 0 then chkE n l else fitE n o
def exprS (l : List POp) (n : Int) : Bool × Int := if 0 ≤ n ∧ n ≤ 6 then (if (endsS l).2 = 0 then (if chkE n l = 0 then (if typB l = true then (mkH l, 0) else (false, 5)) else (false, chkE n l)) else (false, (endsS l).2)) else (false, 2)
theorem op_ev (o : POp) (n : Int) (hn : 0 ≤ n ∧ n ≤ 6) (h1 : 1 ≤ o.f0) : Ev (fun k => zBQ.f k o.f0 o.f1 n) (fitE n o) := by
 unfold zBQ.f
 refine ev_bind (truth_ev o.f0) ?_
 refine ev_const (fun k => ?_)
 unfold fitE
 by_cases h : 12 < o.f0
 ·rw [if_pos h, if_neg (by simp; omega)]
 ·rw [if_neg h, if_pos (decide_eq_true (by omega))]
  by_cases e1 : o.f0 = 1
  ·simp only [if_pos e1]
   by_cases c : o.f1 < -1000
   ·rw [if_pos c, if_neg (by omega)]
   ·rw [if_neg c]
    by_cases c : o.f1 > 1000
    ·rw [if_pos c, if_neg (by omega)]
    ·rw [if_neg c, if_pos (by omega)]
  ·simp only [if_neg e1]
   by_cases e2 : o.f0 = 2
   ·simp only [if_pos e2]
    rw [wrap_id (by omega) (by omega)]
    by_cases c : o.f1 < 0
    ·rw [if_pos c, if_neg (by omega)]
    ·rw [if_neg c]
     by_cases c : o.f1 > n - 1
     ·rw [if_pos c, if_neg (by omega)]
     ·rw [if_neg c, if_pos (by omega)]
   ·simp only [if_neg e2]
    by_cases c : o.f1 < 0
    ·rw [if_pos c, if_neg (by omega)]
    ·rw [if_neg c]
     by_cases c : o.f1 > 0
     ·rw [if_pos c, if_neg (by omega)]
     ·rw [if_neg c, if_pos (by omega)]
theorem one_kinds {l : List POp} (h : one l) (i : Nat) (hi : i < l.length) : (partsS l[i].f0).2 = 0 ∧ 1 ≤ l[i].f0 ∧ l[i].f0 ≤ 18 := by
 obtain ⟨r, hr⟩ := one_places l h i hi
 rw [List.drop_eq_getElem_cons hi, scan_cons] at hr
 split at hr
 ·rename_i hp
  refine ⟨hp, ?_⟩
  unfold partsS at hp
  split at hp
  ·cases hp
  ·omega
 ·cases hr
theorem zBe (l : List POp) (hl : l.length ≤ 60) (h1 : one l) (i : Nat) (hi : i < l.length) (t : Bool) (e : Nat) (he : e ≤ l.length) (hE : endAt l i = (e : Int)) (r : Bool × Int) (hr : Ev (fun k => zAj.l1 k l ((List.range l.length).map (endAt l)) l (l.length : Int) ((i + 1 : Nat) : Int)) r) (n : Nat) : ∀ k0 : Nat, k0 ≤ l.length → scan (l.drop k0) n = .ok (l.drop e) →
  Ev (fun k => zAj.l2 k l ((List.range l.length).map (endAt l)) (i : Int) t (k0 : Int) l (l.length : Int) (i : Int)) (if (terms (l.drop k0) n).all (fun p => mkH p == t) = true then r else (false, 5)) := by
 have hll : ((List.range l.length).map (endAt l)).length = l.length := by simp
 have hrd : ∀ j, j < l.length → rd ((List.range l.length).map (endAt l)) (j : Int) = endAt l j := fun j hj => by rw [rd_get _ _ (by simpa using hj)]; simp
 induction n with
 | zero =>
  intro k0 hk h
  rw [scan_zero] at h
  have := congrArg List.length (Except.ok.inj h)
  rw [List.length_drop, List.length_drop] at this
  obtain rfl : k0 = e := by omega
  have ht : terms (l.drop k0) 0 = [] := by unfold terms; rfl
  rw [ht]
  simp only [List.all_nil, if_true]
  refine Ev.step (fun k => ?_) hr
  simp (disch := omega) only [zAj.l2, if_pos, hll, hrd i hi, hE, if_neg, wrap_id]
  rfl
 | succ n ih =>
  intro k0 hk h
  obtain ⟨p, q, hpq, hp, hq, hne⟩ := scan_split h
  have hp0 := one_pos hp
  have hlen : l.length - k0 = p.length + q.length := by rw [← List.length_append, ← hpq, List.length_drop]
  have hke : k0 + p.length ≤ e := by
   obtain ⟨j, h2, h3, h4⟩ := scan_suffix _ _ _ hq
   have := congrArg List.length h3
   rw [List.length_drop, List.length_drop] at this
   omega
  have hk2 : k0 < l.length := by omega
  have hd : l.drop (k0 + p.length) = q := by rw [← List.drop_drop, hpq, List.drop_left]
  have hek : endAt l k0 = ((k0 + p.length : Nat) : Int) := by
   unfold endAt
   rw [hpq, scan_append p 1 [] q hp]
   simp only [List.nil_append]
   omega
  have hg : zAI l k0 = l[k0] := getD_get _ _ _ hk2
  have hH : mkH p = mk l[k0].f0 := by
   rw [List.drop_eq_getElem_cons hk2] at hpq
   cases p with
   | nil => exact absurd rfl hne
   | cons o p => exact congrArg (fun o : POp => mk o.f0) (List.cons.inj hpq).1.symm
  have := ih (k0 + p.length) (by omega) (by rw [hd]; exact hq)
  rw [hd] at this
  rw [hpq, terms_one hp, List.all_cons, hH]
  refine Ev.step (f := fun k => (zAo.f k l[k0].f0).bind fun bt277 => (if (bt277.1 != t) = true then (some (false, 5)) else (zAj.l2 k l ((List.range l.length).map (endAt l)) (i : Int) t ((k0 + p.length : Nat) : Int) l (l.length : Int) (i : Int)))) (fun k => ?_) (ev_bind (truth_ev _) ?_)
  ·have hlt2 : (k0 : Int) < (e : Int) := by omega
   simp (disch := omega) only [zAj.l2, if_pos, hll, hrd i hi, hE, hrd k0 hk2, hek, hg, hlt2, if_true]
  ·by_cases c : mk l[k0].f0 = t
   ·simp only [c, bne_self_eq_false, Bool.false_eq_true, if_false, beq_self_eq_true, Bool.true_and]
    exact this
   ·have c1 : (mk l[k0].f0 != t) = true := by simpa using c
    have c2 : (mk l[k0].f0 == t) = false := by simpa using c
    simp only [c1, if_true, c2, Bool.false_and, Bool.false_eq_true, if_false]
    exact Ev.now _
theorem zBd (l : List POp) (hl : l.length ≤ 60) (h1 : one l) (d : Nat) : ∀ i : Nat, i + d = l.length →
  Ev (fun k => zAj.l1 k l ((List.range l.length).map (endAt l)) l (l.length : Int) (i : Int)) (if fitsFrom l i d = true then (mkH l, 0) else (false, 5)) := by
 induction d with
 | zero =>
  intro i hi
  obtain rfl : i = l.length := by omega
  have hp := one_pos h1
  have hg : zAI l ((0 : Nat) : Int) = l[0] := getD_get _ _ _ hp
  have hH : mkH l = mk l[0].f0 := by cases l with | nil => cases h1 | cons o l => rfl
  simp only [fitsFrom, if_true]
  refine Ev.step (f := fun k => (zAo.f k l[0].f0).bind fun bt267 => (some (bt267.1, 0))) (fun k => ?_) (ev_bind (truth_ev _) ?_)
  ·simp (disch := omega) only [zAj.l1, if_neg, if_pos]
   rw [← hg]
   rfl
  ·rw [hH]; exact Ev.now _
 | succ d ih =>
  intro i hi
  have hlt : i < l.length := by omega
  have hg : zAI l i = l[i] := getD_get _ _ _ hlt
  obtain ⟨hb1, hb2⟩ := endAt_bd h1 i hlt
  obtain ⟨r, hr⟩ := one_places l h1 i hlt
  obtain ⟨j, hj1, rfl, hj2⟩ := scan_suffix _ _ _ hr
  rw [List.length_drop] at hj1
  have hE : endAt l i = ((i + j : Nat) : Int) := by
   unfold endAt
   rw [hr]
   simp only [List.length_drop]
   omega
  rw [List.drop_drop] at hr
  have hfa : fitsAt l i = (terms (l.drop (i + 1)) (partsS l[i].f0).1.toNat).all (fun p => mkH p == tk l[i].f0) := by
   unfold fitsAt
   rw [List.drop_eq_getElem_cons hlt]
  have hs : scan (l.drop (i + 1)) (partsS l[i].f0).1.toNat = .ok (l.drop (i + j)) := by
   rw [List.drop_eq_getElem_cons hlt, scan_cons, if_pos (one_kinds h1 i hlt).1] at hr
   simpa using hr
  have := zBe l hl h1 i hlt (tk l[i].f0) (i + j) (by omega) hE _ (ih (i + 1) (by omega)) _ (i + 1) (by omega) hs
  rw [← hfa] at this
  rw [fitsFrom]
  refine Ev.step (f := fun k => (zAo.f k l[i].f0).bind fun bt272 => (zAj.l2 k l ((List.range l.length).map (endAt l)) (i : Int) bt272.2.1 ((i + 1 : Nat) : Int) l (l.length : Int) (i : Int))) (fun k => ?_) (ev_bind (truth_ev _) (ev_eq this ?_))
  ·simp (disch := omega) only [zAj.l1, if_pos, hg, wrap_id]
   rfl
  ·cases fitsAt l i <;> cases fitsFrom l (i + 1) d <;> rfl
theorem zBc (l : List POp) (hl : l.length ≤ 60) (h1 : one l) (n : Int) (hn : 0 ≤ n ∧ n ≤ 6) (d : Nat) : ∀ i : Nat, i + d = l.length →
  Ev (fun k => zAj.l0 k l n ((List.range l.length).map (endAt l)) l (l.length : Int) (i : Int)) (if chkE n (l.drop i) = 0 then (if typB l = true then (mkH l, 0) else (false, 5)) else (false, chkE n (l.drop i))) := by
 induction d with
 | zero =>
  intro i hi
  obtain rfl : i = l.length := by omega
  rw [List.drop_of_length_le (Nat.le_refl _)]
  simp only [chkE, if_true]
  refine Ev.step (fun k => ?_) (zBd l hl h1 l.length 0 (by omega))
  simp (disch := omega) only [zAj.l0, if_neg]
  rfl
 | succ d ih =>
  intro i hi
  have hlt : i < l.length := by omega
  have hg : zAI l i = l[i] := getD_get _ _ _ hlt
  have := ih (i + 1) (by omega)
  rw [List.drop_eq_getElem_cons hlt]
  unfold chkE
  refine Ev.step (f := fun k => (zBQ.f k l[i].f0 l[i].f1 n).bind fun t265 => (if t265 = 0 then (zAj.l0 k l n ((List.range l.length).map (endAt l)) l (l.length : Int) ((i + 1 : Nat) : Int)) else (some (false, t265)))) (fun k => ?_) (ev_bind (op_ev l[i] n hn (one_kinds h1 i hlt).2.1) ?_)
  ·simp (disch := omega) only [zAj.l0, if_pos, hg, wrap_id]
   rfl
  ·by_cases c : fitE n l[i] = 0
   ·simp only [if_pos c]
    exact this
   ·simp only [if_neg c]
    exact Ev.now _
theorem exprCheck_ev (l : List POp) (n : Int) (w : -9223372036854775808 ≤ n ∧ n ≤ 9223372036854775807) : Ev (fun k => zAj.f k l n) (exprS l n) := by
 have key : Ev (fun k => zAj.j0 k l n (decide (n < 0 ∨ n > 6))) (exprS l n) := by
  unfold exprS
  by_cases h : 0 ≤ n ∧ n ≤ 6
  ·rw [if_pos h, decide_eq_false (by omega)]
   refine Ev.step (f := fun k => (zBD.f l).bind fun bt259 => (if bt259.2 = 0 then (zAj.l0 k l n bt259.1 l (l.length : Int) 0) else (some (false, bt259.2)))) (fun k => by simp only [zAj.j0, Bool.false_eq_true, if_false]) ?_
   refine ev_call (a := endsS l) rfl ?_
   by_cases he : (endsS l).2 = 0
   ·simp only [if_pos he]
    obtain ⟨h1, hl, hes⟩ := endsS_ok he
    rw [hes]
    exact zBc l hl h1 n h l.length 0 (by omega)
   ·simp only [if_neg he]
    exact Ev.now _
  ·rw [if_neg h, decide_eq_true (by omega)]
   exact ev_now (fun k => by simp only [zAj.j0, if_true])
 refine Ev.congr (fun k => ?_) key
 unfold zAj.f
 by_cases h : n < 0
 ·rw [if_pos h, decide_eq_true (.inl h)]
 ·rw [if_neg h]
  congr 1
  simp only [decide_eq_decide]
  omega
theorem typed_loop (l : List POp) (o : POp) (hl : 0 < l.length) (ho : l[0] = o) (t : Bool) (ht : t = decide (8 ≤ o.f0 ∧ o.f0 ≤ 10)) (P : List (List POp)) (hP : P.length ≤ 60) (hD : ∀ x ∈ P, x ≠ [] ∧ Ev (fun k => zAU.f k x) (if typB x = true then 0 else 5)) (d : Nat) : ∀ i : Nat, i + d = P.length →
  Ev (fun k => zAU.l0 k l P (i : Int)) (if (P.drop i).all (fun p => (mkH p == t) && typB p) = true then 0 else 5) := by
 induction d with
 | zero =>
  intro i hi
  rw [List.drop_of_length_le (by omega)]
  exact ev_now (fun k => by simp (disch := omega) only [zAU.l0, if_neg]; rfl)
 | succ d ih =>
  intro i hi
  have hlt : i < P.length := by omega
  have hg : zBB P i = P[i] := getD_get _ _ _ hlt
  obtain ⟨h1, h2⟩ := hD P[i] (List.getElem_mem hlt)
  have hp : 0 < P[i].length := List.length_pos_iff.2 h1
  have hg2 : zAI P[i] 0 = P[i][0] := getD_get _ P[i] 0 hp
  have hg3 : zAI l 0 = o := by rw [← ho]; exact getD_get _ l 0 hl
  have hm : mkH P[i] = decide (6 ≤ P[i][0].f0 ∧ P[i][0].f0 ≤ 12) := by
   generalize P[i] = x at h1 hp ⊢
   cases x with
   | nil => exact absurd rfl h1
   | cons a x => rfl
  have hmk : zA3.f P[i][0].f0 = some (mkH P[i]) := by unfold zA3.f; rw [inE_eq, hm]; rfl
  have htk : zA9.f o.f0 = some t := by unfold zA9.f; rw [inE_eq, ht]; rfl
  rw [List.drop_eq_getElem_cons hlt, List.all_cons]
  by_cases c : mkH P[i] = t
  ·refine Ev.step (f := fun k => (zAU.f k P[i]).bind fun t293 => (if t293 = 0 then (zAU.l0 k l P ((i + 1 : Nat) : Int)) else (some 5))) (fun k => ?_) (ev_bind h2 ?_)
   ·simp (disch := omega) only [zAU.l0, if_pos, hg, hg2, hg3, hmk, htk, Option.bind_some, c, bne_self_eq_false, Bool.false_eq_true, if_false, wrap_id]
    rfl
   ·by_cases ct : typB P[i] = true
    ·simp only [if_pos ct, if_true, c, beq_self_eq_true, ct, Bool.true_and]
     exact ih (i + 1) (by omega)
    ·have ct' : typB P[i] = false := by simpa using ct
     refine ev_const (fun k => ?_)
     simp [ct']
  ·have c1 : (mkH P[i] != t) = true := by simpa using c
   have c2 : (mkH P[i] == t) = false := by simpa using c
   rw [c2]
   refine ev_now (fun k => ?_)
   simp (disch := omega) only [zAU.l0, if_pos, hg, hg2, hg3, hmk, htk, Option.bind_some, c1, if_true, Bool.false_and, Bool.false_eq_true, if_false]
theorem typed_ev : ∀ l, one l → l.length ≤ 60 → Ev (fun k => zAU.f k l) (if typB l = true then 0 else 5) := by
 have key : ∀ (o : POp) (l : List POp), one (o :: l) → (o :: l).length ≤ 60 → (partsL (o :: l)).length ≤ 60 → (∀ x ∈ partsL (o :: l), x ≠ [] ∧ Ev (fun k => zAU.f k x) (if typB x = true then 0 else 5)) → (partsL (o :: l)).all (fun p => (mkH p == decide (8 ≤ o.f0 ∧ o.f0 ≤ 10)) && typB p) = typB (o :: l) → Ev (fun k => zAU.f k (o :: l)) (if typB (o :: l) = true then 0 else 5) := by
  intro o l h1 hl hn hx he
  have h0 := typed_loop (o :: l) o (by simp) rfl _ rfl (partsL (o :: l)) hn hx (partsL (o :: l)).length 0 (by omega)
  rw [List.drop_zero, he] at h0
  have hs : splitS (o :: l) = (partsL (o :: l), 0) := by unfold splitS; rw [endsS_of_one h1 hl]; rfl
  refine Ev.step (f := fun k => (zAg.f k (o :: l)).bind fun bt283 => (zAU.l0 k (o :: l) bt283.1 0)) (fun k => rfl) (ev_bind (ev_eq (splitOf_ev (o :: l)) hs) ?_)
  exact h0
 have hne : ∀ o : POp, ∀ n : Nat, arIs o (n + 1) → decide (8 ≤ o.f0 ∧ o.f0 ≤ 10) = tk o.f0 := by
  intro o n h
  unfold tk
  simp only [decide_eq_decide]
  refine ⟨fun h => by omega, fun h2 => ?_⟩
  have : o.f0 ≠ 11 := fun e => by
   unfold arIs at h
   rw [e] at h
   have := congrArg Prod.fst h
   simp [partsS, polishTab] at this
   omega
  have : o.f0 ≠ 12 := fun e => by
   unfold arIs at h
   rw [e] at h
   have := congrArg Prod.fst h
   simp [partsS, polishTab] at this
   omega
  omega
 refine one_ind ?_ ?_ ?_
 ·intro o a hl
  refine key _ _ (one_leaf a) hl ?_ ?_ ?_
  ·rw [partsL_leaf a]; simp
  ·rw [partsL_leaf a]; simp
  ·unfold typB
   simp only [List.length_singleton, fitsFrom, fitsAt_zero, partsL_leaf a]
   rfl
 ·intro o p a hp ih hl
  simp at hl
  refine key _ _ (one_un a hp) (by simpa using hl) ?_ ?_ ?_
  ·rw [partsL_un a hp]; simp
  ·rw [partsL_un a hp]
   simp only [List.mem_singleton]
   rintro x rfl
   exact ⟨one_ne hp, ih (by omega)⟩
  ·rw [typB_un a hp, fitsAt_zero, partsL_un a hp, hne o 0 a]
   simp
 ·intro o p q a hp hq ihp ihq hl
  simp at hl
  refine key _ _ (one_bin a hp hq) (by simpa using hl) ?_ ?_ ?_
  ·rw [partsL_bin a hp hq]; simp
  ·rw [partsL_bin a hp hq]
   simp only [List.mem_cons, List.not_mem_nil, or_false]
   rintro x (rfl | rfl)
   ·exact ⟨one_ne hp, ihp (by omega)⟩
   ·exact ⟨one_ne hq, ihq (by omega)⟩
  ·rw [typB_bin a hp hq, fitsAt_zero, partsL_bin a hp hq, hne o 1 a]
   simp only [List.all_cons, List.all_nil, Bool.and_true]
   cases mkH p == tk o.f0 <;> cases mkH q == tk o.f0 <;> cases typB p <;> cases typB q <;> rfl
theorem exprChecked_l0 (l : List POp) (hl : l.length ≤ 60) (h1 : one l) (n : Int) (hn : 0 ≤ n ∧ n ≤ 6) (d : Nat) : ∀ i : Nat, i + d = l.length →
  Ev (fun k => zAM.l0 k l n (i : Int)) (if chkE n (l.drop i) = 0 then (if typB l = true then (mkH l, 0) else (false, 5)) else (false, chkE n (l.drop i))) := by
 induction d with
 | zero =>
  intro i hi
  obtain rfl : i = l.length := by omega
  have hp := one_pos h1
  have hg : zAI l 0 = l[0] := getD_get _ l 0 hp
  have hH : mkH l = decide (6 ≤ l[0].f0 ∧ l[0].f0 ≤ 12) := by cases l with | nil => cases h1 | cons o l => rfl
  have hmk : zA3.f l[0].f0 = some (mkH l) := by unfold zA3.f; rw [inE_eq, hH]; rfl
  rw [List.drop_of_length_le (Nat.le_refl _)]
  simp only [chkE, if_true]
  refine Ev.step (f := fun k => (zAU.f k l).bind fun t304 => (if t304 = 0 then some (mkH l, 0) else (some (false, 5)))) (fun k => ?_) (ev_bind (typed_ev l h1 hl) ?_)
  ·simp (disch := omega) only [zAM.l0, if_neg, if_pos, hg, hmk, Option.bind_some]
  ·by_cases c : typB l = true
   ·simp only [if_pos c, if_true]
    exact Ev.now _
   ·refine ev_const (fun k => ?_)
    simp only [if_neg c]
    rfl
 | succ d ih =>
  intro i hi
  have hlt : i < l.length := by omega
  have hg : zAI l i = l[i] := getD_get _ _ _ hlt
  have := ih (i + 1) (by omega)
  have hk := (one_kinds h1 i hlt).2.1
  rw [List.drop_eq_getElem_cons hlt]
  unfold chkE
  by_cases c12 : 12 < l[i].f0
  ·have hf : fitE n l[i] = 13 := by unfold fitE; rw [if_pos c12]
   rw [if_neg (show ¬ fitE n l[i] = 0 by rw [hf]; decide), hf, if_neg (show ¬ (13 : Int) = 0 by decide)]
   exact ev_now (fun k => by simp (disch := omega) only [zAM.l0, if_pos, hg])
  have c12' : ¬ l[i].f0 > 12 := c12
  by_cases c : fitE n l[i] = 0
  ·rw [if_pos c]
   refine Ev.step (fun k => ?_) this
   unfold fitE at c
   rw [if_neg c12] at c
   by_cases e1 : l[i].f0 = 1
   ·rw [if_pos e1] at c
    have h : -1000 ≤ l[i].f1 ∧ l[i].f1 ≤ 1000 := by by_cases h : -1000 ≤ l[i].f1 ∧ l[i].f1 ≤ 1000; exact h; rw [if_neg h] at c; cases c
    have e2 : ¬ l[i].f0 = 2 := by omega
    have e3 : ¬ l[i].f0 > 2 := by omega
    simp (disch := omega) only [zAM.l0, if_pos, hg, if_neg c12', if_pos e1, inE_eq, decide_eq_true h, Option.bind_some, if_true, if_neg e2, if_neg e3, wrap_id]
    rfl
   ·rw [if_neg e1] at c
    by_cases e2 : l[i].f0 = 2
    ·rw [if_pos e2] at c
     have h : 0 ≤ l[i].f1 ∧ l[i].f1 ≤ n - 1 := by by_cases h : 0 ≤ l[i].f1 ∧ l[i].f1 ≤ n - 1; exact h; rw [if_neg h] at c; cases c
     have e3 : ¬ l[i].f0 > 2 := by omega
     have wn : wrap64 (n - 1) = n - 1 := wrap_id (by omega) (by omega)
     simp (disch := omega) only [zAM.l0, if_pos, hg, if_neg c12', if_neg e1, if_pos e2, inE_eq, wn, decide_eq_true h, Option.bind_some, if_true, if_neg e3, wrap_id]
     rfl
    ·rw [if_neg e2] at c
     have h : l[i].f1 = 0 := by by_cases h : l[i].f1 = 0; exact h; rw [if_neg h] at c; cases c
     have e3 : l[i].f0 > 2 := by omega
     simp (disch := omega) only [zAM.l0, if_pos, hg, if_neg c12', if_neg e1, if_neg e2, if_pos e3, if_pos h, wrap_id]
     rfl
  ·have c2 : fitE n l[i] = 2 := by
    unfold fitE at c ⊢
    rw [if_neg c12] at c ⊢
    by_cases e1 : l[i].f0 = 1
    ·rw [if_pos e1] at c ⊢
     split <;> simp_all
    ·rw [if_neg e1] at c ⊢
     by_cases e2 : l[i].f0 = 2
     ·rw [if_pos e2] at c ⊢
      split <;> simp_all
     ·rw [if_neg e2] at c ⊢
      split <;> simp_all
   rw [if_neg c, c2, if_neg (show ¬ (2 : Int) = 0 by decide)]
   refine ev_now (fun k => ?_)
   unfold fitE at c
   rw [if_neg c12] at c
   by_cases e1 : l[i].f0 = 1
   ·rw [if_pos e1] at c
    have h : ¬ (-1000 ≤ l[i].f1 ∧ l[i].f1 ≤ 1000) := fun h => c (if_pos h)
    simp (disch := omega) only [zAM.l0, if_pos, hg, if_neg c12', if_pos e1, inE_eq, decide_eq_false h, Option.bind_some, Bool.false_eq_true, if_false]
   ·rw [if_neg e1] at c
    by_cases e2 : l[i].f0 = 2
    ·rw [if_pos e2] at c
     have h : ¬ (0 ≤ l[i].f1 ∧ l[i].f1 ≤ n - 1) := fun h => c (if_pos h)
     have wn : wrap64 (n - 1) = n - 1 := wrap_id (by omega) (by omega)
     simp (disch := omega) only [zAM.l0, if_pos, hg, if_neg c12', if_neg e1, if_pos e2, inE_eq, wn, decide_eq_false h, Option.bind_some, Bool.false_eq_true, if_false]
    ·rw [if_neg e2] at c
     have h : ¬ l[i].f1 = 0 := fun h => c (if_pos h)
     have e3 : l[i].f0 > 2 := by omega
     simp (disch := omega) only [zAM.l0, if_pos, hg, if_neg c12', if_neg e1, if_neg e2, if_pos e3, if_neg h]
theorem exprChecked_ev (l : List POp) (n : Int) (w : -9223372036854775808 ≤ n ∧ n ≤ 9223372036854775807) : Ev (fun k => zAM.f k l n) (exprS l n) := by
 unfold zAM.f exprS
 refine ev_call (inE_eq n 0 6) ?_
 by_cases h : 0 ≤ n ∧ n ≤ 6
 ·simp only [decide_eq_true h, if_true, if_pos h]
  refine ev_bind (endsOf_ev l) ?_
  by_cases he : (endsS l).2 = 0
  ·simp only [if_pos he]
   obtain ⟨h1, hl, _⟩ := endsS_ok he
   exact exprChecked_l0 l hl h1 n h l.length 0 (by omega)
  ·simp only [if_neg he]
   exact Ev.now _
 ·simp only [decide_eq_false h, Bool.false_eq_true, if_false, if_neg h]
  exact Ev.now _
def doVal (kd a b : Int) : Int := if kd = 3 then a + b else if kd = 4 then a - b else if kd = 5 then a * b else if kd = 6 then (if a = b then 1 else 0) else if kd = 7 then (if a < b then 1 else 0) else if kd = 8 then Go.bits .and .i64 a b else Go.bits .or .i64 a b
def pushS (n : Int) (s : List Int) : Except Int (List Int) := if n < -1000000 ∨ 1000000 < n then .error 8 else .ok (s ++ [n])
def stepS (env : List Int) (o : POp) (stk : List Int) : Except Int (List Int) :=
 if o.f0 = 1 then pushS o.f1 stk else if o.f0 = 2 then pushS (rd env o.f1) stk else if o.f0 = 11 then pushS 1 stk else if o.f0 = 12 then pushS 0 stk
 else if o.f0 = 10 then pushS (1 - stk.getLastD 0) stk.dropLast
 else pushS (doVal o.f0 (stk.getLastD 0) (stk.dropLast.getLastD 0)) stk.dropLast.dropLast
def runS (env : List Int) : List POp → Except Int (List Int)
 | [] => .ok []
 | o :: l => match runS env l with
  | .error c => .error c
  | .ok stk => stepS env o stk
def inR (x : Int) : Bool := decide (-1000000 ≤ x ∧ x ≤ 1000000)
def evalS (l : List POp) (env : List Int) : Int × Int :=
 if (exprS l env.length).2 = 0 then (if env.all inR then (match runS env l with | .error c => (0, c) | .ok stk => (stk.getLastD 0, 0)) else (0, 2)) else (0, (exprS l env.length).2)
theorem pushS_ok {n : Int} {s t : List Int} (h : pushS n s = .ok t) : t = s ++ [n] ∧ -1000000 ≤ n ∧ n ≤ 1000000 := by
 unfold pushS at h
 split at h
 ·cases h
 ·cases h; exact ⟨rfl, by omega, by omega⟩
theorem pushS_err {n : Int} {s : List Int} {c : Int} (h : pushS n s = .error c) : c = 8 := by
 unfold pushS at h
 split at h
 ·cases h; rfl
 ·cases h
theorem stepS_cases (env : List Int) (o : POp) (stk : List Int) : ∃ n s, stepS env o stk = pushS n s ∧ s.length + (if o.f0 = 1 ∨ o.f0 = 2 ∨ o.f0 = 11 ∨ o.f0 = 12 then 0 else if o.f0 = 10 then min 1 stk.length else min 2 stk.length) = stk.length ∧ ∀ x ∈ s, x ∈ stk := by
 unfold stepS
 by_cases k1 : o.f0 = 1
 ·rw [if_pos k1]; exact ⟨_, _, rfl, by rw [if_pos (.inl k1)]; omega, fun x h => h⟩
 rw [if_neg k1]
 by_cases k2 : o.f0 = 2
 ·rw [if_pos k2]; exact ⟨_, _, rfl, by rw [if_pos (.inr (.inl k2))]; omega, fun x h => h⟩
 rw [if_neg k2]
 by_cases k3 : o.f0 = 11
 ·rw [if_pos k3]; exact ⟨_, _, rfl, by rw [if_pos (.inr (.inr (.inl k3)))]; omega, fun x h => h⟩
 rw [if_neg k3]
 by_cases k4 : o.f0 = 12
 ·rw [if_pos k4]; exact ⟨_, _, rfl, by rw [if_pos (.inr (.inr (.inr k4)))]; omega, fun x h => h⟩
 rw [if_neg k4]
 have hn : ¬ (o.f0 = 1 ∨ o.f0 = 2 ∨ o.f0 = 11 ∨ o.f0 = 12) := by omega
 rw [if_neg hn]
 by_cases k5 : o.f0 = 10
 ·rw [if_pos k5, if_pos k5]
  exact ⟨_, _, rfl, by rw [List.length_dropLast]; omega, fun x h => (List.dropLast_sublist _).subset h⟩
 ·rw [if_neg k5, if_neg k5]
  exact ⟨_, _, rfl, by rw [List.length_dropLast, List.length_dropLast]; omega, fun x h => (List.dropLast_sublist _).subset ((List.dropLast_sublist _).subset h)⟩
theorem parts_of_kind {o : POp} {n : Int} (h1 : (partsS o.f0).2 = 0) (h2 : fitE n o = 0) : 1 ≤ o.f0 ∧ o.f0 ≤ 12 ∧ (partsS o.f0).1.toNat = (if o.f0 = 1 ∨ o.f0 = 2 ∨ o.f0 = 11 ∨ o.f0 = 12 then 0 else if o.f0 = 10 then 1 else 2) := by
 have a : ¬ (o.f0 < 1 ∨ 18 < o.f0) := by
  intro hc
  unfold partsS at h1
  rw [if_pos hc] at h1
  cases h1
 have b : ¬ 12 < o.f0 := by
  intro hc
  unfold fitE at h2
  rw [if_pos hc] at h2
  cases h2
 refine ⟨by omega, by omega, ?_⟩
 have : o.f0 = 1 ∨ o.f0 = 2 ∨ o.f0 = 3 ∨ o.f0 = 4 ∨ o.f0 = 5 ∨ o.f0 = 6 ∨ o.f0 = 7 ∨ o.f0 = 8 ∨ o.f0 = 9 ∨ o.f0 = 10 ∨ o.f0 = 11 ∨ o.f0 = 12 := by omega
 rcases this with e | e | e | e | e | e | e | e | e | e | e | e <;> (rw [e]; decide)
theorem run_len (env : List Int) {n : Int} : ∀ (l : List POp) (m : Nat) (stk : List Int), (∀ o ∈ l, fitE n o = 0) → scan l m = .ok [] → runS env l = .ok stk → stk.length = m ∧ ∀ x ∈ stk, -1000000 ≤ x ∧ x ≤ 1000000
 | [], 0, stk, hf, hs, h => by cases h; exact ⟨rfl, by simp⟩
 | [], m + 1, stk, hf, hs, h => by cases hs
 | o :: l, 0, stk, hf, hs, h => by rw [scan_zero] at hs; cases hs
 | o :: l, m + 1, stk, hf, hs, h => by
  rw [scan_cons] at hs
  split at hs
  ·rename_i hp
   unfold runS at h
   split at h
   ·cases h
   ·rename_i s' hr
    obtain ⟨h1, h2⟩ := run_len env l _ s' (fun x hx => hf x (List.mem_cons_of_mem _ hx)) hs hr
    obtain ⟨n', s, e, hl, hm⟩ := stepS_cases env o s'
    rw [e] at h
    obtain ⟨rfl, hb⟩ := pushS_ok h
    obtain ⟨k1, k2, k3⟩ := parts_of_kind hp (hf o (by simp))
    rw [k3] at h1
    refine ⟨?_, fun x hx => ?_⟩
    ·rw [List.length_append, List.length_singleton]
     split at h1
     ·rename_i hc; rw [if_pos hc] at hl; omega
     ·rename_i hc
      rw [if_neg hc] at hl
      split at h1
      ·rename_i hc2; rw [if_pos hc2] at hl; omega
      ·rename_i hc2; rw [if_neg hc2] at hl; omega
    ·rcases List.mem_append.1 hx with hx | hx
     ·exact h2 x (hm x hx)
     ·rw [List.mem_singleton.1 hx]; exact hb
  ·cases hs
theorem scan_from : ∀ (l : List POp) (w i : Nat), scan l w = .ok [] → i ≤ l.length → ∃ m, scan (l.drop i) m = .ok []
 | l, w, 0, h, hi => ⟨w, h⟩
 | [], w, i + 1, h, hi => by simp at hi
 | o :: l, 0, i + 1, h, hi => by rw [scan_zero] at h; cases h
 | o :: l, w + 1, i + 1, h, hi => by
  rw [scan_cons] at h
  split at h
  ·exact scan_from l _ i h (by simpa using hi)
  ·cases h
theorem chkE_all {n : Int} : ∀ {l : List POp}, chkE n l = 0 → ∀ o ∈ l, fitE n o = 0
 | [], _, o, ho => by cases ho
 | x :: l, h, o, ho => by
  unfold chkE at h
  by_cases hx : fitE n x = 0
  ·rw [if_pos hx] at h
   rcases List.mem_cons.1 ho with rfl | ho
   ·exact hx
   ·exact chkE_all h o ho
  ·rw [if_neg hx] at h; exact absurd h hx
theorem exprS_ok {l : List POp} {n : Int} (h : (exprS l n).2 = 0) : (0 ≤ n ∧ n ≤ 6) ∧ one l ∧ l.length ≤ 60 ∧ (∀ o ∈ l, fitE n o = 0) ∧ typB l = true ∧ endsS l = ((List.range l.length).map (endAt l), 0) := by
 unfold exprS at h
 by_cases h0 : 0 ≤ n ∧ n ≤ 6
 ·rw [if_pos h0] at h
  by_cases h1 : (endsS l).2 = 0
  ·rw [if_pos h1] at h
   by_cases h2 : chkE n l = 0
   ·rw [if_pos h2] at h
    by_cases h3 : typB l = true
    ·obtain ⟨a, b, c⟩ := endsS_ok h1
     exact ⟨h0, a, b, chkE_all h2, h3, c⟩
    ·rw [if_neg h3] at h; cases h
   ·rw [if_neg h2] at h; exact absurd h h2
  ·rw [if_neg h1] at h; exact absurd h h1
 ·rw [if_neg h0] at h; cases h
theorem zBb {l : List POp} {n : Int} (h1 : one l) (hf : ∀ o ∈ l, fitE n o = 0) (env : List Int) (i : Nat) (hi : i < l.length) (stk : List Int) (hr : runS env (l.drop (i + 1)) = .ok stk) :
  1 ≤ l[i].f0 ∧ l[i].f0 ≤ 12 ∧ (l[i].f0 = 10 → 1 ≤ stk.length) ∧ (3 ≤ l[i].f0 → l[i].f0 ≤ 9 → 2 ≤ stk.length) ∧ (l[i].f0 = 2 → 0 ≤ l[i].f1 ∧ l[i].f1 < n) ∧ (∀ x ∈ stk, -1000000 ≤ x ∧ x ≤ 1000000) ∧ stk.length + i + 1 ≤ l.length := by
 obtain ⟨m, hm⟩ := scan_from l 1 i h1 (by omega)
 rw [List.drop_eq_getElem_cons hi] at hm
 cases m with
 | zero => rw [scan_zero] at hm; cases hm
 | succ m =>
  rw [scan_cons] at hm
  split at hm
  ·rename_i hp
   have hfo := hf l[i] (List.getElem_mem hi)
   obtain ⟨k1, k2, k3⟩ := parts_of_kind hp hfo
   obtain ⟨a, b⟩ := run_len env _ _ stk (fun o ho => hf o (List.mem_of_mem_drop ho)) hm hr
   rw [k3] at a
   obtain ⟨j, j1, j2, j3⟩ := scan_suffix _ _ _ hm
   rw [k3] at j3
   have j1' : j ≤ l.length - (i + 1) := by rw [List.length_drop] at j1; exact j1
   refine ⟨k1, k2, fun e => ?_, fun e e2 => ?_, fun e => ?_, b, by omega⟩
   ·rw [if_neg (by omega), if_pos e] at a; omega
   ·rw [if_neg (by omega), if_neg (by omega)] at a; omega
   ·unfold fitE at hfo
    rw [if_neg (by omega), if_neg (by omega), if_pos e] at hfo
    split at hfo
    ·omega
    ·cases hfo
  ·cases hm
end Go.Proofs.YtgdijfhdpgdanaaGreatDoor.Pure
