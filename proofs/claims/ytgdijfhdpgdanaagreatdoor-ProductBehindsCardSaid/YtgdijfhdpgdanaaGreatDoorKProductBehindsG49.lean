import Derived.Test.YtgdijfhdpgdanaaGreatDoorKProductBehindsG48
import Derived.Test.YtgdijfhdpgdanaaGreatDoorKProductBehindsG42
namespace Go.Proofs.YtgdijfhdpgdanaaGreatDoor.Pure
open Go.RowKit Go.Proofs.YtgdijfhdpgdanaaGreatDoor Go.Proofs.YtgdijfhdpgdanaaGreatDoor.B Go.Proofs.YtgdijfhdpgdanaaGreatDoor.Base Go.Proofs.YtgdijfhdpgdanaaGreatDoorW.PrintWords Go.Proofs.YtgdijfhdpgdanaaGreatDoorW.PrintLast Go.Proofs.YtgdijfhdpgdanaaGreatDoorW.PrintMore
set_option linter.unusedVariables false
set_option linter.unusedSimpArgs false
def keepsS (kd : Int) (T U : List Bool) (i s : Int) : Bool :=
 if kd = 14 then rdOf false T i == rdOf false U (i + 1)
 else if kd = 17 then rdOf false T i == (rdOf false T (i + 1) || rdOf false U i)
 else if kd = 18 then rdOf false T i == (rdOf false T (i + 1) && rdOf false U i)
 else if kd = 15 then rdOf false T i == (rdOf false T s || rdOf false T (i + 1) && rdOf false U i)
 else rdOf false T i == (rdOf false T s && (rdOf false T (i + 1) || rdOf false U i))
def fol (T U : List Bool) (l : List POp) : Nat → Nat → Bool
 | 0, _ => true
 | d + 1, i => (if ahd (zAI l (i : Int)).f0 = true then keepsS (zAI l (i : Int)).f0 T U i (endAt l (i + 1)) else true) && fol T U l d (i + 1)
theorem keeps_eq (kd : Int) (T U : List Bool) (i : Nat) (s : Int) (hT : i + 1 < T.length) (hU : i + 1 < U.length) (hm : T.length ≤ 60) (hk : kd = 14 ∨ kd = 17 ∨ kd = 18 ∨ (kd = 15 ∨ kd = 16) ∧ 0 ≤ s ∧ s < (T.length : Int)) :
  zBG.f T U kd i s = some (keepsS kd T U i s) := by
 unfold zBG.f keepsS
 simp (disch := omega) only [if_pos, wrap_id]
 rcases hk with e | e | e | ⟨e | e, h0, h1⟩
 ·simp (disch := omega) only [if_pos]
 ·simp (disch := omega) only [if_pos, if_neg]
  cases rdOf false T (i + 1) <;> simp
 ·simp (disch := omega) only [if_pos, if_neg]
  cases rdOf false T (i + 1) <;> simp
 ·simp (disch := omega) only [if_pos, if_neg]
  cases rdOf false T (i + 1) <;> cases rdOf false T s <;> simp
 ·simp (disch := omega) only [if_pos, if_neg]
  cases rdOf false T (i + 1) <;> cases rdOf false T s <;> simp
theorem follows_loop {l : List POp} (h1 : one l) (hl : l.length ≤ 60) (T U : List Bool) (hT : T.length = l.length) (hU : U.length = l.length) (d : Nat) : ∀ i : Nat, i + d = l.length →
  Ev (fun k => zAl.l0 k T U ((List.range l.length).map (endAt l)) l (l.length : Int) i) (fol T U l d i, 0) := by
 induction d with
 | zero =>
  intro i hi
  exact ev_now (fun k => by simp (disch := omega) only [zAl.l0, if_neg, fol])
 | succ d ih =>
  intro i hi
  have hlt : i < l.length := by omega
  have hg : zAI l (i : Int) = l[i] := getD_get _ _ _ hlt
  have ih := ih (i + 1) (by omega)
  have c1 : (i : Int) < l.length := by omega
  have c2 : (0 : Int) ≤ (i : Int) := by omega
  have w1 : wrap64 ((i : Int) + 1) = (i : Int) + 1 := wrap_id (by omega) (by omega)
  refine ev_succ ?_
  unfold fol
  rw [hg]
  by_cases ha : ahd l[i].f0 = true
  ·obtain ⟨s1, hk⟩ := ahd_facts h1 hl i hlt ha
   have he : rd ((List.range l.length).map (endAt l)) ((i : Int) + 1) = endAt l (i + 1) := by
    rw [show (i : Int) + 1 = ((i + 1 : Nat) : Int) from rfl, rd_get _ _ (by simpa using s1)]
    simp
   have hkp := keeps_eq l[i].f0 T U i (endAt l (i + 1)) (by omega) (by omega) (by omega) (by
    rcases hk with e | e | e | ⟨e, a, b, _⟩
    ·exact .inl e
    ·exact .inr (.inl e)
    ·exact .inr (.inr (.inl e))
    ·exact .inr (.inr (.inr ⟨e, a, by omega⟩)))
   have kb : ∀ {β : Type} (F : Bool → Option β), (zBG.f T U l[i].f0 i (endAt l (i + 1))).bind F = F (keepsS l[i].f0 T U i (endAt l (i + 1))) := fun F => by rw [hkp]; rfl
   have c4 : (0 : Int) ≤ (i : Int) + 1 := by omega
   have c6 : (i : Int) + 1 < (((List.range l.length).map (endAt l)).length : Int) := by rw [List.length_map, List.length_range]; exact Int.ofNat_lt.2 s1
   simp only [zAl.l0, ↓reduceIte, ↓ahead_bind, hg, ha, c1, c2, w1, c4, c6, he, kb]
   by_cases hq : keepsS l[i].f0 T U i (endAt l (i + 1)) = true
   ·simp only [hq, ↓reduceIte, Bool.true_and]
    exact ih
   ·simp only [hq, ↓reduceIte, Bool.false_and]
    exact Ev.now _
  ·simp only [zAl.l0, ↓reduceIte, ↓ahead_bind, hg, ha, c1, c2, w1, Bool.true_and]
   exact ih
theorem followsOn_loop {l : List POp} (h1 : one l) (hl : l.length ≤ 60) (T U : List Bool) (hT : T.length = l.length) (hU : U.length = l.length) (d : Nat) : ∀ i : Nat, i + d = l.length →
  Ev (fun k => zAA.l0 k l T U i) (fol T U l d i, 0) := by
 induction d with
 | zero =>
  intro i hi
  exact ev_now (fun k => by simp (disch := omega) only [zAA.l0, if_neg, fol])
 | succ d ih =>
  intro i hi
  have hlt : i < l.length := by omega
  have hg : zAI l (i : Int) = l[i] := getD_get _ _ _ hlt
  have ih := ih (i + 1) (by omega)
  have c1 : (i : Int) < l.length := by omega
  have c2 : (0 : Int) ≤ (i : Int) := by omega
  have w1 : wrap64 ((i : Int) + 1) = (i : Int) + 1 := wrap_id (by omega) (by omega)
  refine ev_succ ?_
  unfold fol
  rw [hg]
  by_cases ha : ahd l[i].f0 = true
  ·obtain ⟨s1, hk⟩ := ahd_facts h1 hl i hlt ha
   have c3 : (i : Int) < (T.length : Int) := by omega
   have c3u : (i : Int) < (U.length : Int) := by omega
   have c4 : (0 : Int) ≤ (i : Int) + 1 := by omega
   have c5 : (i : Int) + 1 < (T.length : Int) := by omega
   have c5u : (i : Int) + 1 < (U.length : Int) := by omega
   have ff : ((false : Bool) = true) = False := by simp
   have fin4 : ∀ (kd : Int) (b : Bool), kd ≠ 16 → Ev (fun k => zAA.j4 k l T U i kd b) ((rdOf false T i == b) && fol T U l d (i + 1), 0) := by
    intro kd b hb
    refine ev_succ ?_
    simp only [zAA.j4, if_neg hb, c1, c2, c3, w1, ↓reduceIte]
    by_cases hq : rdOf false T i = b
    ·have : (rdOf false T i != b) = false := by rw [hq]; cases b <;> rfl
     simp only [this, ff, ↓reduceIte, beq_iff_eq.2 hq, Bool.true_and]
     exact ih
    ·have : (rdOf false T i != b) = true := by rw [bne_iff_ne]; exact hq
     simp only [this, ↓reduceIte, beq_eq_false_iff_ne.2 hq, Bool.false_and]
     exact Ev.now _
   rcases hk with e | e | e | ⟨e | e, a, b, c⟩
   ·rw [e] at ha
    simp only [zAA.l0, ↓reduceIte, ↓looks_bind, hg, e, ha, c1, c2, w1, c4, c5u, Int.reduceEq, keepsS]
    refine ev_succ (ev_succ (ev_succ ?_))
    simp only [zAA.j1, zAA.j2, zAA.j3, ↓reduceIte, Int.reduceEq]
    exact fin4 14 _ (by decide)
   ·rw [e] at ha
    simp only [zAA.l0, ↓reduceIte, ↓looks_bind, hg, e, ha, c1, c2, w1, Int.reduceEq, keepsS]
    refine ev_succ ?_
    simp only [zAA.j1, ↓reduceIte, Int.reduceEq, w1, c4, c5, c2, c3u]
    have e2 : Ev (fun k => zAA.j2 k l T U i 17 (rdOf false T ((i : Int) + 1) || rdOf false U i)) ((rdOf false T i == (rdOf false T ((i : Int) + 1) || rdOf false U i)) && fol T U l d (i + 1), 0) := by
     refine ev_succ (ev_succ ?_)
     simp only [zAA.j2, zAA.j3, ↓reduceIte, Int.reduceEq]
     exact fin4 17 _ (by decide)
    cases hb : rdOf false T ((i : Int) + 1) <;> (rw [hb] at e2; simpa using e2)
   ·rw [e] at ha
    simp only [zAA.l0, ↓reduceIte, ↓looks_bind, hg, e, ha, c1, c2, w1, Int.reduceEq, keepsS]
    refine ev_succ (ev_succ ?_)
    simp only [zAA.j1, zAA.j2, ↓reduceIte, Int.reduceEq, w1, c4, c5, c2, c3u]
    have e2 : Ev (fun k => zAA.j3 k l T U i 18 (rdOf false T ((i : Int) + 1) && rdOf false U i)) ((rdOf false T i == (rdOf false T ((i : Int) + 1) && rdOf false U i)) && fol T U l d (i + 1), 0) := by
     refine ev_succ ?_
     simp only [zAA.j3, ↓reduceIte, Int.reduceEq]
     exact fin4 18 _ (by decide)
    cases hb : rdOf false T ((i : Int) + 1) <;> (rw [hb] at e2; simpa using e2)
   ·rw [e] at ha
    have c8 : endAt l (i + 1) < (T.length : Int) := by omega
    simp only [zAA.l0, ↓reduceIte, ↓looks_bind, hg, e, ha, c1, c2, w1, Int.reduceEq, keepsS]
    refine ev_succ (ev_succ (ev_succ ?_))
    simp only [zAA.j1, zAA.j2, zAA.j3, ↓reduceIte, Int.reduceEq]
    refine ev_bind c ?_
    simp only [↓reduceIte, a, c8, w1, c4, c5, c2, c3u]
    have e2 := fin4 15 (rdOf false T (endAt l (i + 1)) || rdOf false T ((i : Int) + 1) && rdOf false U i) (by decide)
    cases hb : rdOf false T ((i : Int) + 1) <;> cases hc : rdOf false T (endAt l (i + 1)) <;> (rw [hb, hc] at e2; simpa using e2)
   ·rw [e] at ha
    have c8 : endAt l (i + 1) < (T.length : Int) := by omega
    simp only [zAA.l0, ↓reduceIte, ↓looks_bind, hg, e, ha, c1, c2, w1, Int.reduceEq, keepsS]
    refine ev_succ (ev_succ (ev_succ (ev_succ ?_)))
    simp only [zAA.j1, zAA.j2, zAA.j3, zAA.j4, ↓reduceIte, Int.reduceEq]
    refine ev_bind c ?_
    simp only [↓reduceIte, a, c8, w1, c4, c5, c2, c3, c3u]
    cases hb : rdOf false T ((i : Int) + 1) <;> cases hc : rdOf false T (endAt l (i + 1)) <;> cases hd : rdOf false T i <;> cases he : rdOf false U i <;> simp <;> first | exact ih | exact Ev.now _
  ·simp only [zAA.l0, ↓reduceIte, ↓looks_bind, hg, ha, c1, c2, w1, Bool.true_and]
   exact ih
def followsS (l : List POp) (now : List Bool) (claim : Int) (next : List Bool) (later : Int) : Bool × Int :=
 if (now.length : Int) = (next.length : Int) then (if (truthsS l now claim).2 = 0 then (if (truthsS l next later).2 = 0 then (fol (truthsS l now claim).1 (truthsS l next later).1 l l.length 0, 0) else (false, (truthsS l next later).2)) else (false, (truthsS l now claim).2)) else (false, 1)
theorem follows_ev (l : List POp) (now : List Bool) (claim : Int) (next : List Bool) (later : Int) : Ev (fun k => zAl.f k l now claim next later) (followsS l now claim next later) := by
 unfold zAl.f followsS
 by_cases h0 : (now.length : Int) = (next.length : Int)
 ·simp only [if_pos h0]
  refine ev_call (a := truthsS l now claim) rfl ?_
  by_cases h1 : (truthsS l now claim).2 = 0
  ·simp only [if_pos h1]
   refine ev_call (a := truthsS l next later) rfl ?_
   by_cases h2 : (truthsS l next later).2 = 0
   ·simp only [if_pos h2]
    obtain ⟨a, b, c, d⟩ := truthsS_ok h1
    obtain ⟨a', b', c', d'⟩ := truthsS_ok h2
    refine ev_call (ends_of a) ?_
    exact follows_loop (checkS_ok a).2.1 (checkS_ok a).2.2.1 _ _ (by rw [d, trS_len]) (by rw [d', trS_len]) l.length 0 (by omega)
   ·simp only [if_neg h2]
    exact Ev.now _
  ·simp only [if_neg h1]
   exact Ev.now _
 ·simp only [if_neg h0]
  exact Ev.now _
theorem followsOn_ev (l : List POp) (now : List Bool) (claim : Int) (next : List Bool) (later : Int) : Ev (fun k => zAA.f k l now claim next later) (followsS l now claim next later) := by
 unfold zAA.f followsS
 by_cases h0 : (now.length : Int) = (next.length : Int)
 ·simp only [if_pos h0]
  refine ev_bind (truthsOf_ev l now claim) ?_
  by_cases h1 : (truthsS l now claim).2 = 0
  ·simp only [if_pos h1]
   refine ev_bind (truthsOf_ev l next later) ?_
   by_cases h2 : (truthsS l next later).2 = 0
   ·simp only [if_pos h2]
    obtain ⟨a, b, c, d⟩ := truthsS_ok h1
    obtain ⟨a', b', c', d'⟩ := truthsS_ok h2
    exact followsOn_loop (checkS_ok a).2.1 (checkS_ok a).2.2.1 _ _ (by rw [d, trS_len]) (by rw [d', trS_len]) l.length 0 (by omega)
   ·simp only [if_neg h2]
    exact Ev.now _
  ·simp only [if_neg h1]
   exact Ev.now _
 ·simp only [if_neg h0]
  exact Ev.now _
end Go.Proofs.YtgdijfhdpgdanaaGreatDoor.Pure
-- Cut by a program of this session (wip/prune.py) from a longer text: declarations that the law does not need are left out.
namespace Go.Proofs.YtgdijfhdpgdanaaGreatDoor.Pure
open Go.RowKit Go.Proofs.YtgdijfhdpgdanaaGreatDoor Go.Proofs.YtgdijfhdpgdanaaGreatDoor.B Go.Proofs.YtgdijfhdpgdanaaGreatDoor.Base Go.Proofs.YtgdijfhdpgdanaaGreatDoorW.PrintWords Go.Proofs.YtgdijfhdpgdanaaGreatDoorW.PrintLast Go.Proofs.YtgdijfhdpgdanaaGreatDoorW.PrintMore
set_option linter.unusedVariables false
set_option linter.unusedSimpArgs false
def folC (l : List POp) (now : List Bool) (claim s : Int) (nx : List Bool) : Nat → Nat → List PSpot
 | 0, _ => []
 | d + 1, c => if (followsS l now claim nx (c : Int)).1 = true then ⟨s, (c : Int)⟩ :: folC l now claim s nx d (c + 1) else folC l now claim s nx d (c + 1)
theorem folC_len (l : List POp) (now : List Bool) (claim s : Int) (nx : List Bool) : ∀ d c : Nat, (folC l now claim s nx d c).length ≤ d
 | 0, _ => Nat.le_refl _
 | d + 1, c => by
  have := folC_len l now claim s nx d (c + 1)
  rw [folC]
  split
  ·rw [List.length_cons]; omega
  ·omega
def spotsL (vs : List PVar) (rs : List PRule) (ps : List (List POp)) (l : List POp) (now : List Bool) (claim : Int) : List Int → List PSpot
 | [] => []
 | s :: r => folC l now claim s (letterS vs rs ps s).1 (manyN l) 0 ++ spotsL vs rs ps l now claim r
theorem spotsL_len (vs : List PVar) (rs : List PRule) (ps : List (List POp)) (l : List POp) (now : List Bool) (claim : Int) (hm : manyN l ≤ 64) : ∀ r : List Int, (spotsL vs rs ps l now claim r).length ≤ 64 * r.length
 | [] => Nat.zero_le _
 | s :: r => by
  have := spotsL_len vs rs ps l now claim hm r
  have := folC_len l now claim s (letterS vs rs ps s).1 (manyN l) 0
  rw [spotsL, List.length_append, List.length_cons]
  omega
section
variable (vs : List PVar) (rs : List PRule) (ps : List (List POp)) (l : List POp) (hc : checkS l (ps.length : Int) = 0) (now : List Bool) (st claim : Int)
include hc
theorem pbehind_l1 (states : List Int) (s : Int) (nx : List Bool) (i : Int) (R : List PSpot × Int) (d : Nat) : ∀ (c : Nat) (acc : List PSpot), c + d = manyN l → acc.length ≤ 1000000 + c →
  Ev (fun k => zAm.l0 k now (acc ++ folC l now claim s nx d c) states (states.length : Int) (wrap64 (i + 1)) vs rs ps l st claim) R →
  Ev (fun k => zAm.l1 k now acc s nx states (states.length : Int) i (manyN l : Int) (c : Int) vs rs ps l st claim) R := by
 have hm := manyN_le (checkS_fit hc).1
 induction d with
 | zero =>
  intro c acc h ha hR
  have c1 : ¬ (c : Int) < (manyN l : Int) := by omega
  refine ev_succ ?_
  simp only [zAm.l1, ↓reduceIte, c1]
  rw [folC, List.append_nil] at hR
  exact hR
 | succ d ih =>
  intro c acc h ha hR
  have c1 : (c : Int) < (manyN l : Int) := by omega
  have c3 : acc.length < 8796093022208 := by omega
  have w1 : wrap64 ((c : Int) + 1) = ((c + 1 : Nat) : Int) := by rw [wrap_id (by omega) (by omega)]; rfl
  refine ev_succ ?_
  simp only [zAm.l1, ↓reduceIte, c1, c3, w1]
  refine ev_bind (follows_ev l now claim nx (c : Int)) ?_
  rw [folC] at hR
  by_cases hb : (followsS l now claim nx (c : Int)).1 = true
  ·simp only [hb, ↓reduceIte] at hR ⊢
   refine ih (c + 1) (acc ++ [⟨s, (c : Int)⟩]) (by omega) (by rw [List.length_append, List.length_singleton]; omega) ?_
   rw [List.append_assoc]
   exact hR
  ·simp only [hb, ↓reduceIte] at hR ⊢
   exact ih (c + 1) acc (by omega) (by omega) hR
theorem pbehind_l0 (states : List Int) (hs : states.length ≤ 4096) (d : Nat) : ∀ (i : Nat) (acc : List PSpot), i + d = states.length → acc.length ≤ 64 * i →
  Ev (fun k => zAm.l0 k now acc states (states.length : Int) (i : Int) vs rs ps l st claim) (acc ++ spotsL vs rs ps l now claim (states.drop i), 0) := by
 have hm := manyN_le (checkS_fit hc).1
 induction d with
 | zero =>
  intro i acc h ha
  rw [List.drop_of_length_le (by omega)]
  have c1 : ¬ (i : Int) < (states.length : Int) := by omega
  refine ev_succ ?_
  simp only [zAm.l0, ↓reduceIte, c1, spotsL, List.append_nil]
  exact Ev.now _
 | succ d ih =>
  intro i acc h ha
  have hil : i < states.length := by omega
  have c1 : (i : Int) < (states.length : Int) := by omega
  have c2 : (0 : Int) ≤ (i : Int) := Int.natCast_nonneg _
  have hg : rd states (i : Int) = states[i] := rd_get states i hil
  have w1 : wrap64 ((i : Int) + 1) = ((i + 1 : Nat) : Int) := by rw [wrap_id (by omega) (by omega)]; rfl
  rw [List.drop_eq_getElem_cons hil, spotsL]
  refine ev_succ ?_
  simp only [zAm.l0, ↓reduceIte, c1, c2, hg]
  refine ev_bind (letter_ev vs rs ps states[i]) (ev_bind (claims_ev vs rs ps l hc) ?_)
  have hf := folC_len l now claim states[i] (letterS vs rs ps states[i]).1 (manyN l) 0
  refine pbehind_l1 vs rs ps l hc now st claim states states[i] (letterS vs rs ps states[i]).1 (i : Int) _ (manyN l) 0 acc (by omega) (by omega) ?_
  rw [w1]
  refine ev_eq (ih (i + 1) _ (by omega) (by rw [List.length_append]; omega)) ?_
  rw [List.append_assoc]
theorem behindOf_l1 (states : List Int) (i : Nat) (hil : i < states.length) (nx : List Bool) (R : List PSpot × Int) (d : Nat) : ∀ (c : Nat) (acc : List PSpot), c + d = manyN l → acc.length ≤ 1000000 + c →
  Ev (fun k => zAF.l0 k (manyN l : Int) now states (acc ++ folC l now claim states[i] nx d c) (wrap64 ((i : Int) + 1)) vs rs ps l st claim) R →
  Ev (fun k => zAF.l1 k (manyN l : Int) now states acc (i : Int) nx (c : Int) vs rs ps l st claim) R := by
 have hm := manyN_le (checkS_fit hc).1
 have c4 : (i : Int) < (states.length : Int) := by omega
 have c5 : (0 : Int) ≤ (i : Int) := Int.natCast_nonneg _
 have hg : rd states (i : Int) = states[i] := rd_get states i hil
 induction d with
 | zero =>
  intro c acc h ha hR
  have c1 : ¬ (c : Int) < (manyN l : Int) := by omega
  refine ev_succ ?_
  simp only [zAF.l1, ↓reduceIte, c1]
  rw [folC, List.append_nil] at hR
  exact hR
 | succ d ih =>
  intro c acc h ha hR
  have c1 : (c : Int) < (manyN l : Int) := by omega
  have c3 : acc.length < 8796093022208 := by omega
  have w1 : wrap64 ((c : Int) + 1) = ((c + 1 : Nat) : Int) := by rw [wrap_id (by omega) (by omega)]; rfl
  refine ev_succ ?_
  simp only [zAF.l1, ↓reduceIte, c1, c3, c4, c5, hg, w1]
  refine ev_bind (followsOn_ev l now claim nx (c : Int)) ?_
  rw [folC] at hR
  by_cases hb : (followsS l now claim nx (c : Int)).1 = true
  ·simp only [hb, ↓reduceIte] at hR ⊢
   refine ih (c + 1) (acc ++ [⟨states[i], (c : Int)⟩]) (by omega) (by rw [List.length_append, List.length_singleton]; omega) ?_
   rw [List.append_assoc]
   exact hR
  ·simp only [hb, ↓reduceIte] at hR ⊢
   exact ih (c + 1) acc (by omega) (by omega) hR
theorem behindOf_l0 (states : List Int) (hs : states.length ≤ 4096) (d : Nat) : ∀ (i : Nat) (acc : List PSpot), i + d = states.length → acc.length ≤ 64 * i →
  Ev (fun k => zAF.l0 k (manyN l : Int) now states acc (i : Int) vs rs ps l st claim) (acc ++ spotsL vs rs ps l now claim (states.drop i), 0) := by
 have hm := manyN_le (checkS_fit hc).1
 induction d with
 | zero =>
  intro i acc h ha
  rw [List.drop_of_length_le (by omega)]
  have c1 : ¬ (i : Int) < (states.length : Int) := by omega
  refine ev_succ ?_
  simp only [zAF.l0, ↓reduceIte, c1, spotsL, List.append_nil]
  exact Ev.now _
 | succ d ih =>
  intro i acc h ha
  have hil : i < states.length := by omega
  have c1 : (i : Int) < (states.length : Int) := by omega
  have c2 : (0 : Int) ≤ (i : Int) := Int.natCast_nonneg _
  have hg : rd states (i : Int) = states[i] := rd_get states i hil
  have w1 : wrap64 ((i : Int) + 1) = ((i + 1 : Nat) : Int) := by rw [wrap_id (by omega) (by omega)]; rfl
  rw [List.drop_eq_getElem_cons hil, spotsL]
  refine ev_succ ?_
  simp only [zAF.l0, ↓reduceIte, c1, c2, hg]
  refine ev_bind (letterOf_ev vs rs ps states[i]) ?_
  have hf := folC_len l now claim states[i] (letterS vs rs ps states[i]).1 (manyN l) 0
  refine behindOf_l1 vs rs ps l hc now st claim states i hil (letterS vs rs ps states[i]).1 _ (manyN l) 0 acc (by omega) (by omega) ?_
  rw [w1]
  refine ev_eq (ih (i + 1) _ (by omega) (by rw [List.length_append]; omega)) ?_
  rw [List.append_assoc]
end
def rightSpot (vs : List PVar) (l : List POp) (st claim : Int) : Prop := 0 ≤ st ∧ st < prodV vs ∧ 0 ≤ claim ∧ claim < (manyN l : Int)
instance (vs : List PVar) (l : List POp) (st claim : Int) : Decidable (rightSpot vs l st claim) := inferInstanceAs (Decidable (_ ∧ _))
theorem spot_ev (vs : List PVar) (rs : List PRule) (ps : List (List POp)) (l : List POp) (hm : modelS vs rs = 0) (hc : checkS l (ps.length : Int) = 0) (st claim : Int) : Ev (fun k => zAz.f k vs rs ps l st claim) (decide (rightSpot vs l st claim)) := by
 unfold zAz.f
 refine ev_bind (count_ev vs rs) ?_
 unfold countS
 rw [if_pos hm]
 by_cases h0 : st ≥ 0
 ·by_cases h1 : st < prodV vs
  ·by_cases h2 : claim ≥ 0
   ·simp only [h0, h1, h2, ↓reduceIte]
    refine ev_bind (claims_ev vs rs ps l hc) (ev_eq (Ev.now _) ?_)
    rw [Bool.eq_iff_iff, decide_eq_true_iff, decide_eq_true_iff]
    exact ⟨fun h => ⟨h0, h1, h2, h⟩, fun h => h.2.2.2⟩
   ·have hn : ¬ rightSpot vs l st claim := fun h => h2 h.2.2.1
    simp only [h0, h1, h2, hn, ↓reduceIte, decide_false]
    exact Ev.now _
  ·have hn : ¬ rightSpot vs l st claim := fun h => h1 h.2.1
   simp only [h0, h1, hn, ↓reduceIte, decide_false]
   exact Ev.now _
 ·have hn : ¬ rightSpot vs l st claim := fun h => h0 h.1
  simp only [h0, hn, ↓reduceIte, decide_false]
  exact Ev.now _
def spotsS (vs : List PVar) (rs : List PRule) (ps : List (List POp)) (l : List POp) (st claim : Int) : List PSpot × Int :=
 if taskS vs rs ps l = 0 then (if rightSpot vs l st claim then (spotsL vs rs ps l (letterS vs rs ps st).1 claim (nextS vs rs st).1, 0) else ([], 9)) else ([], taskS vs rs ps l)
theorem prodBehind_ev (vs : List PVar) (rs : List PRule) (ps : List (List POp)) (l : List POp) (st claim : Int) : Ev (fun k => zAm.f k vs rs ps l st claim) (spotsS vs rs ps l st claim) := by
 have ff : ((false : Bool) = true) = False := by simp
 unfold zAm.f spotsS
 refine ev_bind (taskCheck_ev vs rs ps l) ?_
 by_cases h : taskS vs rs ps l = 0
 ·obtain ⟨h1, h2, h3⟩ := taskS_ok h
  simp only [h, ↓reduceIte]
  refine ev_bind (spot_ev vs rs ps l h1 h3 st claim) ?_
  by_cases hr : rightSpot vs l st claim
  ·simp only [hr, decide_true, ↓reduceIte]
   refine ev_bind (letter_ev vs rs ps st) (ev_bind (stepNext_ev vs rs st) ?_)
   have := pbehind_l0 vs rs ps l h3 (letterS vs rs ps st).1 st claim (nextS vs rs st).1 (nextS_len vs rs st) (nextS vs rs st).1.length 0 [] (by omega) (Nat.zero_le _)
   rw [List.drop_zero, List.nil_append] at this
   exact this
  ·simp only [hr, decide_false, ff, ↓reduceIte]
   exact Ev.now _
 ·simp only [h, ↓reduceIte]
  exact Ev.now _
theorem behindOf_ev (vs : List PVar) (rs : List PRule) (ps : List (List POp)) (l : List POp) (st claim : Int) : Ev (fun k => zAF.f k vs rs ps l st claim) (spotsS vs rs ps l st claim) := by
 have ff : ((false : Bool) = true) = False := by simp
 unfold zAF.f spotsS
 refine ev_bind (taskFault_ev vs rs ps l) ?_
 by_cases h : taskS vs rs ps l = 0
 ·obtain ⟨h1, h2, h3⟩ := taskS_ok h
  obtain ⟨ho, hp⟩ := vars_ok (modelS_vars h1)
  have hp1 := prodV_pos ho
  have hm := manyN_le (checkS_fit h3).1
  have w1 : wrap64 (prodV vs - 1) = prodV vs - 1 := wrap_id (by omega) (by omega)
  have w2 : wrap64 ((manyN l : Int) - 1) = (manyN l : Int) - 1 := wrap_id (by omega) (by omega)
  simp only [h, ↓reduceIte]
  refine ev_bind (stateCount_ev vs rs) (ev_bind (many_ev vs rs ps l h3) ?_)
  unfold countS
  rw [if_pos h1]
  simp only [w1, w2]
  refine ev_call (inE_eq _ _ _) ?_
  by_cases hst : 0 ≤ st ∧ st < prodV vs
  ·have d1 : decide (0 ≤ st ∧ st ≤ prodV vs - 1) = true := decide_eq_true (by omega)
   simp only [d1, ↓reduceIte]
   refine ev_call (inE_eq _ _ _) ?_
   by_cases hcl : 0 ≤ claim ∧ claim < (manyN l : Int)
   ·have d2 : decide (0 ≤ claim ∧ claim ≤ (manyN l : Int) - 1) = true := decide_eq_true (by omega)
    have hr : rightSpot vs l st claim := ⟨hst.1, hst.2, hcl.1, hcl.2⟩
    simp only [d2, hr, Bool.not_true, ↓reduceIte]
    refine ev_succ ?_
    simp only [zAF.j0, ff, ↓reduceIte]
    refine ev_bind (letterOf_ev vs rs ps st) (ev_bind (nextOf_ev vs rs st) ?_)
    have := behindOf_l0 vs rs ps l h3 (letterS vs rs ps st).1 st claim (nextS vs rs st).1 (nextS_len vs rs st) (nextS vs rs st).1.length 0 [] (by omega) (Nat.zero_le _)
    rw [List.drop_zero, List.nil_append] at this
    exact this
   ·have d2 : decide (0 ≤ claim ∧ claim ≤ (manyN l : Int) - 1) = false := decide_eq_false (by omega)
    have hr : ¬ rightSpot vs l st claim := fun h => hcl ⟨h.2.2.1, h.2.2.2⟩
    simp only [d2, hr, Bool.not_false, ↓reduceIte]
    refine ev_succ ?_
    simp only [zAF.j0, ↓reduceIte]
    exact Ev.now _
  ·have d1 : decide (0 ≤ st ∧ st ≤ prodV vs - 1) = false := decide_eq_false (by omega)
   have hr : ¬ rightSpot vs l st claim := fun h => hst ⟨h.1, h.2.1⟩
   simp only [d1, hr, ff, ↓reduceIte]
   refine ev_succ ?_
   simp only [zAF.j0, ↓reduceIte]
   exact Ev.now _
 ·simp only [h, ↓reduceIte]
  exact Ev.now _
theorem spotsS_len (vs : List PVar) (rs : List PRule) (ps : List (List POp)) (l : List POp) (st claim : Int) : (spotsS vs rs ps l st claim).1.length ≤ 262144 := by
 unfold spotsS
 by_cases h : taskS vs rs ps l = 0
 ·obtain ⟨h1, h2, h3⟩ := taskS_ok h
  rw [if_pos h]
  split
  ·have := spotsL_len vs rs ps l (letterS vs rs ps st).1 claim (manyN_le (checkS_fit h3).1) (nextS vs rs st).1
   have := nextS_len vs rs st
   simp only
   omega
  ·exact Nat.zero_le _
 ·rw [if_neg h]; exact Nat.zero_le _
end Go.Proofs.YtgdijfhdpgdanaaGreatDoor.Pure
namespace Go.Proofs.YtgdijfhdpgdanaaGreatDoor.Pure
open Go.RowKit Go.Proofs.YtgdijfhdpgdanaaGreatDoor Go.Proofs.YtgdijfhdpgdanaaGreatDoor.B Go.Proofs.YtgdijfhdpgdanaaGreatDoor.Base Go.Proofs.YtgdijfhdpgdanaaGreatDoorW.PrintWords Go.Proofs.YtgdijfhdpgdanaaGreatDoorW.PrintLast Go.Proofs.YtgdijfhdpgdanaaGreatDoorW.PrintMore
set_option linter.unusedVariables false
theorem sameSpots_loop (l : List S31) (hl : l.length ≤ 9223372036854775806) (d : Nat) : ∀ i : Nat, i + d = l.length → Ev (fun k => zAk.l0 k l l i) true := by
 induction d with
 | zero =>
  intro i hi
  have c1 : ¬ (i : Int) < (l.length : Int) := by omega
  refine ev_succ ?_
  simp only [zAk.l0, ↓reduceIte, c1]
  exact Ev.now _
 | succ d ih =>
  intro i hi
  have c1 : (i : Int) < (l.length : Int) := by omega
  have c2 : (0 : Int) ≤ (i : Int) := Int.natCast_nonneg _
  have w1 : wrap64 ((i : Int) + 1) = ((i + 1 : Nat) : Int) := by rw [wrap_id (by omega) (by omega)]; rfl
  refine ev_succ ?_
  simp only [zAk.l0, ↓reduceIte, c1, c2, beq_self_eq_true, Bool.not_true, Bool.or_self, Bool.false_eq_true, w1]
  exact ih (i + 1) (by omega)
theorem sameSpots_refl (l : List S31) (hl : l.length ≤ 9223372036854775806) : Ev (fun k => zAk.f k l l) true := by
 unfold zAk.f
 simp only [if_true]
 exact sameSpots_loop l hl l.length 0 (by omega)
theorem ProductBehinds (x0 : S29) (x1 : S31) (good0 : G29 x0) (good1 : G31 x1) : ∃ k, zAn.f k x0.f0.f0 x0.f0.f1 x0.f1 x0.f2 x1.f0 x1.f1 = some true := by
 refine Ev.rounds (g := fun k => zAn.f k x0.f0.f0 x0.f0.f1 x0.f1 x0.f2 x1.f0 x1.f1) ?_
 unfold zAn.f
 have hl := spotsS_len x0.f0.f0 x0.f0.f1 x0.f1 x0.f2 x1.f0 x1.f1
 refine ev_bind (tasks_ev x0 good0) (ev_bind (prodBehind_ev x0.f0.f0 x0.f0.f1 x0.f1 x0.f2 x1.f0 x1.f1) (ev_bind (behindOf_ev x0.f0.f0 x0.f0.f1 x0.f1 x0.f2 x1.f0 x1.f1) ?_))
 simp only [↓reduceIte]
 exact ev_bind (sameSpots_refl _ (by omega)) (Ev.now _)
end Go.Proofs.YtgdijfhdpgdanaaGreatDoor.Pure
