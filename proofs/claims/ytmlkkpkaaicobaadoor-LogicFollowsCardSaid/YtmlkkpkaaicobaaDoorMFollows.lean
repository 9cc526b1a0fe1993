/- logic.Follows and FollowsOn compute one thing: may these claims stand behind one another. Plain Lean over the printed functions. -/
import Derived.Test.YtmlkkpkaaicobaaDoorLx6
import Derived.Test.YtmlkkpkaaicobaaDoorLx7
import Derived.Test.YtmlkkpkaaicobaaDoorMTruths
import Derived.Test.YtmlkkpkaaicobaaDoorMAt
namespace Go.Proofs.YtmlkkpkaaicobaaDoor.Pure
open Go.RowKit Go.Proofs.YtmlkkpkaaicobaaDoor Go.Proofs.YtmlkkpkaaicobaaDoor.L Go.Proofs.YtmlkkpkaaicobaaDoor.Base Go.Proofs.YtmlkkpkaaicobaaDoorW.PrintWords Go.Proofs.YtmlkkpkaaicobaaDoorW.PrintLast Go.Proofs.YtmlkkpkaaicobaaDoorW.PrintMore
set_option linter.unusedVariables false
set_option linter.unusedSimpArgs false
/-- Does an op that looks ahead keep its law? T: the truths now; U: the next ones; s: where its second part lies. -/
def keepsS (kd : Int) (T U : List Bool) (i s : Int) : Bool :=
  if kd = 14 then rdOf false T i == rdOf false U (i + 1)
  else if kd = 17 then rdOf false T i == (rdOf false T (i + 1) || rdOf false U i)
  else if kd = 18 then rdOf false T i == (rdOf false T (i + 1) && rdOf false U i)
  else if kd = 15 then rdOf false T i == (rdOf false T s || rdOf false T (i + 1) && rdOf false U i)
  else rdOf false T i == (rdOf false T s && (rdOf false T (i + 1) || rdOf false U i))
def fol (T U : List Bool) (l : List POp) : Nat → Nat → Bool
  | 0, _ => true
  | d + 1, i => (if ahd (rd_T63 l (i : Int)).f0 = true then keepsS (rd_T63 l (i : Int)).f0 T U i (endAt l (i + 1)) else true) && fol T U l d (i + 1)
theorem keeps_eq (kd : Int) (T U : List Bool) (i : Nat) (s : Int) (hT : i + 1 < T.length) (hU : i + 1 < U.length) (hm : T.length ≤ 60) (hk : kd = 14 ∨ kd = 17 ∨ kd = 18 ∨ (kd = 15 ∨ kd = 16) ∧ 0 ≤ s ∧ s < (T.length : Int)) :
    logic_pair_keeps.f T U kd i s = some (keepsS kd T U i s) := by
  unfold logic_pair_keeps.f keepsS
  simp (disch := omega) only [if_pos, wrap_id]
  rcases hk with e | e | e | ⟨e | e, h0, h1⟩
  · simp (disch := omega) only [if_pos]
  · simp (disch := omega) only [if_pos, if_neg]
    cases rdOf false T (i + 1) <;> simp
  · simp (disch := omega) only [if_pos, if_neg]
    cases rdOf false T (i + 1) <;> simp
  · simp (disch := omega) only [if_pos, if_neg]
    cases rdOf false T (i + 1) <;> cases rdOf false T s <;> simp
  · simp (disch := omega) only [if_pos, if_neg]
    cases rdOf false T (i + 1) <;> cases rdOf false T s <;> simp
theorem follows_loop {l : List POp} (h1 : one l) (hl : l.length ≤ 60) (T U : List Bool) (hT : T.length = l.length) (hU : U.length = l.length) (d : Nat) : ∀ i : Nat, i + d = l.length →
    Ev (fun k => logic_Follows.l0 k T U ((List.range l.length).map (endAt l)) l (l.length : Int) i) (fol T U l d i, 0) := by
  induction d with
  | zero =>
    intro i hi
    exact ev_now (fun k => by simp (disch := omega) only [logic_Follows.l0, if_neg, fol])
  | succ d ih =>
    intro i hi
    have hlt : i < l.length := by omega
    have hg : rd_T63 l (i : Int) = l[i] := getD_get _ _ _ hlt
    have ih := ih (i + 1) (by omega)
    have c1 : (i : Int) < l.length := by omega
    have c2 : (0 : Int) ≤ (i : Int) := by omega
    have w1 : wrap64 ((i : Int) + 1) = (i : Int) + 1 := wrap_id (by omega) (by omega)
    refine ev_succ ?_
    unfold fol
    rw [hg]
    by_cases ha : ahd l[i].f0 = true
    · obtain ⟨s1, hk⟩ := ahd_facts h1 hl i hlt ha
      have he : rd ((List.range l.length).map (endAt l)) ((i : Int) + 1) = endAt l (i + 1) := by
        rw [show (i : Int) + 1 = ((i + 1 : Nat) : Int) from rfl, rd_get _ _ (by simpa using s1)]
        simp
      have hkp := keeps_eq l[i].f0 T U i (endAt l (i + 1)) (by omega) (by omega) (by omega) (by
        rcases hk with e | e | e | ⟨e, a, b, _⟩
        · exact .inl e
        · exact .inr (.inl e)
        · exact .inr (.inr (.inl e))
        · exact .inr (.inr (.inr ⟨e, a, by omega⟩)))
      have kb : ∀ {β : Type} (F : Bool → Option β), (logic_pair_keeps.f T U l[i].f0 i (endAt l (i + 1))).bind F = F (keepsS l[i].f0 T U i (endAt l (i + 1))) := fun F => by rw [hkp]; rfl
      have c4 : (0 : Int) ≤ (i : Int) + 1 := by omega
      have c6 : (i : Int) + 1 < (((List.range l.length).map (endAt l)).length : Int) := by rw [List.length_map, List.length_range]; exact Int.ofNat_lt.2 s1
      simp only [logic_Follows.l0, ↓reduceIte, ↓ahead_bind, hg, ha, c1, c2, w1, c4, c6, he, kb]
      by_cases hq : keepsS l[i].f0 T U i (endAt l (i + 1)) = true
      · simp only [hq, ↓reduceIte, Bool.true_and]
        exact ih
      · simp only [hq, ↓reduceIte, Bool.false_and]
        exact Ev.now _
    · simp only [logic_Follows.l0, ↓reduceIte, ↓ahead_bind, hg, ha, c1, c2, w1, Bool.true_and]
      exact ih
theorem followsOn_loop {l : List POp} (h1 : one l) (hl : l.length ≤ 60) (T U : List Bool) (hT : T.length = l.length) (hU : U.length = l.length) (d : Nat) : ∀ i : Nat, i + d = l.length →
    Ev (fun k => foretellref_FollowsOn.l0 k l T U i) (fol T U l d i, 0) := by
  induction d with
  | zero =>
    intro i hi
    exact ev_now (fun k => by simp (disch := omega) only [foretellref_FollowsOn.l0, if_neg, fol])
  | succ d ih =>
    intro i hi
    have hlt : i < l.length := by omega
    have hg : rd_T63 l (i : Int) = l[i] := getD_get _ _ _ hlt
    have ih := ih (i + 1) (by omega)
    have c1 : (i : Int) < l.length := by omega
    have c2 : (0 : Int) ≤ (i : Int) := by omega
    have w1 : wrap64 ((i : Int) + 1) = (i : Int) + 1 := wrap_id (by omega) (by omega)
    refine ev_succ ?_
    unfold fol
    rw [hg]
    by_cases ha : ahd l[i].f0 = true
    · obtain ⟨s1, hk⟩ := ahd_facts h1 hl i hlt ha
      have c3 : (i : Int) < (T.length : Int) := by omega
      have c3u : (i : Int) < (U.length : Int) := by omega
      have c4 : (0 : Int) ≤ (i : Int) + 1 := by omega
      have c5 : (i : Int) + 1 < (T.length : Int) := by omega
      have c5u : (i : Int) + 1 < (U.length : Int) := by omega
      have ff : ((false : Bool) = true) = False := by simp
      have fin4 : ∀ (kd : Int) (b : Bool), kd ≠ 16 → Ev (fun k => foretellref_FollowsOn.j4 k l T U i kd b) ((rdOf false T i == b) && fol T U l d (i + 1), 0) := by
        intro kd b hb
        refine ev_succ ?_
        simp only [foretellref_FollowsOn.j4, if_neg hb, c1, c2, c3, w1, ↓reduceIte]
        by_cases hq : rdOf false T i = b
        · have : (rdOf false T i != b) = false := by rw [hq]; cases b <;> rfl
          simp only [this, ff, ↓reduceIte, beq_iff_eq.2 hq, Bool.true_and]
          exact ih
        · have : (rdOf false T i != b) = true := by rw [bne_iff_ne]; exact hq
          simp only [this, ↓reduceIte, beq_eq_false_iff_ne.2 hq, Bool.false_and]
          exact Ev.now _
      rcases hk with e | e | e | ⟨e | e, a, b, c⟩
      · rw [e] at ha
        simp only [foretellref_FollowsOn.l0, ↓reduceIte, ↓looks_bind, hg, e, ha, c1, c2, w1, c4, c5u, Int.reduceEq, keepsS]
        refine ev_succ (ev_succ (ev_succ ?_))
        simp only [foretellref_FollowsOn.j1, foretellref_FollowsOn.j2, foretellref_FollowsOn.j3, ↓reduceIte, Int.reduceEq]
        exact fin4 14 _ (by decide)
      · rw [e] at ha
        simp only [foretellref_FollowsOn.l0, ↓reduceIte, ↓looks_bind, hg, e, ha, c1, c2, w1, Int.reduceEq, keepsS]
        refine ev_succ ?_
        simp only [foretellref_FollowsOn.j1, ↓reduceIte, Int.reduceEq, w1, c4, c5, c2, c3u]
        have e2 : Ev (fun k => foretellref_FollowsOn.j2 k l T U i 17 (rdOf false T ((i : Int) + 1) || rdOf false U i)) ((rdOf false T i == (rdOf false T ((i : Int) + 1) || rdOf false U i)) && fol T U l d (i + 1), 0) := by
          refine ev_succ (ev_succ ?_)
          simp only [foretellref_FollowsOn.j2, foretellref_FollowsOn.j3, ↓reduceIte, Int.reduceEq]
          exact fin4 17 _ (by decide)
        cases hb : rdOf false T ((i : Int) + 1) <;> (rw [hb] at e2; simpa using e2)
      · rw [e] at ha
        simp only [foretellref_FollowsOn.l0, ↓reduceIte, ↓looks_bind, hg, e, ha, c1, c2, w1, Int.reduceEq, keepsS]
        refine ev_succ (ev_succ ?_)
        simp only [foretellref_FollowsOn.j1, foretellref_FollowsOn.j2, ↓reduceIte, Int.reduceEq, w1, c4, c5, c2, c3u]
        have e2 : Ev (fun k => foretellref_FollowsOn.j3 k l T U i 18 (rdOf false T ((i : Int) + 1) && rdOf false U i)) ((rdOf false T i == (rdOf false T ((i : Int) + 1) && rdOf false U i)) && fol T U l d (i + 1), 0) := by
          refine ev_succ ?_
          simp only [foretellref_FollowsOn.j3, ↓reduceIte, Int.reduceEq]
          exact fin4 18 _ (by decide)
        cases hb : rdOf false T ((i : Int) + 1) <;> (rw [hb] at e2; simpa using e2)
      · rw [e] at ha
        have c8 : endAt l (i + 1) < (T.length : Int) := by omega
        simp only [foretellref_FollowsOn.l0, ↓reduceIte, ↓looks_bind, hg, e, ha, c1, c2, w1, Int.reduceEq, keepsS]
        refine ev_succ (ev_succ (ev_succ ?_))
        simp only [foretellref_FollowsOn.j1, foretellref_FollowsOn.j2, foretellref_FollowsOn.j3, ↓reduceIte, Int.reduceEq]
        refine ev_bind c ?_
        simp only [↓reduceIte, a, c8, w1, c4, c5, c2, c3u]
        have e2 := fin4 15 (rdOf false T (endAt l (i + 1)) || rdOf false T ((i : Int) + 1) && rdOf false U i) (by decide)
        cases hb : rdOf false T ((i : Int) + 1) <;> cases hc : rdOf false T (endAt l (i + 1)) <;> (rw [hb, hc] at e2; simpa using e2)
      · rw [e] at ha
        have c8 : endAt l (i + 1) < (T.length : Int) := by omega
        simp only [foretellref_FollowsOn.l0, ↓reduceIte, ↓looks_bind, hg, e, ha, c1, c2, w1, Int.reduceEq, keepsS]
        refine ev_succ (ev_succ (ev_succ (ev_succ ?_)))
        simp only [foretellref_FollowsOn.j1, foretellref_FollowsOn.j2, foretellref_FollowsOn.j3, foretellref_FollowsOn.j4, ↓reduceIte, Int.reduceEq]
        refine ev_bind c ?_
        simp only [↓reduceIte, a, c8, w1, c4, c5, c2, c3, c3u]
        cases hb : rdOf false T ((i : Int) + 1) <;> cases hc : rdOf false T (endAt l (i + 1)) <;> cases hd : rdOf false T i <;> cases he : rdOf false U i <;> simp <;> first | exact ih | exact Ev.now _
    · simp only [foretellref_FollowsOn.l0, ↓reduceIte, ↓looks_bind, hg, ha, c1, c2, w1, Bool.true_and]
      exact ih
def followsS (l : List POp) (now : List Bool) (claim : Int) (next : List Bool) (later : Int) : Bool × Int :=
  if (now.length : Int) = (next.length : Int) then (if (truthsS l now claim).2 = 0 then (if (truthsS l next later).2 = 0 then (fol (truthsS l now claim).1 (truthsS l next later).1 l l.length 0, 0) else (false, (truthsS l next later).2)) else (false, (truthsS l now claim).2)) else (false, 1)
theorem follows_ev (l : List POp) (now : List Bool) (claim : Int) (next : List Bool) (later : Int) : Ev (fun k => logic_Follows.f k l now claim next later) (followsS l now claim next later) := by
  unfold logic_Follows.f followsS
  by_cases h0 : (now.length : Int) = (next.length : Int)
  · simp only [if_pos h0]
    refine ev_call (a := truthsS l now claim) rfl ?_
    by_cases h1 : (truthsS l now claim).2 = 0
    · simp only [if_pos h1]
      refine ev_call (a := truthsS l next later) rfl ?_
      by_cases h2 : (truthsS l next later).2 = 0
      · simp only [if_pos h2]
        obtain ⟨a, b, c, d⟩ := truthsS_ok h1
        obtain ⟨a', b', c', d'⟩ := truthsS_ok h2
        refine ev_call (ends_of a) ?_
        exact follows_loop (checkS_ok a).2.1 (checkS_ok a).2.2.1 _ _ (by rw [d, trS_len]) (by rw [d', trS_len]) l.length 0 (by omega)
      · simp only [if_neg h2]
        exact Ev.now _
    · simp only [if_neg h1]
      exact Ev.now _
  · simp only [if_neg h0]
    exact Ev.now _
theorem followsOn_ev (l : List POp) (now : List Bool) (claim : Int) (next : List Bool) (later : Int) : Ev (fun k => foretellref_FollowsOn.f k l now claim next later) (followsS l now claim next later) := by
  unfold foretellref_FollowsOn.f followsS
  by_cases h0 : (now.length : Int) = (next.length : Int)
  · simp only [if_pos h0]
    refine ev_bind (truthsOf_ev l now claim) ?_
    by_cases h1 : (truthsS l now claim).2 = 0
    · simp only [if_pos h1]
      refine ev_bind (truthsOf_ev l next later) ?_
      by_cases h2 : (truthsS l next later).2 = 0
      · simp only [if_pos h2]
        obtain ⟨a, b, c, d⟩ := truthsS_ok h1
        obtain ⟨a', b', c', d'⟩ := truthsS_ok h2
        exact followsOn_loop (checkS_ok a).2.1 (checkS_ok a).2.2.1 _ _ (by rw [d, trS_len]) (by rw [d', trS_len]) l.length 0 (by omega)
      · simp only [if_neg h2]
        exact Ev.now _
    · simp only [if_neg h1]
      exact Ev.now _
  · simp only [if_neg h0]
    exact Ev.now _
end Go.Proofs.YtmlkkpkaaicobaaDoor.Pure
