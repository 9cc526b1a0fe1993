/- logic.Meets and MetBy compute one thing: which ops that look ahead have what they wait for. Plain Lean over the printed functions. -/
import Derived.Test.YtmlkkpkaaicobaaDoorLx5
import Derived.Test.YtmlkkpkaaicobaaDoorLx5
import Derived.Test.YtmlkkpkaaicobaaDoorMTruths
import Derived.Test.YtmlkkpkaaicobaaDoorMAt
namespace Go.Proofs.YtmlkkpkaaicobaaDoor.Pure
open Go.RowKit Go.Proofs.YtmlkkpkaaicobaaDoor Go.Proofs.YtmlkkpkaaicobaaDoor.L Go.Proofs.YtmlkkpkaaicobaaDoor.Base Go.Proofs.YtmlkkpkaaicobaaDoorW.PrintWords Go.Proofs.YtmlkkpkaaicobaaDoorW.PrintLast Go.Proofs.YtmlkkpkaaicobaaDoorW.PrintMore
set_option linter.unusedVariables false
set_option linter.unusedSimpArgs false
/-- Has an op what it waits for? -/
def metS (kd : Int) (T : List Bool) (i s : Int) : Bool :=
  if kd = 17 then (!(rdOf false T i) || rdOf false T (i + 1))
  else if kd = 18 then (rdOf false T i || !(rdOf false T (i + 1)))
  else if kd = 15 then (!(rdOf false T i) || rdOf false T s)
  else if kd = 16 then (rdOf false T i || !(rdOf false T s))
  else true
def pw (b : Nat) : Int := 2 ^ b
theorem pw_succ (b : Nat) : pw (b + 1) = pw b * 2 := Int.pow_succ 2 b
theorem pw_bd {b : Nat} (h : b ≤ 6) : 1 ≤ pw b ∧ pw b ≤ 64 := by
  have : b = 0 ∨ b = 1 ∨ b = 2 ∨ b = 3 ∨ b = 4 ∨ b = 5 ∨ b = 6 := by omega
  rcases this with e | e | e | e | e | e | e <;> (rw [e]; decide)
theorem or_all : ∀ b : Fin 6, ∀ o : Fin 32, (o.val : Int) < 2 ^ b.val → Go.bits .or .i64 (o.val : Int) (shl .i64 1 (b.val : Int)) = (o.val : Int) + 2 ^ b.val := by decide +kernel
theorem or_pw {b : Nat} (hb : b ≤ 5) {o : Int} (h0 : 0 ≤ o) (h1 : o < pw b) : Go.bits .or .i64 o (shl .i64 1 (b : Int)) = o + pw b := by
  have hp : pw b ≤ 32 := by
    have : b = 0 ∨ b = 1 ∨ b = 2 ∨ b = 3 ∨ b = 4 ∨ b = 5 := by omega
    rcases this with e | e | e | e | e | e <;> (rw [e]; decide)
  obtain ⟨n, rfl⟩ := Int.eq_ofNat_of_zero_le h0
  exact or_all ⟨b, by omega⟩ ⟨n, by omega⟩ h1
/-- The bits of those that have it: d ops from place i on, the next one's bit being b. -/
def mts (T : List Bool) (l : List POp) : Nat → Nat → Nat → Int → Int
  | 0, _, _, out => out
  | d + 1, i, b, out => if ahd (rd_T63 l (i : Int)).f0 = true then mts T l d (i + 1) (b + 1) (if metS (rd_T63 l (i : Int)).f0 T i (endAt l (i + 1)) = true then out + pw b else out) else mts T l d (i + 1) b out
theorem mts_hyps {l : List POp} {b i : Nat} (hi : i < l.length) (hb : b + cA (l.drop i) ≤ 6) : (ahd l[i].f0 = true → b ≤ 5 ∧ b + 1 + cA (l.drop (i + 1)) ≤ 6) ∧ b + cA (l.drop (i + 1)) ≤ 6 := by
  rw [List.drop_eq_getElem_cons hi, cA] at hb
  refine ⟨fun ha => ?_, ?_⟩
  · rw [if_pos ha] at hb; omega
  · omega
theorem meets_loop {l : List POp} (h1 : one l) (hl : l.length ≤ 60) (T : List Bool) (hT : T.length = l.length) (d : Nat) : ∀ (i b : Nat) (out : Int), i + d = l.length → b + cA (l.drop i) ≤ 6 → 0 ≤ out → out < pw b →
    Ev (fun k => logic_Meets.l0 k T ((List.range l.length).map (endAt l)) out b l (l.length : Int) i) (mts T l d i b out, 0) := by
  induction d with
  | zero =>
    intro i b out hi hb h0 h1
    exact ev_now (fun k => by simp (disch := omega) only [logic_Meets.l0, if_neg, mts])
  | succ d ih =>
    intro i b out hi hb ho0 ho1
    have hlt : i < l.length := by omega
    have hg : rd_T63 l (i : Int) = l[i] := getD_get _ _ _ hlt
    obtain ⟨hA, hB⟩ := mts_hyps hlt hb
    have c1 : (i : Int) < l.length := by omega
    have c2 : (0 : Int) ≤ (i : Int) := by omega
    have w1 : wrap64 ((i : Int) + 1) = (i : Int) + 1 := wrap_id (by omega) (by omega)
    refine ev_succ ?_
    unfold mts
    rw [hg]
    by_cases ha : ahd l[i].f0 = true
    · obtain ⟨hb5, hb6⟩ := hA ha
      obtain ⟨s1, hk⟩ := ahd_facts h1 hl i hlt ha
      have he : rd ((List.range l.length).map (endAt l)) ((i : Int) + 1) = endAt l (i + 1) := by
        rw [show (i : Int) + 1 = ((i + 1 : Nat) : Int) from rfl, rd_get _ _ (by simpa using s1)]
        simp
      have hp := pw_bd (b := b) (by omega)
      have hps := pw_succ b
      have hor := or_pw hb5 ho0 ho1
      have ihY := ih (i + 1) (b + 1) (out + pw b) (by omega) hb6 (by omega) (by omega)
      have ihN := ih (i + 1) (b + 1) out (by omega) hb6 (by omega) (by omega)
      have ihY : Ev (fun k => logic_Meets.l0 k T ((List.range l.length).map (endAt l)) (out + pw b) ((b : Int) + 1) l (l.length : Int) ((i : Int) + 1)) (mts T l d (i + 1) (b + 1) (out + pw b), 0) := ihY
      have ihN : Ev (fun k => logic_Meets.l0 k T ((List.range l.length).map (endAt l)) out ((b : Int) + 1) l (l.length : Int) ((i : Int) + 1)) (mts T l d (i + 1) (b + 1) out, 0) := ihN
      have w2 : wrap64 ((b : Int) + 1) = (b : Int) + 1 := wrap_id (by omega) (by omega)
      have c3 : (i : Int) < (T.length : Int) := by omega
      have c4 : (0 : Int) ≤ (i : Int) + 1 := by omega
      have c5 : (i : Int) + 1 < (T.length : Int) := by omega
      have c6 : (i : Int) + 1 < (((List.range l.length).map (endAt l)).length : Int) := by rw [List.length_map, List.length_range]; exact Int.ofNat_lt.2 s1
      have c7 : (0 : Int) ≤ (b : Int) := Int.natCast_nonneg _
      rcases hk with e | e | e | ⟨e | e, a, b', c⟩
      · rw [e] at ha
        simp only [logic_Meets.l0, ↓reduceIte, ↓ahead_bind, hg, e, ha, c1, c2, w1, w2, c3, c7, hor, Int.reduceEq, metS]
        exact ihY
      · rw [e] at ha
        simp only [logic_Meets.l0, ↓reduceIte, ↓ahead_bind, hg, e, ha, c1, c2, w1, w2, c3, c4, c5, c7, hor, Int.reduceEq, metS]
        cases hx : rdOf false T i <;> cases hy : rdOf false T ((i : Int) + 1) <;> simp <;> first | exact ihY | exact ihN
      · rw [e] at ha
        simp only [logic_Meets.l0, ↓reduceIte, ↓ahead_bind, hg, e, ha, c1, c2, w1, w2, c3, c4, c5, c7, hor, Int.reduceEq, metS]
        cases hx : rdOf false T i <;> cases hy : rdOf false T ((i : Int) + 1) <;> simp <;> first | exact ihY | exact ihN
      · rw [e] at ha
        have c8 : endAt l (i + 1) < (T.length : Int) := by omega
        simp only [logic_Meets.l0, ↓reduceIte, ↓ahead_bind, hg, e, ha, c1, c2, w1, w2, c3, c4, c5, c6, c7, he, a, c8, hor, Int.reduceEq, metS]
        cases hx : rdOf false T i <;> cases hy : rdOf false T (endAt l (i + 1)) <;> simp <;> first | exact ihY | exact ihN
      · rw [e] at ha
        have c8 : endAt l (i + 1) < (T.length : Int) := by omega
        simp only [logic_Meets.l0, ↓reduceIte, ↓ahead_bind, hg, e, ha, c1, c2, w1, w2, c3, c4, c5, c6, c7, he, a, c8, hor, Int.reduceEq, metS]
        cases hx : rdOf false T i <;> cases hy : rdOf false T (endAt l (i + 1)) <;> simp <;> first | exact ihY | exact ihN
    · simp only [logic_Meets.l0, ↓reduceIte, ↓ahead_bind, hg, ha, c1, c2, w1]
      exact ih (i + 1) b out (by omega) hB ho0 ho1
theorem metBy_loop {l : List POp} (h1 : one l) (hl : l.length ≤ 60) (T : List Bool) (hT : T.length = l.length) (d : Nat) : ∀ (i b : Nat) (out : Int), i + d = l.length → b + cA (l.drop i) ≤ 6 → 0 ≤ out → out < pw b →
    Ev (fun k => foretellref_MetBy.l0 k l T out (pw b) i) (mts T l d i b out, 0) := by
  induction d with
  | zero =>
    intro i b out hi hb h0 h1
    exact ev_now (fun k => by simp (disch := omega) only [foretellref_MetBy.l0, if_neg, mts])
  | succ d ih =>
    intro i b out hi hb ho0 ho1
    have hlt : i < l.length := by omega
    have hg : rd_T63 l (i : Int) = l[i] := getD_get _ _ _ hlt
    obtain ⟨hA, hB⟩ := mts_hyps hlt hb
    have c1 : (i : Int) < l.length := by omega
    have c2 : (0 : Int) ≤ (i : Int) := by omega
    have w0 : wrap64 ((i : Int) + 1) = (i : Int) + 1 := wrap_id (by omega) (by omega)
    refine ev_succ ?_
    unfold mts
    rw [hg]
    by_cases ha : ahd l[i].f0 = true
    · obtain ⟨hb5, hb6⟩ := hA ha
      obtain ⟨s1, hk⟩ := ahd_facts h1 hl i hlt ha
      have hp := pw_bd (b := b) (by omega)
      have hps := pw_succ b
      have ihY := ih (i + 1) (b + 1) (out + pw b) (by omega) hb6 (by omega) (by omega)
      have ihN := ih (i + 1) (b + 1) out (by omega) hb6 (by omega) (by omega)
      rw [hps] at ihY ihN
      have ihY : Ev (fun k => foretellref_MetBy.l0 k l T (out + pw b) (pw b * 2) ((i : Int) + 1)) (mts T l d (i + 1) (b + 1) (out + pw b), 0) := ihY
      have ihN : Ev (fun k => foretellref_MetBy.l0 k l T out (pw b * 2) ((i : Int) + 1)) (mts T l d (i + 1) (b + 1) out, 0) := ihN
      have w1 : wrap64 (out + pw b) = out + pw b := wrap_id (by omega) (by omega)
      have w2 : wrap64 (pw b * 2) = pw b * 2 := wrap_id (by omega) (by omega)
      have c3 : (i : Int) < (T.length : Int) := by omega
      have c4 : (0 : Int) ≤ (i : Int) + 1 := by omega
      have c5 : (i : Int) + 1 < (T.length : Int) := by omega
      have ff : ((false : Bool) = true) = False := by simp
      rcases hk with e | e | e | ⟨e | e, a, b', c⟩
      · rw [e] at ha
        simp only [foretellref_MetBy.l0, ↓reduceIte, ↓looks_bind, hg, e, ha, c1, c2, w0, c3, Int.reduceEq, metS]
        refine ev_succ (ev_succ ?_)
        simp only [foretellref_MetBy.j1, foretellref_MetBy.j2, ↓reduceIte, Int.reduceEq, Int.reduceBEq, ff, w0, w1, w2]
        exact ihY
      · rw [e] at ha
        simp only [foretellref_MetBy.l0, ↓reduceIte, ↓looks_bind, hg, e, ha, c1, c2, w0, c3, c4, c5, Int.reduceEq, metS]
        cases hx : rdOf false T i <;> cases hy : rdOf false T ((i : Int) + 1) <;> simp only [ff, ↓reduceIte, Bool.not_true, Bool.not_false, Bool.or_true, Bool.true_or, Bool.or_false, Bool.false_or] <;> refine ev_succ (ev_succ ?_) <;>
          simp only [foretellref_MetBy.j1, foretellref_MetBy.j2, ↓reduceIte, Int.reduceEq, Int.reduceBEq, ff, w0, w1, w2] <;> first | exact ihY | exact ihN
      · rw [e] at ha
        simp only [foretellref_MetBy.l0, ↓reduceIte, ↓looks_bind, hg, e, ha, c1, c2, w0, c3, c4, c5, Int.reduceEq, metS]
        cases hx : rdOf false T i <;> cases hy : rdOf false T ((i : Int) + 1) <;> simp only [ff, ↓reduceIte, Bool.not_true, Bool.not_false, Bool.or_true, Bool.true_or, Bool.or_false, Bool.false_or] <;> refine ev_succ (ev_succ ?_) <;>
          simp only [foretellref_MetBy.j1, foretellref_MetBy.j2, ↓reduceIte, Int.reduceEq, Int.reduceBEq, ff, w0, w1, w2] <;> first | exact ihY | exact ihN
      · rw [e] at ha
        have c8 : endAt l (i + 1) < (T.length : Int) := by omega
        simp only [foretellref_MetBy.l0, ↓reduceIte, ↓looks_bind, hg, e, ha, c1, c2, w0, c3, Int.reduceEq, metS]
        refine ev_succ (ev_succ ?_)
        simp only [foretellref_MetBy.j1, foretellref_MetBy.j2, ↓reduceIte, Int.reduceEq]
        refine ev_bind c ?_
        simp only [↓reduceIte, Int.reduceEq, a, c8, c2, c3, w0, w1, w2]
        cases hx : rdOf false T i <;> cases hy : rdOf false T (endAt l (i + 1)) <;> simp <;> first | exact ihY | exact ihN
      · rw [e] at ha
        have c8 : endAt l (i + 1) < (T.length : Int) := by omega
        simp only [foretellref_MetBy.l0, ↓reduceIte, ↓looks_bind, hg, e, ha, c1, c2, w0, c3, Int.reduceEq, metS]
        refine ev_succ (ev_succ ?_)
        simp only [foretellref_MetBy.j1, foretellref_MetBy.j2, ↓reduceIte, Int.reduceEq, Int.reduceBEq]
        refine ev_bind c ?_
        simp only [↓reduceIte, Int.reduceEq, a, c8, c2, c3, w0, w1, w2]
        cases hx : rdOf false T i <;> cases hy : rdOf false T (endAt l (i + 1)) <;> simp <;> first | exact ihY | exact ihN
    · simp only [foretellref_MetBy.l0, ↓reduceIte, ↓looks_bind, hg, ha, c1, c2, w0]
      exact ih (i + 1) b out (by omega) hB ho0 ho1
def meetsS (l : List POp) (letter : List Bool) (claim : Int) : Int × Int := if (truthsS l letter claim).2 = 0 then (mts (truthsS l letter claim).1 l l.length 0 0 0, 0) else (0, (truthsS l letter claim).2)
theorem meets_ev (l : List POp) (letter : List Bool) (claim : Int) : Ev (fun k => logic_Meets.f k l letter claim) (meetsS l letter claim) := by
  unfold logic_Meets.f meetsS
  refine ev_call (a := truthsS l letter claim) rfl ?_
  by_cases h1 : (truthsS l letter claim).2 = 0
  · simp only [if_pos h1]
    obtain ⟨a, b, c, d⟩ := truthsS_ok h1
    refine ev_call (ends_of a) ?_
    exact meets_loop (checkS_ok a).2.1 (checkS_ok a).2.2.1 _ (by rw [d, trS_len]) l.length 0 0 0 (by omega) (by have := (checkS_fit a).1; simpa using this) (by omega) (by decide)
  · simp only [if_neg h1]
    exact Ev.now _
theorem metBy_ev (l : List POp) (letter : List Bool) (claim : Int) : Ev (fun k => foretellref_MetBy.f k l letter claim) (meetsS l letter claim) := by
  unfold foretellref_MetBy.f meetsS
  refine ev_bind (truthsOf_ev l letter claim) ?_
  by_cases h1 : (truthsS l letter claim).2 = 0
  · simp only [if_pos h1]
    obtain ⟨a, b, c, d⟩ := truthsS_ok h1
    exact metBy_loop (checkS_ok a).2.1 (checkS_ok a).2.2.1 _ (by rw [d, trS_len]) l.length 0 0 0 (by omega) (by have := (checkS_fit a).1; simpa using this) (by omega) (by decide)
  · simp only [if_neg h1]
    exact Ev.now _
end Go.Proofs.YtmlkkpkaaicobaaDoor.Pure
