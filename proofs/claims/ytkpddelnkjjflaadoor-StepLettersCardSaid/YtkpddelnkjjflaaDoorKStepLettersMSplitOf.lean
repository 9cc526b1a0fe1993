-- Cut by a program of this session (wip/prune.py) from a longer text: declarations that the law does not need are left out.
import Derived.Test.YtkpddelnkjjflaaDoorKStepLettersMx4
import Derived.Test.YtkpddelnkjjflaaDoorKStepLettersMOps
namespace Go.Proofs.YtkpddelnkjjflaaDoor.Pure
open Go.RowKit Go.Proofs.YtkpddelnkjjflaaDoor Go.Proofs.YtkpddelnkjjflaaDoor.M Go.Proofs.YtkpddelnkjjflaaDoor.Base Go.Proofs.YtkpddelnkjjflaaDoorW.PrintWords Go.Proofs.YtkpddelnkjjflaaDoorW.PrintLast Go.Proofs.YtkpddelnkjjflaaDoorW.PrintMore
set_option linter.unusedVariables false
def terms : List POp → Nat → List (List POp)
 | _, 0 => []
 | l, n + 1 => match scan l 1 with
  | .ok r => l.take (l.length - r.length) :: terms r n
  | .error _ => []
def partsL : List POp → List (List POp)
 | [] => []
 | o :: l => terms l (partsS o.f0).1.toNat
theorem terms_one {p q : List POp} {n : Nat} (hp : one p) : terms (p ++ q) (n + 1) = p :: terms q n := by
 show (match scan (p ++ q) 1 with | .ok r => (p ++ q).take ((p ++ q).length - r.length) :: terms r n | .error _ => []) = _
 rw [scan_append p 1 [] q hp]
 simp
theorem partsL_leaf {o : POp} (h : arIs o 0) : partsL [o] = [] := by simp only [partsL, show partsS o.f0 = (0, 0) from h]; rfl
theorem partsL_un {o : POp} {p : List POp} (h : arIs o 1) (hp : one p) : partsL (o :: p) = [p] := by
 simp only [partsL, show partsS o.f0 = (1, 0) from h]
 have := terms_one (q := []) (n := 0) hp
 rw [List.append_nil] at this
 exact this
theorem partsL_bin {o : POp} {p q : List POp} (h : arIs o 2) (hp : one p) (hq : one q) : partsL (o :: (p ++ q)) = [p, q] := by
 simp only [partsL, show partsS o.f0 = (2, 0) from h]
 have := terms_one (q := []) (n := 0) hq
 rw [List.append_nil] at this
 show terms (p ++ q) 2 = _
 rw [terms_one hp, this]
 rfl
def splitS (l : List POp) : List (List POp) × Int := if (endsS l).2 = 0 then (partsL l, 0) else ([], (endsS l).2)
theorem ops_loop (l : List POp) (hl : l.length ≤ 1000000) (hi : Nat) (hh : hi ≤ l.length) (lo : Nat) (d : Nat) : ∀ i : Nat, i + d = hi → lo ≤ i → Ev (fun k => foretellref_Ops.l0 k l (hi : Int) ((l.take i).drop lo) i) ((l.take hi).drop lo) := by
 induction d with
 | zero =>
  intro i e _
  obtain rfl : i = hi := by omega
  exact ev_now (fun k => by simp (disch := omega) only [foretellref_Ops.l0, if_neg])
 | succ d ih =>
  intro i e hlo
  have hlt : i < l.length := by omega
  have hg : rd_T94 l i = l[i] := getD_get _ _ _ hlt
  have ht : (l.take i).drop lo ++ [l[i]] = (l.take (i + 1)).drop lo := by
   rw [List.take_succ_eq_append_getElem hlt, List.drop_append_of_le_length (by rw [List.length_take]; omega)]
  have hq : ((l.take i).drop lo).length < 8796093022208 := by rw [List.length_drop, List.length_take]; omega
  refine Ev.step (f := fun k => foretellref_Ops.l0 k l (hi : Int) ((l.take (i + 1)).drop lo) ((i + 1 : Nat) : Int)) (fun k => ?_) (ih (i + 1) (by omega) (by omega))
  simp (disch := omega) only [foretellref_Ops.l0, if_pos, hg, wrap_id]
  rw [show ((⟨l[i].f0, l[i].f1⟩ : S94)) = l[i] from rfl, ht]
  rfl
theorem ops_ev (l : List POp) (hl : l.length ≤ 1000000) (lo hi : Nat) (h : lo ≤ hi) (hh : hi ≤ l.length) : Ev (fun k => foretellref_Ops.f k l (lo : Int) (hi : Int)) ((l.take hi).drop lo) := by
 have := ops_loop l hl hi hh lo (hi - lo) lo (by omega) (Nat.le_refl _)
 rw [List.drop_of_length_le (by rw [List.length_take]; omega)] at this
 exact this
theorem splitOf_loop (l : List POp) (hl : l.length ≤ 60) (n : Nat) (m : Int) : ∀ (at_ : Nat) (acc : List (List POp)) (j : Int), 0 ≤ j → j + n = m → m ≤ 100 → acc.length ≤ 100 → (acc.length : Int) = j → at_ ≤ l.length → scan (l.drop at_) n = .ok [] →
  Ev (fun k => foretellref_SplitOf.l0 k l acc m (at_ : Int) j) (acc ++ terms (l.drop at_) n, 0) := by
 induction n with
 | zero =>
  intro at_ acc j h0 h1 h2 h3 h4 h5 h6
  exact ev_now (fun k => by simp (disch := omega) only [foretellref_SplitOf.l0, if_neg, terms, List.append_nil])
 | succ n ih =>
  intro at_ acc j h0 h1 h2 h3 h4 h5 h6
  obtain ⟨p, q, hpq, hp, hq, hne⟩ := scan_split h6
  have hlen : l.length - at_ = p.length + q.length := by rw [← List.length_append, ← hpq, List.length_drop]
  have hp0 := one_pos hp
  have hd : l.drop (at_ + p.length) = q := by rw [← List.drop_drop, hpq, List.drop_left]
  have hE : Ev (fun k => foretellref_endOf.f k l (at_ : Int)) (((at_ + p.length : Nat) : Int), 0) := by
   refine ev_eq (endOf_ev l (by omega) at_ h5) ?_
   rw [hpq, scan_append p 1 [] q hp]
   simp only [endRes, List.nil_append]
   congr 1
   omega
  have hO := ops_ev l (by omega) at_ (at_ + p.length) (by omega) (by omega)
  have ht : (l.take (at_ + p.length)).drop at_ = p := by
   rw [List.drop_take, show at_ + p.length - at_ = p.length by omega, hpq, List.take_left]
  rw [ht] at hO
  rw [hpq, terms_one hp]
  refine Ev.step (f := fun k => (foretellref_endOf.f k l (at_ : Int)).bind fun bt => ((foretellref_Ops.f k l (at_ : Int) bt.1).bind fun t164 => foretellref_SplitOf.l0 k l (acc ++ [t164]) m bt.1 (j + 1))) (fun k => ?_) (ev_bind hE (ev_bind hO ?_))
  ·simp (disch := omega) only [foretellref_SplitOf.l0, if_pos, wrap_id]
  ·have := ih (at_ + p.length) (acc ++ [p]) (j + 1) (by omega) (by omega) h2 (by simp; omega) (by simp; omega) (by omega) (by rw [hd]; exact hq)
   rw [hd] at this
   refine ev_eq this ?_
   simp
theorem splitOf_ev (l : List POp) : Ev (fun k => foretellref_SplitOf.f k l) (splitS l) := by
 unfold foretellref_SplitOf.f splitS
 refine ev_bind (endsOf_ev l) ?_
 by_cases h : (endsS l).2 = 0
 ·simp only [if_pos h]
  obtain ⟨h1, hl, _⟩ := endsS_ok h
  cases l with
  | nil => exact absurd rfl (one_ne h1)
  | cons o l =>
   have hpos : 0 < ((o :: l).length : Int) := by simp
   simp only [if_pos hpos]
   have hsc := h1
   unfold one at hsc
   rw [scan_cons] at hsc
   split at hsc
   ·rename_i hp
    obtain ⟨b0, b1⟩ := partsS_bd hp
    refine ev_bind (partsOf_ev o.f0) ?_
    have := splitOf_loop (o :: l) hl (partsS o.f0).1.toNat (partsS o.f0).1 1 [] 0 (by omega) (by omega) (by omega) (by simp) (by simp) (by simp) (by simpa using hsc)
    simpa [partsL] using this
   ·cases hsc
 ·simp only [if_neg h]
  exact Ev.now _
end Go.Proofs.YtkpddelnkjjflaaDoor.Pure
