import Derived.Test.YtkcghbfmigdomaaKSccLassosG32
import Derived.Test.YtkcghbfmigdomaaKSccLassosG31
-- Cut by a program of this session (wip/prune.py) from a longer text: declarations that the law does not need are left out.
namespace Go.Proofs.Ytkcghbfmigdomaa.Pure
open Go.RowKit Go.Proofs.Ytkcghbfmigdomaa.Q Go.Proofs.Ytkcghbfmigdomaa.Base Go.Proofs.YtkcghbfmigdomaaW.PrintWords Go.Proofs.YtkcghbfmigdomaaW.PrintLast Go.Proofs.YtkcghbfmigdomaaW.PrintMore
set_option linter.unusedVariables false
set_option linter.unusedSectionVars false
theorem in_eq' (a b c : Int) : zAO.f a b c = some (decide (b ≤ a ∧ a ≤ c)) := by
 unfold zAO.f
 by_cases h : b ≤ a
 ·simp [h]
 ·simp [h]
section
variable (spots : List S63) (init : Int) (next : List (List Int)) (sets : List Int) (many : Int) (stem loop : List Int) (n : Nat) (hN : next.length = n) (hS : sets.length = n) (hsp : spots.length = n) (hn : n ≤ 20000)
 (hrow : Aside0 (∀ a, (zAE next a).length ≤ 9223372036854775806)) (hs : ∀ x : Int, 0 ≤ x → x < (n : Int) → 0 ≤ rd sets x ∧ rd sets x < 64) (m0 : 0 ≤ many) (m1 : many ≤ 6)
include hN hS hsp hn hrow hs m0 m1
theorem fits_l5 (all : List Int) (s : Nat) (hsm : (s : Int) < many) (hrg : ∀ x ∈ loop, 0 ≤ x ∧ x < (n : Int)) (hll : loop.length ≤ 1000000) (R : Bool) (hR : Ev (fun k => zAA.l4 k all (2 ^ (s + 1)) ((s + 1 : Nat) : Int) spots init next sets many stem loop) R) (d : Nat) :
  ∀ (j : Nat) (b : Bool), j + d = loop.length → (b = true ∨ ∃ q, j ≤ q ∧ ∃ h : q < loop.length, bitW (rd sets loop[q]) s = true) → Ev (fun k => zAA.l5 k all (2 ^ s) (s : Int) b (j : Int) spots init next sets many stem loop) R := by
 have hp : (1 : Int) ≤ 2 ^ s ∧ (2 : Int) ^ s ≤ 32 := by
  have : s = 0 ∨ s = 1 ∨ s = 2 ∨ s = 3 ∨ s = 4 ∨ s = 5 := by omega
  rcases this with e | e | e | e | e | e <;> (rw [e]; decide)
 obtain ⟨P, hP⟩ : ∃ P : Int, P = 2 ^ s := ⟨_, rfl⟩
 have w1 : wrap64 (P * 2) = 2 ^ (s + 1) := by rw [← hP] at hp; rw [Int.pow_succ, ← hP, wrap_id (by omega) (by omega)]
 have w2 : wrap64 ((s : Int) + 1) = ((s + 1 : Nat) : Int) := by rw [wrap_id (by omega) (by omega)]; rfl
 induction d with
 | zero =>
  intro j b hj hb
  have hbt : b = true := hb.elim id (fun ⟨q, h1, h2, _⟩ => absurd h2 (by omega))
  have c1 : ¬ (j : Int) < (loop.length : Int) := by omega
  refine ev_succ ?_
  rw [← hP]
  simp only [zAA.l5, ↓reduceIte, c1, hbt, w1, w2]
  exact hR
 | succ d ih =>
  intro j b hj hb
  have hjl : j < loop.length := by omega
  have c1 : (j : Int) < (loop.length : Int) := by omega
  have c2 : (0 : Int) ≤ (j : Int) := by omega
  have w3 : wrap64 ((j : Int) + 1) = ((j + 1 : Nat) : Int) := by rw [wrap_id (by omega) (by omega)]; rfl
  by_cases hbt : b = true
  ·refine ev_succ ?_
   simp only [zAA.l5, ↓reduceIte, c1, hbt, w3]
   exact ih (j + 1) true (by omega) (.inl rfl)
  ·have hg : rd loop (j : Int) = loop[j] := rd_get loop j hjl
   have hr := hrg loop[j] (List.getElem_mem hjl)
   have c3 : loop[j] < (sets.length : Int) := by omega
   have c4 : ¬ P = 0 := by rw [← hP] at hp; omega
   have hv := hs loop[j] hr.1 hr.2
   have hdv : (0 : Int) ≤ rd sets loop[j] / P ∧ rd sets loop[j] / P < 64 := by
    rw [← hP] at hp
    exact ⟨Int.ediv_nonneg hv.1 (by omega), Int.lt_of_le_of_lt (Int.ediv_le_self _ hv.1) hv.2⟩
   have e1 : (Int.tmod (wrap64 (Int.tdiv (rd sets loop[j]) P)) 2 == 1) = bitW (rd sets loop[j]) s := by
    rw [tdiv_of hv.1, wrap_id (by omega) (by omega), tmod_of hdv.1, hP]
    rfl
   refine ev_succ ?_
   rw [← hP]
   simp only [zAA.l5, ↓reduceIte, c1, c2, hbt, hg, hr.1, c3, c4, e1, w3]
   rw [hP]
   refine ih (j + 1) _ (by omega) ?_
   rcases hb with h | ⟨q, h1, h2, h3⟩
   ·exact absurd h hbt
   ·by_cases e : q = j
    ·cases e; exact .inl h3
    ·exact .inr ⟨q, Nat.lt_of_le_of_ne h1 (fun h => e h.symm), h2, h3⟩
theorem fits_l4 (all : List Int) (hrg : ∀ x ∈ loop, 0 ≤ x ∧ x < (n : Int)) (hll : loop.length ≤ 1000000) (h0 : 0 < all.length) (hi : rd all 0 < init) (hbt : ∀ s : Nat, (s : Int) < many → ∃ x ∈ loop, bitW (rd sets x) s = true) (d : Nat) :
  ∀ s : Nat, (s : Int) + d = many → Ev (fun k => zAA.l4 k all (2 ^ s) (s : Int) spots init next sets many stem loop) true := by
 induction d with
 | zero =>
  intro s h
  have c1 : ¬ (s : Int) < many := by omega
  have c2 : (0 : Int) < (all.length : Int) := by omega
  refine ev_succ ?_
  simp only [zAA.l4, ↓reduceIte, c1, c2, hi, decide_true]
  exact Ev.now _
 | succ d ih =>
  intro s h
  have c1 : (s : Int) < many := by omega
  refine ev_succ ?_
  simp only [zAA.l4, ↓reduceIte, c1]
  obtain ⟨x, hx, hb⟩ := hbt s c1
  obtain ⟨q, hq, rfl⟩ := List.getElem_of_mem hx
  exact fits_l5 spots init next sets many stem loop n hN hS hsp hn hrow hs m0 m1 all s c1 hrg hll true (ih (s + 1) (by push_cast; omega)) loop.length 0 false (by omega) (.inr ⟨q, Nat.zero_le _, hq, hb⟩)
theorem fits_l3 (all : List Int) (i : Nat) (hi : i < all.length) (hra : 0 ≤ all[i] ∧ all[i] < (n : Int)) (nxt : Int) (R : Bool) (hR : Ev (fun k => zAA.l2 k all (wrap64 ((i : Int) + 1)) spots init next sets many stem loop) R) (d : Nat) :
  ∀ (j : Nat) (b : Bool), j + d = (zAE next all[i]).length → (b = true ∨ ∃ q, j ≤ q ∧ ∃ h : q < (zAE next all[i]).length, (zAE next all[i])[q] = nxt) → Ev (fun k => zAA.l3 k all (i : Int) nxt b (j : Int) spots init next sets many stem loop) R := by
 have c1 : (0 : Int) ≤ (i : Int) := by omega
 have c2 : (i : Int) < (all.length : Int) := by omega
 have hg : rd all (i : Int) = all[i] := rd_get all i hi
 have c3 : all[i] < (next.length : Int) := by omega
 have hrl := hrow.out all[i]
 induction d with
 | zero =>
  intro j b hj hb
  have hbt : b = true := hb.elim id (fun ⟨q, h1, h2, _⟩ => absurd h2 (by omega))
  have c4 : ¬ (j : Int) < ((zAE next all[i]).length : Int) := by omega
  refine ev_succ ?_
  simp only [zAA.l3, ↓reduceIte, c1, c2, hg, hra.1, c3, c4, hbt]
  exact hR
 | succ d ih =>
  intro j b hj hb
  have c4 : (j : Int) < ((zAE next all[i]).length : Int) := by omega
  have c5 : (0 : Int) ≤ (j : Int) := by omega
  have w3 : wrap64 ((j : Int) + 1) = ((j + 1 : Nat) : Int) := by rw [wrap_id (by omega) (by omega)]; rfl
  refine ev_succ ?_
  by_cases hbt : b = true
  ·simp only [zAA.l3, ↓reduceIte, c1, c2, hg, hra.1, c3, c4, hbt, w3]
   exact ih (j + 1) true (by omega) (.inl rfl)
  ·have hr : rd (zAE next all[i]) (j : Int) = (zAE next all[i])[j]'(by omega) := rd_get _ j (by omega)
   simp only [zAA.l3, ↓reduceIte, c1, c2, hg, hra.1, c3, c4, c5, hbt, w3, hr]
   refine ih (j + 1) _ (by omega) ?_
   rcases hb with h | ⟨q, h1, h2, h3⟩
   ·exact absurd h hbt
   ·by_cases e : q = j
    ·cases e; exact .inl (by rw [h3]; exact beq_self_eq_true nxt)
    ·exact .inr ⟨q, Nat.lt_of_le_of_ne h1 (fun h => e h.symm), h2, h3⟩
theorem fits_l2 (all : List Int) (hal : all.length ≤ 2000000) (hrg : ∀ x ∈ all, 0 ≤ x ∧ x < (n : Int)) (hl0 : 0 < loop.length) (hnx : ∀ i (h : i < all.length), (if h2 : i + 1 < all.length then all[i + 1] else rd loop 0) ∈ zAE next all[i]) (R : Bool) (hR : Ev (fun k => zAA.l4 k all 1 0 spots init next sets many stem loop) R) (d : Nat) :
  ∀ i : Nat, i + d = all.length → Ev (fun k => zAA.l2 k all (i : Int) spots init next sets many stem loop) R := by
 induction d with
 | zero =>
  intro i hi
  have c1 : ¬ (i : Int) < (all.length : Int) := by omega
  refine ev_succ ?_
  simp only [zAA.l2, ↓reduceIte, c1]
  exact hR
 | succ d ih =>
  intro i hi
  have hil : i < all.length := by omega
  have c1 : (i : Int) < (all.length : Int) := by omega
  have c2 : (0 : Int) ≤ (i : Int) := by omega
  have hg : rd all (i : Int) = all[i] := rd_get all i hil
  have hra := hrg all[i] (List.getElem_mem hil)
  have c3 : (0 : Int) < (loop.length : Int) := by omega
  have w1 : wrap64 ((i : Int) + 1) = ((i + 1 : Nat) : Int) := by rw [wrap_id (by omega) (by omega)]; rfl
  have w2 : wrap64 ((spots.length : Int) - 1) = (n : Int) - 1 := by rw [wrap_id (by omega) (by omega)]; omega
  have d1 : decide (0 ≤ all[i] ∧ all[i] ≤ (n : Int) - 1) = true := decide_eq_true (by omega)
  have hx := hnx i hil
  have go : ∀ nxt : Int, nxt ∈ zAE next all[i] → Ev (fun k => zAA.j3 k all (i : Int) nxt spots init next sets many stem loop) R := by
   intro nxt hm
   obtain ⟨q, hq, e⟩ := List.getElem_of_mem hm
   refine ev_succ ?_
   simp only [zAA.j3]
   exact fits_l3 spots init next sets many stem loop n hN hS hsp hn hrow hs m0 m1 all i hil hra nxt R (by rw [w1]; exact ih (i + 1) (by omega)) (zAE next all[i]).length 0 false (by omega) (.inr ⟨q, Nat.zero_le _, hq, e⟩)
  refine ev_succ ?_
  simp only [zAA.l2, ↓reduceIte, c1, c2, hg, w2, c3]
  refine ev_call (in_eq' _ _ _) ?_
  rw [d1]
  simp only [↓reduceIte, w1]
  by_cases h2 : i + 1 < all.length
  ·have c4 : ((i + 1 : Nat) : Int) < (all.length : Int) := Int.ofNat_lt.2 h2
   have c5 : (0 : Int) ≤ ((i + 1 : Nat) : Int) := Int.natCast_nonneg _
   have hg2 : rd all ((i + 1 : Nat) : Int) = all[i + 1] := rd_get all (i + 1) h2
   rw [dif_pos h2] at hx
   simp only [↓reduceIte, c4, c5, hg2]
   exact go _ hx
  ·have c4 : ¬ ((i + 1 : Nat) : Int) < (all.length : Int) := fun h => h2 (Int.ofNat_lt.1 h)
   rw [dif_neg h2] at hx
   simp only [↓reduceIte, c4]
   exact go _ hx
theorem fits_ev (hst : stem.length ≤ 1000000) (hll : loop.length ≤ 1000000) (h : FitsW (fun i => zAE next i) (fun i => rd sets i) bitW n many.toNat (rangeW init) stem loop) : Ev (fun k => zAA.f k spots init next sets many stem loop) true := by
 obtain ⟨hd, r, hlp, hc⟩ := h.hd
 have hl0 : 0 < loop.length := by rw [hlp]; simp
 have hall : (stem ++ loop).length = stem.length + loop.length := List.length_append
 have h4 : Ev (fun k => zAA.l4 k (stem ++ loop) 1 0 spots init next sets many stem loop) true := by
  obtain ⟨a, q, e, ha⟩ := h.st
  have := fits_l4 spots init next sets many stem loop n hN hS hsp hn hrow hs m0 m1 (stem ++ loop) (fun x hx => h.rg x (List.mem_append_right _ hx)) hll (by omega) (by rw [e]; have := (rangeW_mem init a).1 ha; exact this.2) (fun s hs => h.bt s (by omega)) many.toNat 0 (by omega)
  exact this
 have h2 : Ev (fun k => zAA.l2 k (stem ++ loop) 0 spots init next sets many stem loop) true := by
  refine fits_l2 spots init next sets many stem loop n hN hS hsp hn hrow hs m0 m1 (stem ++ loop) (by omega) h.rg hl0 (fun i hi => ?_) true h4 (stem ++ loop).length 0 (by omega)
  have := okC_at _ hc i (by rw [List.length_append, List.length_singleton]; omega)
  rw [List.getElem_append_left hi] at this
  by_cases h2 : i + 1 < (stem ++ loop).length
  ·rw [dif_pos h2]
   rwa [List.getElem_append_left h2] at this
  ·rw [dif_neg h2]
   rw [last_at (by omega)] at this
   rw [show rd loop 0 = hd by rw [hlp]; rfl]
   exact this
 have h1 : ∀ d i : Nat, i + d = loop.length → Ev (fun k => zAA.l1 k (stem ++ loop.take i) (i : Int) spots init next sets many stem loop) true := by
  intro d
  induction d with
  | zero =>
   intro i hi
   have c1 : ¬ (i : Int) < (loop.length : Int) := by omega
   have c2 : ¬ (loop.length : Int) = 0 := by omega
   refine ev_succ ?_
   simp only [zAA.l1, ↓reduceIte, c1, c2]
   rw [List.take_of_length_le (by omega)]
   exact h2
  | succ d ih =>
   intro i hi
   have c1 : (i : Int) < (loop.length : Int) := by omega
   have c2 : (0 : Int) ≤ (i : Int) := by omega
   have c3 : (stem ++ loop.take i).length < 17592186044416 := by rw [List.length_append, List.length_take]; omega
   have w1 : wrap64 ((i : Int) + 1) = ((i + 1 : Nat) : Int) := by rw [wrap_id (by omega) (by omega)]; rfl
   have hg : rd loop (i : Int) = loop[i]'(by omega) := rd_get loop i (by omega)
   refine ev_succ ?_
   simp only [zAA.l1, ↓reduceIte, c1, c2, c3, w1, hg]
   refine ev_eq (g := fun k => zAA.l1 k (stem ++ loop.take i ++ [loop[i]'(by omega)]) ((i + 1 : Nat) : Int) spots init next sets many stem loop) ?_ rfl
   rw [List.append_assoc, ← List.take_succ_eq_append_getElem (by omega)]
   exact ih (i + 1) (by omega)
 have h0 : ∀ d i : Nat, i + d = stem.length → Ev (fun k => zAA.l0 k (stem.take i) (i : Int) spots init next sets many stem loop) true := by
  intro d
  induction d with
  | zero =>
   intro i hi
   have c1 : ¬ (i : Int) < (stem.length : Int) := by omega
   refine ev_succ ?_
   simp only [zAA.l0, ↓reduceIte, c1]
   rw [List.take_of_length_le (by omega)]
   have := h1 loop.length 0 (by omega)
   rw [List.take_zero, List.append_nil] at this
   exact this
  | succ d ih =>
   intro i hi
   have c1 : (i : Int) < (stem.length : Int) := by omega
   have c2 : (0 : Int) ≤ (i : Int) := by omega
   have c3 : (stem.take i).length < 17592186044416 := by rw [List.length_take]; omega
   have w1 : wrap64 ((i : Int) + 1) = ((i + 1 : Nat) : Int) := by rw [wrap_id (by omega) (by omega)]; rfl
   have hg : rd stem (i : Int) = stem[i]'(by omega) := rd_get stem i (by omega)
   refine ev_succ ?_
   simp only [zAA.l0, ↓reduceIte, c1, c2, c3, w1, hg]
   refine ev_eq (g := fun k => zAA.l0 k (stem.take i ++ [stem[i]'(by omega)]) ((i + 1 : Nat) : Int) spots init next sets many stem loop) ?_ rfl
   rw [← List.take_succ_eq_append_getElem (by omega)]
   exact ih (i + 1) (by omega)
 unfold zAA.f
 exact h0 stem.length 0 (by omega)
end
end Go.Proofs.Ytkcghbfmigdomaa.Pure
namespace Go.Proofs.Ytkcghbfmigdomaa.Pure
open Go.RowKit Go.Proofs.Ytkcghbfmigdomaa.Q Go.Proofs.Ytkcghbfmigdomaa.Base Go.Proofs.YtkcghbfmigdomaaW.PrintWords Go.Proofs.YtkcghbfmigdomaaW.PrintLast Go.Proofs.YtkcghbfmigdomaaW.PrintMore
set_option linter.unusedVariables false
theorem lasso_ok {g : S26} {p : List Int} {home : Int} (hg : graphOK g.f0.length g.f1 g.f2 g.f3 g.f4 = true) (gp : GoodP g.f2 g.f0.length p) (hs : ∀ x ∈ g.f3, 0 ≤ x ∧ x < 64) (h0 : 0 ≤ home) (h1 : home < (g.f0.length : Int)) : lassoOk g.f2.length g.f1 g.f2 g.f3 p g.f4 home = true := by
 have h := graphIs hg
 have hp := gp.1
 obtain ⟨a1, a2, a3, a4, a5, a6, a7, a8, a9⟩ := h
 unfold lassoOk
 rw [Bool.and_eq_true, Bool.and_eq_true, List.all_eq_true, List.all_eq_true]
 refine ⟨decide_eq_true ?_, fun l hl => ?_, fun v hv => decide_eq_true (hs v hv)⟩
 ·rw [a1]
  exact ⟨rfl, a2, hp, a3, a4, a5, a6, a7, h0, h1⟩
 ·rw [List.all_eq_true]
  intro k hk
  rw [a1]
  exact decide_eq_true (a9 l hl k hk)
theorem SccLassos (x0 : S26) (good0 : G26 x0) (ht : tot x0.f2 ≤ 1048576) : ∃ k, zAT.f k x0.f0 x0.f1 x0.f2 x0.f3 x0.f4 = some true := by
 refine Ev.rounds (g := fun k => zAT.f k x0.f0 x0.f1 x0.f2 x0.f3 x0.f4) ?_
 unfold zAT.f
 refine ev_bind (graphs_ev x0 good0) ?_
 dsimp only
 have n11 : ¬ (11 : Int) = 0 := by decide
 have key : ∃ (st lp : List Int) (e a : Int), Ev (fun k => zAV.f k x0.f0 x0.f1 x0.f2 x0.f3 x0.f4) (st, lp, e) ∧ Ev (fun k => zAC.f k x0.f0 x0.f1 x0.f2 x0.f3 x0.f4) (a, e) ∧ (e = 0 → Ev (fun k => zAA.f k x0.f0 x0.f1 x0.f2 x0.f3 x0.f4 st lp) true) ∧ (e ≠ 0 → st = [] ∧ lp = []) := by
  rcases fairs_both good0 ht with ⟨hg, p, seen, r, gp, eP, gr, hs, e1, e2, hf⟩ | ⟨_, e1, e2⟩
  ·by_cases hr : r.2 = 0
   ·have h := graphIs hg
    obtain ⟨h0, h1, hfp, hse⟩ := hf hr
    obtain ⟨a1, a2, a3, a4, a5, a6, a7, a8, a9⟩ := h
    obtain ⟨p0, p1⟩ := pow2_bd a6 a7
    have hs64 : ∀ x : Int, 0 ≤ x → x < (x0.f0.length : Int) → 0 ≤ rd x0.f3 x ∧ rd x0.f3 x < 64 := fun x q0 q1 => by
     have := hs x q0 q1
     omega
    have hsl : ∀ x ∈ x0.f3, 0 ≤ x ∧ x < 64 := fun x hx => by
     obtain ⟨i, hi, rfl⟩ := List.getElem_of_mem hx
     have := hs64 (i : Int) (Int.natCast_nonneg _) (by rw [← a2]; exact Int.ofNat_lt.2 hi)
     rwa [rd_get _ _ hi] at this
    obtain ⟨st, lp, hl, hfit⟩ := lasso_fits (fuel := x0.f2.length + 1) a8 gp gr hs a6 a7 a5 h0 h1 hfp hse (by rw [a1]; exact Nat.le_refl _)
    obtain ⟨l1, l2⟩ := lassoW_len (fun a _ _ k hk => a8 a k hk) ⟨h0, h1⟩ (rangeW_nodup _) (fun x hx => by
     have := (rangeW_mem _ x).1 hx
     exact ⟨this.1, Int.lt_of_lt_of_le this.2 a5⟩) (by rw [a1]; exact Nat.le_refl _) hl
    have hm : x0.f4.toNat ≤ 6 := by omega
    have l3 : (x0.f4.toNat + 1) * (x0.f0.length + 1) ≤ 7 * 20001 := Nat.mul_le_mul (by omega) (by omega)
    refine ⟨st, lp, 0, r.1, ?_, ?_, fun _ => ?_, fun h => absurd rfl h⟩
    ·unfold zAV.f
     refine ev_bind e1 ?_
     simp only [hr, ↓reduceIte]
     refine ev_bind eP ?_
     simp only [lasso_ok hg gp hsl h0 h1, ↓reduceIte, hl, Option.bind_some]
     exact Ev.now _
    ·rw [show (r.1, (0 : Int)) = r from Prod.ext rfl hr.symm]
     exact e2
    ·refine fits_ev x0.f0 x0.f1 x0.f2 x0.f3 x0.f4 st lp x0.f0.length a1 a2 rfl a3 ⟨fun a => rd_rows (Q := fun l => l.length ≤ 9223372036854775806) (by decide) (fun l hl => by have := (good0.2.2.1.2 l hl).1; omega) a⟩ hs64 a6 a7 (by omega) (by omega) hfit
   ·refine ⟨[], [], r.2, r.1, ?_, e2, fun h => absurd h hr, fun _ => ⟨rfl, rfl⟩⟩
    unfold zAV.f
    refine ev_bind e1 ?_
    simp only [hr, ↓reduceIte]
    exact Ev.now _
  ·refine ⟨[], [], 9, 0, ?_, e2, fun h => absurd h (by decide), fun _ => ⟨rfl, rfl⟩⟩
   unfold zAV.f
   refine ev_bind e1 ?_
   have n9 : ¬ (9 : Int) = 0 := by decide
   simp only [n9, ↓reduceIte]
   exact Ev.now _
 obtain ⟨st, lp, e, a, k1, k2, k3, k4⟩ := key
 refine ev_bind k1 (ev_bind k2 ?_)
 simp only [↓reduceIte]
 refine ev_bind (same_graph good0) ?_
 simp only [↓reduceIte]
 by_cases he : e = 0
 ·simp only [he, ↓reduceIte]
  refine ev_bind (k3 he) ?_
  simp only [↓reduceIte]
  exact Ev.now _
 ·obtain ⟨rfl, rfl⟩ := k4 he
  simp only [he, ↓reduceIte]
  exact ev_const (fun k => rfl)
end Go.Proofs.Ytkcghbfmigdomaa.Pure
