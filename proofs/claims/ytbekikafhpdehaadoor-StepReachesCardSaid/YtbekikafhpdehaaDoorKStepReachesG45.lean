import Derived.Test.YtbekikafhpdehaaDoorKStepReachesG43
import Derived.Test.YtbekikafhpdehaaDoorKStepReachesG44
import Derived.Test.YtbekikafhpdehaaDoorKStepReachesG31
import Derived.Test.YtbekikafhpdehaaDoorKStepReachesG26
import Derived.Test.YtbekikafhpdehaaDoorKStepReachesG39
import Derived.Test.YtbekikafhpdehaaDoorKStepReachesG30
import Derived.Test.YtbekikafhpdehaaDoorKStepReachesG40
namespace Go.Proofs.YtbekikafhpdehaaDoor.Pure
open Go.RowKit Go.Proofs.YtbekikafhpdehaaDoor Go.Proofs.YtbekikafhpdehaaDoor.T Go.Proofs.YtbekikafhpdehaaDoor.Base Go.Proofs.YtbekikafhpdehaaDoorW.PrintWords Go.Proofs.YtbekikafhpdehaaDoorW.PrintLast Go.Proofs.YtbekikafhpdehaaDoorW.PrintMore
set_option linter.unusedVariables false
set_option linter.unusedSimpArgs false
def applyS (vs : List PVar) (env : List Int) : List PSet → List Int → Option (List Int)
 | [], out => some out
 | s :: ss, out => if (evalS s.f1 env).2 = 0 ∧ (rd_T58 vs s.f0).f1 ≤ (evalS s.f1 env).1 ∧ (evalS s.f1 env).1 ≤ (rd_T58 vs s.f0).f2 then applyS vs env ss (out.set s.f0.toNat (evalS s.f1 env).1) else none
def afterV (vs : List PVar) (r : PRule) (env : List Int) : Option (List Int) := if (evalS r.f0 env).2 = 0 ∧ (evalS r.f0 env).1 ≠ 0 then applyS vs env r.f1 env else none
def afterS (vs : List PVar) (rs : List PRule) (c k : Int) : Int × Int :=
 if (valuesS vs rs c).2 = 0 then (if 0 ≤ k ∧ k < (rs.length : Int) then (match afterV vs (rd_T49 rs k) (valuesS vs rs c).1 with | none => (0, 11) | some out => codeS vs rs out) else (0, 2)) else (0, (valuesS vs rs c).2)
def oneVar (env : List Int) (i : Int) : List PSet → Int → Option Int
 | [], x => some x
 | s :: ss, x => if s.f0 = i then (if (evalS s.f1 env).2 = 0 then oneVar env i ss (evalS s.f1 env).1 else none) else oneVar env i ss x
def allVars (env : List Int) (ss : List PSet) : List Int → Nat → Option (List Int)
 | [], _ => some []
 | x :: xs, i => match oneVar env i ss x with | none => none | some y => (allVars env ss xs (i + 1)).map (y :: ·)
def ruleV (vs : List PVar) (rs : List PRule) (r : PRule) (env : List Int) : Int × Int :=
 if (evalS r.f0 env).2 = 0 ∧ (evalS r.f0 env).1 = 1 then (match allVars env r.f1 env 0 with | none => (0, 11) | some out => if (codeS vs rs out).2 = 0 then ((codeS vs rs out).1, 0) else (0, 11)) else (0, 11)
def ruleAt (vs : List PVar) (rs : List PRule) (c k : Int) : Int × Int :=
 if (valuesS vs rs c).2 = 0 then (if 0 ≤ k ∧ k < (rs.length : Int) then ruleV vs rs (rd_T49 rs k) (valuesS vs rs c).1 else (0, 2)) else (0, (valuesS vs rs c).2)
def inB (vs : List PVar) (xs : List Int) : Prop := ∀ i (h : i < vs.length) (g : i < xs.length), vs[i].f1 ≤ xs[i] ∧ xs[i] ≤ vs[i].f2
theorem encR_in : ∀ (vs : List PVar) (xs : List Int), xs.length = vs.length → inB vs xs → ∃ n, encR vs xs = some n
 | [], xs, _, _ => ⟨0, by simp [encR]⟩
 | v :: vs, [], h, _ => by simp at h
 | v :: vs, x :: xs, h, hb => by
  obtain ⟨n, hn⟩ := encR_in vs xs (by simpa using h) (fun i h1 h2 => hb (i + 1) (by simpa using h1) (by simpa using h2))
  have := hb 0 (by simp) (by simp)
  simp only [List.getElem_cons_zero] at this
  refine ⟨(x - v.f1) * prodV vs + n, ?_⟩
  rw [encR, if_neg (by omega), hn]
  rfl
theorem encR_out : ∀ (vs : List PVar) (xs : List Int) (i : Nat) (h : i < vs.length) (g : i < xs.length), xs[i] < vs[i].f1 ∨ vs[i].f2 < xs[i] → encR vs xs = none
 | v :: vs, x :: xs, 0, _, _, hb => by
  simp only [List.getElem_cons_zero] at hb
  rw [encR, if_pos hb]
 | v :: vs, x :: xs, i + 1, h, g, hb => by
  rw [encR, encR_out vs xs i (by simpa using h) (by simpa using g) hb]
  split <;> rfl
theorem valS_in : ∀ (vs : List PVar) (c : Int), (∀ v ∈ vs, VOk v) → 0 ≤ c → c < prodV vs → inB vs (valS vs c)
 | [], c, _, _, _ => fun i h => absurd h (by simp)
 | v :: vs, c, ho, h0, h1 => by
  have hp := prodV_pos (l := vs) (fun u hu => ho u (by simp [hu]))
  have hv := ho v (by simp)
  unfold VOk at hv
  rw [prodV_cons] at h1
  have e0 : 0 ≤ c / prodV vs := Int.ediv_nonneg h0 (by omega)
  have e1 : c / prodV vs < v.f2 - v.f1 + 1 := Int.ediv_lt_of_lt_mul (by omega) h1
  have ih := valS_in vs (c % prodV vs) (fun u hu => ho u (by simp [hu])) (Int.emod_nonneg _ (by omega)) (Int.emod_lt_of_pos _ (by omega))
  intro i h g
  cases i with
  | zero =>
   simp only [valS, List.getElem_cons_zero]
   omega
  | succ i =>
   simp only [valS, List.getElem_cons_succ]
   exact ih i (by simpa using h) (by simpa [valS] using g)
structure SetsOk (n : Nat) (ss : List PSet) : Prop where
 ran : ∀ s ∈ ss, 0 ≤ s.f0 ∧ s.f0 < (n : Int)
 dis : ss.Pairwise fun a b => a.f0 ≠ b.f0
theorem setsS_ok (n : Nat) : ∀ (ss : List PSet) (seen : List Int), setsS n ss seen = 0 → SetsOk n ss ∧ ∀ s ∈ ss, s.f0 ∉ seen
 | [], _, _ => ⟨⟨fun s hs => (nomatch hs), List.Pairwise.nil⟩, fun s hs => (nomatch hs)⟩
 | s :: ss, seen, h => by
  unfold setsS at h
  split at h
  ·cases h
  rename_i h1
  split at h
  ·cases h
  rename_i h2
  split at h
  ·rename_i h3
   obtain ⟨ih, ih2⟩ := setsS_ok n ss (seen ++ [s.f0]) h
   have hs : s.f0 ∉ seen := by
    intro hm
    apply h2
    rw [List.any_eq_true]
    exact ⟨s.f0, hm, by simp⟩
   refine ⟨⟨fun u hu => ?_, List.Pairwise.cons (fun u hu e => ?_) ih.dis⟩, fun u hu => ?_⟩
   ·rcases List.mem_cons.1 hu with rfl | hu
    ·omega
    ·exact ih.ran u hu
   ·exact ih2 u hu (by rw [← e]; simp)
   ·rcases List.mem_cons.1 hu with rfl | hu
    ·exact hs
    ·exact fun hm => ih2 u hu (List.mem_append_left _ hm)
  ·rename_i h3; exact absurd h h3
theorem rulesS_at (n : Int) : ∀ (rs : List PRule) (k : Nat) (hk : k < rs.length), rulesS n rs = 0 → ruleS rs[k].f0 rs[k].f1 n = 0
 | r :: rs, 0, _, h => by
  unfold rulesS at h
  by_cases hc : ruleS r.f0 r.f1 n = 0
  ·exact hc
  ·rw [if_neg hc] at h; exact absurd h hc
 | r :: rs, k + 1, hk, h => by
  unfold rulesS at h
  by_cases hc : ruleS r.f0 r.f1 n = 0
  ·rw [if_pos hc] at h
   exact rulesS_at n rs k (by simpa using hk) h
  ·rw [if_neg hc] at h; exact absurd h hc
theorem ruleS_ok {n : Nat} {g : List POp} {ss : List PSet} (h : ruleS g ss n = 0) : kindS g n true = 0 ∧ SetsOk n ss := by
 unfold ruleS at h
 split at h
 ·cases h
 split at h
 ·rename_i h2
  exact ⟨h2, (setsS_ok n ss [] h).1⟩
 ·rename_i h2; exact absurd h h2
theorem modelS_rules {vs : List PVar} {rs : List PRule} (h : modelS vs rs = 0) : rulesS (vs.length : Int) rs = 0 ∧ rs.length ≤ 12 := by
 unfold modelS at h
 split at h
 ·split at h
  ·cases h
  ·exact ⟨h, by omega⟩
 ·rename_i h2; exact absurd h h2
theorem guard01 {g : List POp} {env : List Int} (h : kindS g (env.length : Int) true = 0) (he : (evalS g env).2 = 0) : (evalS g env).1 = 0 ∨ (evalS g env).1 = 1 := by
 unfold kindS at h
 split at h
 ·rename_i h2
  split at h
  ·cases h
  rename_i h3
  have hk : (exprS g (env.length : Int)).1 = true := by
   revert h3
   cases (exprS g (env.length : Int)).1 <;> simp
  obtain ⟨q1, q2, q3, q4, q5, q6⟩ := exprS_ok h2
  have hw := (worked_ev env (env.length : Int) rfl g q2 q4 q5 q3).2
  have hm : mkH g = true := by
   have e : (exprS g (env.length : Int)).1 = mkH g := by
    have h2' := h2
    unfold exprS at h2' ⊢
    rw [if_pos q1, if_pos (show (endsS g).2 = 0 by rw [q6])] at h2' ⊢
    by_cases hc : chkE (env.length : Int) g = 0
    ·rw [if_pos hc, if_pos q5]
    ·rw [if_neg hc] at h2'; exact absurd h2' hc
   rw [← e]; exact hk
  unfold evalS at he ⊢
  rw [if_pos h2] at he ⊢
  split at he
  ·rename_i h4
   rw [if_pos h4]
   cases hr : runS env g with
   | error c => rw [hr] at he; exact absurd he (run_err_ne env g c hr)
   | ok stk => exact hw hm stk hr
  ·cases he
 ·rename_i h2; exact absurd h h2
theorem applyS_len (vs : List PVar) (env : List Int) : ∀ (ss : List PSet) (out o : List Int), applyS vs env ss out = some o → o.length = out.length
 | [], out, o, h => by simp only [applyS, Option.some.injEq] at h; rw [← h]
 | s :: ss, out, o, h => by
  unfold applyS at h
  split at h
  ·rw [applyS_len vs env ss _ o h, List.length_set]
  ·cases h
theorem oneVar_none (env : List Int) (i : Int) : ∀ (ss : List PSet) (x : Int), (∀ s ∈ ss, s.f0 ≠ i) → oneVar env i ss x = some x
 | [], x, _ => rfl
 | s :: ss, x, h => by
  rw [oneVar, if_neg (h s (by simp))]
  exact oneVar_none env i ss x (fun u hu => h u (by simp [hu]))
theorem oneVar_bad (env : List Int) : ∀ (ss : List PSet) (s : PSet) (x : Int), s ∈ ss → (evalS s.f1 env).2 ≠ 0 → (∀ u ∈ ss, u.f0 = s.f0 → u.f0 = s.f0) → oneVar env s.f0 ss x = none
 | [], s, x, h, _, _ => (nomatch h)
 | u :: ss, s, x, h, he, hd => by
  rw [oneVar]
  rcases List.mem_cons.1 h with rfl | hm
  ·rw [if_pos rfl, if_neg he]
  ·have ih := fun y => oneVar_bad env ss s y hm he (fun _ _ h => h)
   split
   ·split
    ·exact ih _
    ·rfl
   ·exact ih _
theorem allVars_bad (env : List Int) (ss : List PSet) : ∀ (xs : List Int) (i j : Nat), j < xs.length → (∀ x, oneVar env ((i + j : Nat) : Int) ss x = none) → allVars env ss xs i = none
 | x :: xs, i, 0, _, h => by
  have h' := h x
  rw [Nat.add_zero] at h'
  rw [allVars, h']
 | x :: xs, i, j + 1, hj, h => by
  rw [allVars]
  split
  ·rfl
  ·rw [allVars_bad env ss xs (i + 1) j (by simpa using hj) (by rw [show i + 1 + j = i + (j + 1) by omega]; exact h)]
   rfl
theorem allVars_get (env : List Int) (ss : List PSet) : ∀ (xs : List Int) (i : Nat) (out : List Int), out.length = xs.length → (∀ j (h : j < xs.length) (g : j < out.length), oneVar env ((i + j : Nat) : Int) ss xs[j] = some out[j]) → allVars env ss xs i = some out
 | [], i, out, hl, _ => by
  obtain rfl : out = [] := List.eq_nil_of_length_eq_zero hl
  rfl
 | x :: xs, i, [], hl, _ => by simp at hl
 | x :: xs, i, y :: out, hl, h => by
  have h0 := h 0 (by simp) (by simp)
  simp only [Nat.add_zero, List.getElem_cons_zero] at h0
  rw [allVars, h0]
  simp only
  rw [allVars_get env ss xs (i + 1) out (by simpa using hl) (fun j h1 h2 => by
   have := h (j + 1) (by simpa using h1) (by simpa using h2)
   rw [show i + 1 + j = i + (j + 1) by omega]
   simpa using this)]
  rfl
theorem apply_both (vs : List PVar) (env : List Int) : ∀ (ss : List PSet) (out : List Int), SetsOk out.length ss → out.length = vs.length → (∀ s ∈ ss, (evalS s.f1 env).2 = 0) →
  ∃ o, o.length = out.length ∧ (∀ j (h : j < out.length) (g : j < o.length), oneVar env (j : Int) ss out[j] = some o[j]) ∧
   ((applyS vs env ss out = some o ∧ ∀ s ∈ ss, (rd_T58 vs s.f0).f1 ≤ (evalS s.f1 env).1 ∧ (evalS s.f1 env).1 ≤ (rd_T58 vs s.f0).f2) ∨ (applyS vs env ss out = none ∧ ∃ s ∈ ss, ((evalS s.f1 env).1 < (rd_T58 vs s.f0).f1 ∨ (rd_T58 vs s.f0).f2 < (evalS s.f1 env).1) ∧ o.getD s.f0.toNat 0 = (evalS s.f1 env).1))
 | [], out, _, _, _ => ⟨out, rfl, fun j h g => rfl, .inl ⟨rfl, fun s hs => (nomatch hs)⟩⟩
 | s :: ss, out, hok, hl, he => by
  obtain ⟨y, hy⟩ : ∃ y, y = (evalS s.f1 env).1 := ⟨_, rfl⟩
  have hs := hok.ran s (by simp)
  have hd := hok.dis
  rw [List.pairwise_cons] at hd
  have hok' : SetsOk (out.set s.f0.toNat y).length ss := ⟨fun u hu => by rw [List.length_set]; exact hok.ran u (by simp [hu]), hd.2⟩
  obtain ⟨o, o1, o2, o3⟩ := apply_both vs env ss (out.set s.f0.toNat y) hok' (by rw [List.length_set]; exact hl) (fun u hu => he u (by simp [hu]))
  rw [List.length_set] at o1
  have hself : ∀ x, oneVar env s.f0 ss x = some x := fun x => oneVar_none env s.f0 ss x (fun u hu e => hd.1 u hu e.symm)
  refine ⟨o, o1, fun j h g => ?_, ?_⟩
  ·have h2 := o2 j (by rw [List.length_set]; exact h) g
   rw [List.getElem_set] at h2
   rw [oneVar]
   by_cases e : s.f0 = (j : Int)
   ·rw [if_pos e, if_pos (he s (by simp)), ← hy]
    rw [if_pos (by omega)] at h2
    exact h2
   ·rw [if_neg e]
    rw [if_neg (by omega)] at h2
    exact h2
  ·have hoy : o.getD s.f0.toNat 0 = y := by
    have hlt : s.f0.toNat < out.length := by omega
    have h2 := o2 s.f0.toNat (by rw [List.length_set]; exact hlt) (by omega)
    rw [List.getElem_set_self, show ((s.f0.toNat : Nat) : Int) = s.f0 by omega, hself] at h2
    rw [List.getD_eq_getElem?_getD, List.getElem?_eq_getElem (by omega)]
    exact (Option.some.inj h2).symm
   rw [applyS]
   by_cases hb : (rd_T58 vs s.f0).f1 ≤ (evalS s.f1 env).1 ∧ (evalS s.f1 env).1 ≤ (rd_T58 vs s.f0).f2
   ·rw [if_pos ⟨he s (by simp), hb⟩, ← hy]
    rcases o3 with ⟨h1, h2⟩ | ⟨h1, u, hu, h2⟩
    ·refine .inl ⟨h1, fun u hu => ?_⟩
     rcases List.mem_cons.1 hu with rfl | hu
     ·exact hb
     ·exact h2 u hu
    ·exact .inr ⟨h1, u, by simp [hu], h2⟩
   ·rw [if_neg (fun h => hb h.2)]
    exact .inr ⟨rfl, s, by simp, by omega, hoy.trans hy⟩
theorem codeS_in {vs : List PVar} {rs : List PRule} {o : List Int} (h : modelS vs rs = 0) (hl : o.length = vs.length) (hb : inB vs o) : (codeS vs rs o).2 = 0 := by
 obtain ⟨n, hn⟩ := encR_in vs o hl hb
 unfold codeS
 rw [if_pos h, if_pos hl, hn]
 rfl
theorem codeS_out {vs : List PVar} {rs : List PRule} {o : List Int} (h : modelS vs rs = 0) (hl : o.length = vs.length) {i : Nat} (hi : i < vs.length) (g : i < o.length) (hb : o[i] < vs[i].f1 ∨ vs[i].f2 < o[i]) : (codeS vs rs o).2 ≠ 0 := by
 unfold codeS
 rw [if_pos h, if_pos hl, encR_out vs o i hi g hb]
 decide
theorem rule_both {vs : List PVar} {rs : List PRule} (h : modelS vs rs = 0) {r : PRule} {env : List Int} (hr : ruleS r.f0 r.f1 (vs.length : Int) = 0) (hl : env.length = vs.length) (hin : inB vs env) :
  ruleV vs rs r env = (match afterV vs r env with | none => (0, 11) | some out => codeS vs rs out) := by
 obtain ⟨hg, hok⟩ := ruleS_ok hr
 rw [← hl] at hg hok
 unfold ruleV afterV
 by_cases he : (evalS r.f0 env).2 = 0
 ·have h01 := guard01 hg he
  by_cases h1 : (evalS r.f0 env).1 = 1
  ·rw [if_pos ⟨he, h1⟩, if_pos ⟨he, by omega⟩]
   by_cases hall : ∀ s ∈ r.f1, (evalS s.f1 env).2 = 0
   ·obtain ⟨o, o1, o2, o3⟩ := apply_both vs env r.f1 env hok hl hall
    have hav : allVars env r.f1 env 0 = some o := allVars_get env r.f1 env 0 o o1 (fun j h g => by rw [Nat.zero_add]; exact o2 j h g)
    rw [hav]
    rcases o3 with ⟨h2, h3⟩ | ⟨h2, s, hs, h3, h4⟩
    ·rw [h2]
     have hb : inB vs o := by
      intro j hj g
      have hje : j < env.length := by omega
      have h5 := o2 j hje g
      by_cases hex : ∃ s ∈ r.f1, s.f0 = (j : Int)
      ·obtain ⟨s, hs, hsj⟩ := hex
       have h6 := h3 s hs
       have e1 : oneVar env (j : Int) r.f1 env[j] = some (evalS s.f1 env).1 := oneVar_hit env r.f1 s j env[j] hok.dis hs hsj hall
       rw [e1] at h5
       rw [hsj, rdV_get vs j hj] at h6
       rw [← Option.some.inj h5]
       exact h6
      ·rw [oneVar_none env j r.f1 env[j] (fun s hs e => hex ⟨s, hs, e⟩)] at h5
       rw [← Option.some.inj h5]
       exact hin j hj hje
     have hc := codeS_in h (o1.trans hl) hb
     simp only [hc, ↓reduceIte]
     exact Prod.ext rfl hc.symm
    ·rw [h2]
     have hsr := hok.ran s hs
     obtain ⟨j, hj⟩ : ∃ j : Nat, s.f0 = (j : Int) := ⟨s.f0.toNat, by omega⟩
     have hjv : j < vs.length := by omega
     rw [hj, rdV_get vs j hjv] at h3
     rw [hj, Int.toNat_natCast, List.getD_eq_getElem?_getD, List.getElem?_eq_getElem (by omega)] at h4
     have hc := codeS_out h (o1.trans hl) hjv (by omega) (by rw [show o[j] = (evalS s.f1 env).1 from h4]; exact h3)
     simp only [hc, ↓reduceIte]
   ·obtain ⟨s, hs, hse⟩ : ∃ s ∈ r.f1, (evalS s.f1 env).2 ≠ 0 := by
     refine Classical.byContradiction fun hn => hall fun s hs => Classical.byContradiction fun hc => hn ⟨s, hs, hc⟩
    have hsr := hok.ran s hs
    have hav : allVars env r.f1 env 0 = none := allVars_bad env r.f1 env 0 s.f0.toNat (by omega) (fun x => by
     rw [Nat.zero_add, show ((s.f0.toNat : Nat) : Int) = s.f0 by omega]
     exact oneVar_bad env r.f1 s x hs hse (fun _ _ h => h))
    rw [hav, applyS_bad vs env r.f1 env s hs hse]
  ·rw [if_neg (fun hc => h1 hc.2), if_neg (fun hc => hc.2 (by omega))]
 ·rw [if_neg (fun hc => he hc.1), if_neg (fun hc => he hc.1)]
where
 oneVar_hit (env : List Int) : ∀ (ss : List PSet) (s : PSet) (j : Nat) (x : Int), (ss.Pairwise fun a b => a.f0 ≠ b.f0) → s ∈ ss → s.f0 = (j : Int) → (∀ s ∈ ss, (evalS s.f1 env).2 = 0) → oneVar env (j : Int) ss x = some (evalS s.f1 env).1
  | [], s, j, x, _, h, _, _ => (nomatch h)
  | u :: ss, s, j, x, hd, h, hs, he => by
   rw [List.pairwise_cons] at hd
   rw [oneVar]
   rcases List.mem_cons.1 h with rfl | hm
   ·rw [if_pos hs, if_pos (he s (by simp))]
    exact oneVar_none env j ss _ (fun v hv e => hd.1 v hv (hs.trans e.symm))
   ·rw [if_neg (fun e => hd.1 s hm (e.trans hs.symm))]
    exact oneVar_hit env ss s j x hd.2 hm hs (fun v hv => he v (by simp [hv]))
 applyS_bad (vs : List PVar) (env : List Int) : ∀ (ss : List PSet) (out : List Int) (s : PSet), s ∈ ss → (evalS s.f1 env).2 ≠ 0 → applyS vs env ss out = none
  | [], out, s, h, _ => (nomatch h)
  | u :: ss, out, s, h, he => by
   rw [applyS]
   rcases List.mem_cons.1 h with rfl | hm
   ·rw [if_neg (fun hc => he hc.1)]
   ·split
    ·exact applyS_bad vs env ss _ s hm he
    ·rfl
theorem ruleAt_eq (vs : List PVar) (rs : List PRule) (c k : Int) : ruleAt vs rs c k = afterS vs rs c k := by
 unfold ruleAt afterS
 by_cases h : (valuesS vs rs c).2 = 0
 ·rw [if_pos h, if_pos h]
  by_cases hk : 0 ≤ k ∧ k < (rs.length : Int)
  ·rw [if_pos hk, if_pos hk]
   unfold valuesS at h ⊢
   by_cases hm : modelS vs rs = 0
   ·rw [if_pos hm] at h ⊢
    by_cases hc : c < 0 ∨ prodV vs ≤ c
    ·rw [if_pos hc] at h; cases h
    ·rw [if_neg hc]
     obtain ⟨ho, hp⟩ := vars_ok (modelS_vars hm)
     obtain ⟨j, rfl⟩ := Int.eq_ofNat_of_zero_le hk.1
     have hj : j < rs.length := by omega
     have hr := rulesS_at (vs.length : Int) rs j hj (modelS_rules hm).1
     rw [rdR_get rs j hj]
     exact rule_both hm hr (valS_len vs c) (valS_in vs c ho (by omega) (by omega))
   ·rw [if_neg hm] at h; exact absurd h hm
  ·rw [if_neg hk, if_neg hk]
 ·rw [if_neg h, if_neg h]
theorem applyS_in (vs : List PVar) (env : List Int) : ∀ (ss : List PSet) (out o : List Int), (∀ s ∈ ss, 0 ≤ s.f0 ∧ s.f0 < (vs.length : Int)) → out.length = vs.length → inB vs out → applyS vs env ss out = some o → inB vs o
 | [], out, o, _, _, hb, h => by
  simp only [applyS, Option.some.injEq] at h
  rw [← h]; exact hb
 | s :: ss, out, o, hr, hl, hb, h => by
  unfold applyS at h
  split at h
  ·rename_i hc
   refine applyS_in vs env ss _ o (fun u hu => hr u (by simp [hu])) (by rw [List.length_set]; exact hl) ?_ h
   have hs := hr s (by simp)
   intro i hi g
   rw [List.getElem_set]
   by_cases e : s.f0.toNat = i
   ·rw [if_pos e]
    have e2 : s.f0 = (i : Int) := by omega
    rw [e2, rdV_get vs i hi] at hc
    exact hc.2
   ·rw [if_neg e]
    exact hb i hi (by rw [List.length_set] at g; exact g)
  ·cases h
theorem afterV_ok {vs : List PVar} {rs : List PRule} (h : modelS vs rs = 0) {r : PRule} {env out : List Int} (hr : ruleS r.f0 r.f1 (vs.length : Int) = 0) (hl : env.length = vs.length) (hin : inB vs env) (ha : afterV vs r env = some out) :
  out.length = vs.length ∧ ∃ n, codeS vs rs out = (n, 0) ∧ 0 ≤ n ∧ n < prodV vs := by
 obtain ⟨hg, hok⟩ := ruleS_ok hr
 unfold afterV at ha
 split at ha
 ·have hlen := (applyS_len vs env r.f1 env out ha).trans hl
  have hb := applyS_in vs env r.f1 env out hok.ran hl hin ha
  obtain ⟨n, hn⟩ := encR_in vs out hlen hb
  obtain ⟨ho, hp⟩ := vars_ok (modelS_vars h)
  refine ⟨hlen, n, ?_, encR_bd vs out ho hlen n hn⟩
  unfold codeS
  rw [if_pos h, if_pos hlen, hn]
  simp [encP]
 ·cases ha
def codesS (vs : List PVar) (rs : List PRule) (env : List Int) : List PRule → List Int
 | [] => []
 | r :: q => match afterV vs r env with | none => codesS vs rs env q | some out => (codeS vs rs out).1 :: codesS vs rs env q
theorem codesS_in {vs : List PVar} {rs : List PRule} (h : modelS vs rs = 0) {env : List Int} (hl : env.length = vs.length) (hin : inB vs env) : ∀ q : List PRule, (∀ r ∈ q, ruleS r.f0 r.f1 (vs.length : Int) = 0) → ∀ x ∈ codesS vs rs env q, 0 ≤ x ∧ x < prodV vs
 | [], _, x, hx => (nomatch hx)
 | r :: q, hq, x, hx => by
  unfold codesS at hx
  split at hx
  ·exact codesS_in h hl hin q (fun u hu => hq u (by simp [hu])) x hx
  ·rename_i out ha
   obtain ⟨_, n, hn, h0, h1⟩ := afterV_ok h (hq r (by simp)) hl hin ha
   rcases List.mem_cons.1 hx with e | hx
   ·rw [e, hn]; exact ⟨h0, h1⟩
   ·exact codesS_in h hl hin q (fun u hu => hq u (by simp [hu])) x hx
theorem rules_all {vs : List PVar} {rs : List PRule} (h : modelS vs rs = 0) : ∀ r ∈ rs, ruleS r.f0 r.f1 (vs.length : Int) = 0 := by
 intro r hr
 obtain ⟨k, hk, rfl⟩ := List.mem_iff_getElem.1 hr
 exact rulesS_at _ rs k hk (modelS_rules h).1
def behindL (vs : List PVar) (rs : List PRule) (c : Int) : List Int :=
 if codesS vs rs (valS vs c) rs = [] then [c] else upTo (prodV vs).toNat (codesS vs rs (valS vs c) rs)
def nextS (vs : List PVar) (rs : List PRule) (c : Int) : List Int × Int := if (valuesS vs rs c).2 = 0 then (behindL vs rs c, 0) else ([], (valuesS vs rs c).2)
theorem valuesS_ok {vs : List PVar} {rs : List PRule} {c : Int} (h : (valuesS vs rs c).2 = 0) : modelS vs rs = 0 ∧ 0 ≤ c ∧ c < prodV vs ∧ (valuesS vs rs c).1 = valS vs c := by
 unfold valuesS at h ⊢
 by_cases hm : modelS vs rs = 0
 ·rw [if_pos hm] at h ⊢
  by_cases hc : c < 0 ∨ prodV vs ≤ c
  ·rw [if_pos hc] at h; cases h
  ·rw [if_neg hc]
   exact ⟨hm, by omega, by omega, rfl⟩
 ·rw [if_neg hm] at h; exact absurd h hm
theorem upTo_ne {n : Nat} {l : List Int} (hl : ∀ x ∈ l, 0 ≤ x ∧ x < (n : Int)) (h : l ≠ []) : upTo n l ≠ [] := by
 obtain ⟨x, hx⟩ := List.exists_mem_of_ne_nil l h
 intro e
 have := (upTo_mem n l x).2 ⟨hl x hx, hx⟩
 rw [e] at this
 simp at this
theorem behindL_in {vs : List PVar} {rs : List PRule} {c : Int} (h : modelS vs rs = 0) (h0 : 0 ≤ c) (h1 : c < prodV vs) : ∀ x ∈ behindL vs rs c, 0 ≤ x ∧ x < prodV vs := by
 obtain ⟨ho, hp⟩ := vars_ok (modelS_vars h)
 intro x hx
 unfold behindL at hx
 split at hx
 ·rw [List.mem_singleton.1 hx]; exact ⟨h0, h1⟩
 ·have := (upTo_mem _ _ _).1 hx
  omega
def optL (o : Option (List Int)) : List Int × Bool := match o with | none => ([], false) | some x => (x, true)
theorem after_l0 (vs : List PVar) (rs : List PRule) (env : List Int) (ss : List PSet) (hs : ss.length ≤ 6) (hr : ∀ s ∈ ss, 0 ≤ s.f0 ∧ s.f0 < (vs.length : Int)) (d : Nat) : ∀ (i : Nat) (out : List Int), i + d = ss.length → out.length = vs.length →
  Ev (fun k => step_after.l0 k env out ss (ss.length : Int) (i : Int) vs rs) (optL (applyS vs env (ss.drop i) out)) := by
 induction d with
 | zero =>
  intro i out hi ho
  rw [List.drop_of_length_le (by omega)]
  have c1 : ¬ (i : Int) < (ss.length : Int) := by omega
  refine ev_succ ?_
  simp only [step_after.l0, ↓reduceIte, c1]
  exact Ev.now _
 | succ d ih =>
  intro i out hi ho
  have hil : i < ss.length := by omega
  have c1 : (i : Int) < (ss.length : Int) := by omega
  have c2 : (0 : Int) ≤ (i : Int) := Int.natCast_nonneg _
  have w1 : wrap64 ((i : Int) + 1) = ((i + 1 : Nat) : Int) := by rw [wrap_id (by omega) (by omega)]; rfl
  have hsr := hr _ (List.getElem_mem hil)
  have c3 : ss[i].f0 < (out.length : Int) := by omega
  have he : expr_Eval.f ss[i].f1 env = some (evalS ss[i].f1 env) := rfl
  rw [List.drop_eq_getElem_cons hil, applyS]
  refine ev_succ ?_
  simp only [step_after.l0, ↓reduceIte, c1, c2, rdS_get ss i hil, he, x_bind, hsr.1, hsr.2, c3, w1]
  by_cases h1 : (evalS ss[i].f1 env).2 = 0
  ·simp only [h1, ↓reduceIte, true_and]
   by_cases h2 : (evalS ss[i].f1 env).1 < (rd_T58 vs ss[i].f0).f1
   ·have h4 : ¬ ((rd_T58 vs ss[i].f0).f1 ≤ (evalS ss[i].f1 env).1 ∧ (evalS ss[i].f1 env).1 ≤ (rd_T58 vs ss[i].f0).f2) := by omega
    simp only [h2, h4, ↓reduceIte]
    exact Ev.now _
   ·by_cases h3 : (evalS ss[i].f1 env).1 > (rd_T58 vs ss[i].f0).f2
    ·have h4 : ¬ ((rd_T58 vs ss[i].f0).f1 ≤ (evalS ss[i].f1 env).1 ∧ (evalS ss[i].f1 env).1 ≤ (rd_T58 vs ss[i].f0).f2) := by omega
     simp only [h2, h3, h4, ↓reduceIte]
     exact Ev.now _
    ·have h4 : (rd_T58 vs ss[i].f0).f1 ≤ (evalS ss[i].f1 env).1 ∧ (evalS ss[i].f1 env).1 ≤ (rd_T58 vs ss[i].f0).f2 := by omega
     simp only [h2, h3, h4, ↓reduceIte, and_self]
     exact ih (i + 1) _ (by omega) (by rw [List.length_set]; exact ho)
  ·simp only [h1, ↓reduceIte, false_and]
   exact Ev.now _
theorem after_ev (vs : List PVar) (rs : List PRule) (r : PRule) (env : List Int) (hs : r.f1.length ≤ 6) (hr : ∀ s ∈ r.f1, 0 ≤ s.f0 ∧ s.f0 < (vs.length : Int)) (hl : env.length = vs.length) (h6 : vs.length ≤ 6) :
  Ev (fun k => step_after.f k vs rs r.f0 r.f1 env) (optL (afterV vs r env)) := by
 have he : expr_Eval.f r.f0 env = some (evalS r.f0 env) := rfl
 have hc : slices_Clone_int_int.f env = some env := by unfold slices_Clone_int_int.f; rw [if_pos (by omega)]
 have ff : ((false : Bool) = true) = False := by simp
 unfold step_after.f afterV
 simp only [he, x_bind]
 by_cases h1 : (evalS r.f0 env).2 = 0
 ·by_cases h2 : (evalS r.f0 env).1 = 0
  ·have h3 : ((evalS r.f0 env).1 == 0) = true := beq_iff_eq.2 h2
   have h4 : ¬ ((evalS r.f0 env).2 = 0 ∧ (evalS r.f0 env).1 ≠ 0) := fun h => h.2 h2
   rw [if_neg h4]
   simp only [h1, h3, ↓reduceIte]
   refine ev_succ ?_
   simp only [step_after.j0, ↓reduceIte]
   exact Ev.now _
  ·have h3 : ((evalS r.f0 env).1 == 0) = false := beq_eq_false_iff_ne.2 h2
   rw [if_pos ⟨h1, h2⟩]
   simp only [h1, h3, ↓reduceIte]
   refine ev_succ ?_
   simp only [step_after.j0, ff, ↓reduceIte, hc, x_bind]
   exact after_l0 vs rs env r.f1 hs hr r.f1.length 0 env (by omega) hl
 ·have h4 : ¬ ((evalS r.f0 env).2 = 0 ∧ (evalS r.f0 env).1 ≠ 0) := fun h => h1 h.1
  rw [if_neg h4]
  simp only [h1, ↓reduceIte]
  refine ev_succ ?_
  simp only [step_after.j0, ↓reduceIte]
  exact Ev.now _
structure AtOK (vs : List PVar) (rs : List PRule) (c : Int) : Prop where
 m : modelS vs rs = 0
 l : (valuesS vs rs c).1.length = vs.length
 six : vs.length ≤ 6
theorem at_ok {vs : List PVar} {rs : List PRule} {c : Int} (h : (valuesS vs rs c).2 = 0) : AtOK vs rs c := by
 unfold valuesS at h
 by_cases hm : modelS vs rs = 0
 ·refine ⟨hm, ?_, modelS_len hm⟩
  unfold valuesS
  rw [if_pos hm] at h ⊢
  by_cases hc : c < 0 ∨ prodV vs ≤ c
  ·rw [if_pos hc] at h; cases h
  ·rw [if_neg hc]; exact valS_len vs c
 ·rw [if_neg hm] at h; exact absurd h hm
theorem rule_facts {vs : List PVar} {rs : List PRule} (h : modelS vs rs = 0) {j : Nat} (hj : j < rs.length) : rs[j].f1.length ≤ 6 ∧ ∀ s ∈ rs[j].f1, 0 ≤ s.f0 ∧ s.f0 < (vs.length : Int) := by
 have hr := rulesS_at (vs.length : Int) rs j hj (modelS_rules h).1
 refine ⟨?_, (ruleS_ok hr).2.ran⟩
 unfold ruleS at hr
 split at hr
 ·cases hr
 ·omega
theorem afterRule_l1 (vs : List PVar) (rs : List PRule) (env : List Int) (h6 : env.length ≤ 6) (g : List POp) (ss : List PSet) (hs : ss.length ≤ 6) (acc : List Int) (ha : acc.length ≤ 6) (i : Nat) (hi : i < env.length) (R : Int × Int)
  (hR : ∀ y, Ev (fun k => foretellref_AfterRule.l0 k env (acc ++ [y]) ((i + 1 : Nat) : Int) vs rs g ss) (if (oneVar env (i : Int) ss y).isSome = true then R else R) → True) (G : Int → Int × Int)
  (hG : ∀ y, Ev (fun k => foretellref_AfterRule.l0 k env (acc ++ [y]) ((i + 1 : Nat) : Int) vs rs g ss) (G y)) (d : Nat) : ∀ (j : Nat) (x : Int), j + d = ss.length →
  Ev (fun k => foretellref_AfterRule.l1 k env acc (i : Int) x (j : Int) vs rs g ss) (match oneVar env (i : Int) (ss.drop j) x with | none => (0, 11) | some y => G y) := by
 have c4 : acc.length < 17592186044416 := by omega
 have w2 : wrap64 ((i : Int) + 1) = ((i + 1 : Nat) : Int) := by rw [wrap_id (by omega) (by omega)]; rfl
 induction d with
 | zero =>
  intro j x hj
  rw [List.drop_of_length_le (by omega)]
  have c1 : ¬ (j : Int) < (ss.length : Int) := by omega
  refine ev_succ ?_
  simp only [foretellref_AfterRule.l1, ↓reduceIte, c1, c4, w2, oneVar]
  exact hG x
 | succ d ih =>
  intro j x hj
  have hjl : j < ss.length := by omega
  have c1 : (j : Int) < (ss.length : Int) := by omega
  have c2 : (0 : Int) ≤ (j : Int) := Int.natCast_nonneg _
  have w1 : wrap64 ((j : Int) + 1) = ((j + 1 : Nat) : Int) := by rw [wrap_id (by omega) (by omega)]; rfl
  rw [List.drop_eq_getElem_cons hjl, oneVar]
  refine ev_succ ?_
  simp only [foretellref_AfterRule.l1, ↓reduceIte, c1, c2, rdS_get ss j hjl, w1]
  by_cases h1 : ss[j].f0 = (i : Int)
  ·simp only [h1, ↓reduceIte]
   refine ev_bind (evaluated_ev ss[j].f1 env (by omega)) ?_
   by_cases h2 : (evalS ss[j].f1 env).2 = 0
   ·simp only [h2, ↓reduceIte]
    exact ih (j + 1) _ (by omega)
   ·simp only [h2, ↓reduceIte]
    exact Ev.now _
  ·simp only [h1, ↓reduceIte]
   exact ih (j + 1) x (by omega)
def endR (vs : List PVar) (rs : List PRule) (o : Option (List Int)) : Int × Int := match o with | none => (0, 11) | some out => if (codeS vs rs out).2 = 0 then ((codeS vs rs out).1, 0) else (0, 11)
theorem afterRule_l0 (vs : List PVar) (rs : List PRule) (env : List Int) (h6 : env.length ≤ 6) (g : List POp) (ss : List PSet) (hs : ss.length ≤ 6) (d : Nat) : ∀ (i : Nat) (acc : List Int), i + d = env.length → acc.length = i →
  Ev (fun k => foretellref_AfterRule.l0 k env acc (i : Int) vs rs g ss) (endR vs rs ((allVars env ss (env.drop i) i).map (acc ++ ·))) := by
 induction d with
 | zero =>
  intro i acc hi ha
  rw [List.drop_of_length_le (by omega)]
  have c1 : ¬ (i : Int) < (env.length : Int) := by omega
  refine ev_succ ?_
  simp only [foretellref_AfterRule.l0, ↓reduceIte, c1]
  refine ev_bind (codeOf_ev vs rs acc) ?_
  simp only [allVars, Option.map_some, List.append_nil, endR]
  by_cases h : (codeS vs rs acc).2 = 0
  ·simp only [h, ↓reduceIte]; exact Ev.now _
  ·simp only [h, ↓reduceIte]; exact Ev.now _
 | succ d ih =>
  intro i acc hi ha
  have hil : i < env.length := by omega
  have c1 : (i : Int) < (env.length : Int) := by omega
  have c2 : (0 : Int) ≤ (i : Int) := Int.natCast_nonneg _
  have hg : rd env (i : Int) = env[i] := rd_get _ _ hil
  rw [List.drop_eq_getElem_cons hil, allVars]
  refine ev_succ ?_
  simp only [foretellref_AfterRule.l0, ↓reduceIte, c1, c2, hg]
  refine ev_eq (afterRule_l1 vs rs env h6 g ss hs acc (by omega) i hil (0, 0) (fun _ _ => trivial) (fun y => endR vs rs ((allVars env ss (env.drop (i + 1)) (i + 1)).map ((acc ++ [y]) ++ ·))) (fun y => ih (i + 1) (acc ++ [y]) (by omega) (by rw [List.length_append, ha]; rfl)) ss.length 0 env[i] (by omega)) ?_
  rw [List.drop_zero]
  cases oneVar env (i : Int) ss env[i] with
  | none => rfl
  | some y =>
   simp only
   cases allVars env ss (env.drop (i + 1)) (i + 1) with
   | none => rfl
   | some o => simp only [Option.map_some, List.append_assoc, List.singleton_append]
theorem afterRule_ev (vs : List PVar) (rs : List PRule) (c k : Int) : Ev (fun q => foretellref_AfterRule.f q vs rs c k) (ruleAt vs rs c k) := by
 have ff : ((false : Bool) = true) = False := by simp
 unfold foretellref_AfterRule.f ruleAt
 refine ev_bind (valuesOf_ev vs rs c) ?_
 by_cases h : (valuesS vs rs c).2 = 0
 ·have hok := at_ok h
  have hrl := (modelS_rules hok.m).2
  have hle : (valuesS vs rs c).1.length ≤ 6 := by have := hok.l; have := hok.six; omega
  have w0 : wrap64 ((rs.length : Int) - 1) = (rs.length : Int) - 1 := wrap_id (by omega) (by omega)
  simp only [h, ↓reduceIte, w0]
  refine ev_call (inE_eq _ _ _) ?_
  by_cases h1 : 0 ≤ k ∧ k < (rs.length : Int)
  ·have h2 : decide (0 ≤ k ∧ k ≤ (rs.length : Int) - 1) = true := decide_eq_true (by omega)
   obtain ⟨j, rfl⟩ := Int.eq_ofNat_of_zero_le h1.1
   have hj : j < rs.length := by omega
   obtain ⟨f1, f2⟩ := rule_facts hok.m hj
   simp only [h2, ↓reduceIte]
   simp only [h1, ↓reduceIte, and_self, rdR_get rs j hj]
   refine ev_bind (evaluated_ev rs[j].f0 (valuesS vs rs c).1 (by omega)) ?_
   unfold ruleV
   by_cases h3 : (evalS rs[j].f0 (valuesS vs rs c).1).2 = 0
   ·by_cases h4 : (evalS rs[j].f0 (valuesS vs rs c).1).1 = 1
    ·have h5 : ((evalS rs[j].f0 (valuesS vs rs c).1).1 != 1) = false := bne_eq_false_iff_eq.2 h4
     rw [if_pos ⟨h3, h4⟩]
     simp only [h3, h5, ↓reduceIte]
     refine ev_succ ?_
     simp only [foretellref_AfterRule.j0, ff, ↓reduceIte]
     refine ev_eq (afterRule_l0 vs rs (valuesS vs rs c).1 hle rs[j].f0 rs[j].f1 f1 (valuesS vs rs c).1.length 0 [] (by omega) rfl) ?_
     rw [List.drop_zero]
     unfold endR
     cases allVars (valuesS vs rs c).1 rs[j].f1 (valuesS vs rs c).1 0 with
     | none => rfl
     | some o => rfl
    ·have h5 : ((evalS rs[j].f0 (valuesS vs rs c).1).1 != 1) = true := bne_iff_ne.2 h4
     rw [if_neg (fun hc => h4 hc.2)]
     simp only [h3, h5, ↓reduceIte]
     refine ev_succ ?_
     simp only [foretellref_AfterRule.j0, ↓reduceIte]
     exact Ev.now _
   ·rw [if_neg (fun hc => h3 hc.1)]
    simp only [h3, ↓reduceIte]
    refine ev_succ ?_
    simp only [foretellref_AfterRule.j0, ↓reduceIte]
    exact Ev.now _
  ·have h2 : decide (0 ≤ k ∧ k ≤ (rs.length : Int) - 1) = false := decide_eq_false (by omega)
   simp only [h2, ff, ↓reduceIte]
   simp only [h1, ↓reduceIte]
   exact Ev.now _
 ·simp only [h, ↓reduceIte]
  exact Ev.now _
theorem next_l0 (vs : List PVar) (rs : List PRule) (h : modelS vs rs = 0) (env : List Int) (hl : env.length = vs.length) (d : Nat) : ∀ (i : Nat) (acc : List Int), i + d = rs.length → acc.length ≤ i →
  Ev (fun k => step_next.l0 k env acc rs (rs.length : Int) (i : Int) vs rs) (Lib.compact ((acc ++ codesS vs rs env (rs.drop i)).mergeSort fun x y => decide (x ≤ y))) := by
 have hr := (modelS_rules h).2
 have ff : ((false : Bool) = true) = False := by simp
 induction d with
 | zero =>
  intro i acc hi ha
  rw [List.drop_of_length_le (by omega)]
  have c1 : ¬ (i : Int) < (rs.length : Int) := by omega
  refine ev_succ ?_
  simp only [step_next.l0, ↓reduceIte, c1, codesS, List.append_nil]
  refine ev_call (a := acc.mergeSort fun x y => decide (x ≤ y)) (by unfold slices_Sort_int_int.f; rw [if_pos (by omega)]) ?_
  refine ev_call (a := Lib.compact (acc.mergeSort fun x y => decide (x ≤ y))) (by unfold slices_Compact_int_int.f; rw [if_pos (by rw [List.length_mergeSort]; omega)]) (Ev.now _)
 | succ d ih =>
  intro i acc hi ha
  have hil : i < rs.length := by omega
  have c1 : (i : Int) < (rs.length : Int) := by omega
  have c2 : (0 : Int) ≤ (i : Int) := Int.natCast_nonneg _
  have c3 : acc.length < 17592186044416 := by omega
  have w1 : wrap64 ((i : Int) + 1) = ((i + 1 : Nat) : Int) := by rw [wrap_id (by omega) (by omega)]; rfl
  obtain ⟨f1, f2⟩ := rule_facts h hil
  rw [List.drop_eq_getElem_cons hil, codesS]
  refine ev_succ ?_
  simp only [step_next.l0, ↓reduceIte, c1, c2, c3, w1, rdR_get rs i hil]
  refine ev_bind (after_ev vs rs rs[i] env f1 f2 hl (modelS_len h)) ?_
  cases afterV vs rs[i] env with
  | none =>
   simp only [optL, ff, ↓reduceIte]
   exact ih (i + 1) acc (by omega) (by omega)
  | some out =>
   simp only [optL, ↓reduceIte]
   refine ev_bind (code_ev vs rs out) ?_
   refine ev_eq (ih (i + 1) (acc ++ [(codeS vs rs out).1]) (by omega) (by rw [List.length_append, List.length_singleton]; omega)) ?_
   rw [List.append_assoc, List.singleton_append]
theorem upTo_nil (n : Nat) : upTo n [] = [] := by
 unfold upTo
 rw [List.filter_eq_nil_iff]
 intro x _
 simp
theorem upTo_len (n : Nat) (l : List Int) : (upTo n l).length ≤ n := by
 unfold upTo
 refine Nat.le_trans (List.length_filter_le _ _) ?_
 rw [List.length_map, List.length_range]
 exact Nat.le_refl _
theorem next_ev (vs : List PVar) (rs : List PRule) (h : modelS vs rs = 0) (env : List Int) (hl : env.length = vs.length) (hin : inB vs env) :
  Ev (fun k => step_next.f k vs rs env) (upTo (prodV vs).toNat (codesS vs rs env rs)) := by
 unfold step_next.f
 refine ev_eq (next_l0 vs rs h env hl rs.length 0 [] (by omega) (by simp)) ?_
 rw [List.drop_zero, List.nil_append]
 refine compact_sort _ _ fun x hx => ?_
 have := codesS_in h hl hin rs (rules_all h) x hx
 omega
theorem stepNext_ev (vs : List PVar) (rs : List PRule) (c : Int) : Ev (fun k => step_Next.f k vs rs c) (nextS vs rs c) := by
 unfold step_Next.f nextS
 refine ev_bind (values_ev vs rs c) ?_
 by_cases h : (valuesS vs rs c).2 = 0
 ·obtain ⟨hm, h0, h1, hv⟩ := valuesS_ok h
  obtain ⟨ho, hp⟩ := vars_ok (modelS_vars hm)
  have hin := valS_in vs c ho h0 h1
  simp only [h, ↓reduceIte]
  rw [hv]
  refine ev_bind (next_ev vs rs hm (valS vs c) (valS_len vs c) hin) ?_
  unfold behindL
  have hall : ∀ x ∈ codesS vs rs (valS vs c) rs, 0 ≤ x ∧ x < ((prodV vs).toNat : Int) := fun x hx => by
   have := codesS_in hm (valS_len vs c) hin rs (rules_all hm) x hx
   omega
  by_cases hc : codesS vs rs (valS vs c) rs = []
  ·simp only [hc, ↓reduceIte, upTo_nil, List.length_nil]
   refine Ev.now _
  ·have hne := upTo_ne hall hc
   have hln : ¬ ((upTo (prodV vs).toNat (codesS vs rs (valS vs c) rs)).length : Int) = 0 := by
    have := List.length_pos_iff.2 hne
    omega
   simp only [hc, hln, ↓reduceIte]
   exact Ev.now _
 ·simp only [h, ↓reduceIte]
  exact Ev.now _
def marks (n : Nat) (l : List Int) : List Bool := (List.range n).map fun (i : Nat) => l.any (· == (i : Int))
theorem marks_len (n : Nat) (l : List Int) : (marks n l).length = n := by simp [marks]
theorem marks_get (n : Nat) (l : List Int) (i : Nat) (h : i < (marks n l).length) : (marks n l)[i] = l.any (· == (i : Int)) := by simp [marks]
theorem marks_nil (n : Nat) : marks n [] = List.replicate n false := by
 apply List.ext_getElem
 ·simp [marks]
 ·intro i h1 h2
  rw [marks_get, List.getElem_replicate]
  rfl
theorem marks_set (n : Nat) (l : List Int) (x : Int) (h0 : 0 ≤ x) : (marks n l).set x.toNat true = marks n (l ++ [x]) := by
 apply List.ext_getElem
 ·simp [marks]
 ·intro i h1 h2
  rw [List.getElem_set, marks_get, marks_get]
  by_cases e : x.toNat = i
  ·rw [if_pos e, List.any_append]
   have : x = (i : Int) := by omega
   simp [this]
  ·rw [if_neg e, List.any_append]
   have : ¬ x = (i : Int) := by omega
   simp [this]
theorem nextOf_l1 (n : Nat) (hn : n ≤ 4096) (l : List Int) (d : Nat) : ∀ (i : Nat) (acc : List Int), i + d = n → acc.length ≤ i →
  Ev (fun k => foretellref_NextOf.l1 k (n : Int) (marks n l) acc (i : Int)) (acc ++ ((List.range' i d).map fun (j : Nat) => (j : Int)).filter (fun x => l.any (· == x)), 0) := by
 have hml := marks_len n l
 induction d with
 | zero =>
  intro i acc hi ha
  have c1 : ¬ (i : Int) < (n : Int) := by omega
  refine ev_succ ?_
  simp only [foretellref_NextOf.l1, ↓reduceIte, c1, List.range'_zero, List.map_nil, List.filter_nil, List.append_nil]
  exact Ev.now _
 | succ d ih =>
  intro i acc hi ha
  have c1 : (i : Int) < (n : Int) := by omega
  have c2 : (0 : Int) ≤ (i : Int) := Int.natCast_nonneg _
  have c3 : acc.length < 17592186044416 := by omega
  have c4 : (i : Int) < ((marks n l).length : Int) := by omega
  have w1 : wrap64 ((i : Int) + 1) = ((i + 1 : Nat) : Int) := by rw [wrap_id (by omega) (by omega)]; rfl
  have hg : rdOf false (marks n l) (i : Int) = l.any (· == (i : Int)) := by
   rw [rdOf_get false _ i (by omega), marks_get]
  rw [List.range'_succ, List.map_cons, List.filter_cons]
  refine ev_succ ?_
  simp only [foretellref_NextOf.l1, ↓reduceIte, c1, c2, c3, c4, hg, w1]
  by_cases hb : l.any (· == (i : Int)) = true
  ·simp only [hb, ↓reduceIte]
   refine ev_eq (ih (i + 1) (acc ++ [(i : Int)]) (by omega) (by rw [List.length_append, List.length_singleton]; omega)) ?_
   rw [List.append_assoc, List.singleton_append]
  ·simp only [hb, ↓reduceIte]
   exact ih (i + 1) acc (by omega) (by omega)
theorem nextOf_end (n : Nat) (hn : n ≤ 4096) (l : List Int) : Ev (fun k => foretellref_NextOf.l1 k (n : Int) (marks n l) [] 0) (upTo n l, 0) := by
 refine ev_eq (nextOf_l1 n hn l n 0 [] (by omega) (by simp)) ?_
 rw [List.nil_append, upTo, List.range_eq_range']
theorem nextOf_l0 (vs : List PVar) (rs : List PRule) (c : Int) (h : (valuesS vs rs c).2 = 0) (d : Nat) : ∀ (i : Nat) (l : List Int) (s : Bool), i + d = rs.length → (s = true ↔ l ≠ []) → (∀ x ∈ l, 0 ≤ x ∧ x < prodV vs) →
  Ev (fun k => foretellref_NextOf.l0 k c (prodV vs) (marks (prodV vs).toNat l) s (i : Int) vs rs) (if l ++ codesS vs rs (valS vs c) (rs.drop i) = [] then [c] else upTo (prodV vs).toNat (l ++ codesS vs rs (valS vs c) (rs.drop i)), 0) := by
 obtain ⟨hm, h0, h1, hv⟩ := valuesS_ok h
 obtain ⟨ho, hp⟩ := vars_ok (modelS_vars hm)
 have hin := valS_in vs c ho h0 h1
 have hp1 := prodV_pos ho
 have hr := (modelS_rules hm).2
 induction d with
 | zero =>
  intro i l s hi hs hb
  rw [List.drop_of_length_le (by omega)]
  have c1 : ¬ (i : Int) < (rs.length : Int) := by omega
  refine ev_succ ?_
  simp only [foretellref_NextOf.l0, ↓reduceIte, c1, codesS, List.append_nil]
  cases s with
  | true =>
   have hne : l ≠ [] := hs.1 rfl
   simp only [hne, ↓reduceIte]
   have := nextOf_end (prodV vs).toNat (by omega) l
   rw [show (((prodV vs).toNat : Nat) : Int) = prodV vs by omega] at this
   exact this
  | false =>
   have hne : l = [] := Classical.byContradiction fun hc => by have := hs.2 hc; cases this
   have ff : ((false : Bool) = true) = False := by simp
   simp only [hne, ff, ↓reduceIte]
   exact Ev.now _
 | succ d ih =>
  intro i l s hi hs hb
  have hil : i < rs.length := by omega
  have c1 : (i : Int) < (rs.length : Int) := by omega
  have c2 : (0 : Int) ≤ (i : Int) := Int.natCast_nonneg _
  have w1 : wrap64 ((i : Int) + 1) = ((i + 1 : Nat) : Int) := by rw [wrap_id (by omega) (by omega)]; rfl
  have ha := afterRule_ev vs rs c (i : Int)
  rw [ruleAt_eq] at ha
  unfold afterS at ha
  rw [if_pos h, if_pos ⟨c2, c1⟩, rdR_get rs i hil, hv] at ha
  rw [List.drop_eq_getElem_cons hil, codesS]
  refine ev_succ ?_
  simp only [foretellref_NextOf.l0, ↓reduceIte, c1, w1]
  refine ev_bind ha ?_
  cases he : afterV vs rs[i] (valS vs c) with
  | none =>
   have e11 : ¬ (11 : Int) = 0 := by decide
   simp only [e11, ↓reduceIte]
   exact ih (i + 1) l s (by omega) hs hb
  | some out =>
   obtain ⟨_, n, hn, n0, n1⟩ := afterV_ok hm (rules_all hm _ (List.getElem_mem hil)) (valS_len vs c) hin he
   have c5 : n < ((marks (prodV vs).toNat l).length : Int) := by rw [marks_len]; omega
   simp only [hn, n0, c5, ↓reduceIte]
   rw [marks_set _ _ _ n0]
   refine ev_eq (ih (i + 1) (l ++ [n]) true (by omega) (by simp) (fun x hx => ?_)) ?_
   ·rcases List.mem_append.1 hx with hx | hx
    ·exact hb x hx
    ·rw [List.mem_singleton.1 hx]; exact ⟨n0, n1⟩
   ·rw [List.append_assoc, List.singleton_append]
theorem nextOf_ev (vs : List PVar) (rs : List PRule) (c : Int) : Ev (fun k => foretellref_NextOf.f k vs rs c) (nextS vs rs c) := by
 unfold foretellref_NextOf.f nextS
 refine ev_bind (stateCount_ev vs rs) ?_
 by_cases hm : modelS vs rs = 0
 ·obtain ⟨ho, hp⟩ := vars_ok (modelS_vars hm)
  have hp1 := prodV_pos ho
  have w1 : wrap64 (prodV vs - 1) = prodV vs - 1 := wrap_id (by omega) (by omega)
  unfold countS
  rw [if_pos hm]
  simp only [↓reduceIte, w1]
  refine ev_call (inE_eq _ _ _) ?_
  have ff : ((false : Bool) = true) = False := by simp
  by_cases hc : 0 ≤ c ∧ c < prodV vs
  ·have h2 : decide (0 ≤ c ∧ c ≤ prodV vs - 1) = true := decide_eq_true (by omega)
   have hv : (valuesS vs rs c).2 = 0 := by
    unfold valuesS
    rw [if_pos hm, if_neg (by omega)]
   have c1 : 0 ≤ prodV vs := by omega
   have c2 : (prodV vs).toNat ≤ 281474976710656 := by omega
   simp only [h2, hv, c1, c2, ↓reduceIte]
   rw [← marks_nil]
   refine ev_eq (nextOf_l0 vs rs c hv rs.length 0 [] false (by omega) (by simp) (fun x hx => (nomatch hx))) ?_
   rw [List.drop_zero, List.nil_append, behindL]
  ·have h2 : decide (0 ≤ c ∧ c ≤ prodV vs - 1) = false := decide_eq_false (by omega)
   have hv : (valuesS vs rs c).2 = 9 := by
    unfold valuesS
    rw [if_pos hm, if_pos (by omega)]
   have e9 : ¬ (9 : Int) = 0 := by decide
   simp only [h2, hv, ff, e9, ↓reduceIte]
   exact Ev.now _
 ·have hv : (valuesS vs rs c).2 = modelS vs rs := by
   unfold valuesS
   rw [if_neg hm]
  unfold countS
  rw [if_neg hm]
  simp only [hv, hm, ↓reduceIte]
  exact Ev.now _
def firstS (vs : List PVar) (rs : List PRule) : Int × Int := codeS vs rs (vs.map (·.f3))
theorem first_l0 (vs : List PVar) (rs : List PRule) (hv : vs.length ≤ 3518437208883) (d : Nat) : ∀ i : Nat, i + d = vs.length → Ev (fun k => model_First.l0 k ((vs.take i).map (·.f3)) vs (vs.length : Int) i vs rs) (firstS vs rs) := by
 induction d with
 | zero =>
  intro i hi
  rw [List.take_of_length_le (by omega)]
  have c1 : ¬ (i : Int) < (vs.length : Int) := by omega
  refine ev_succ ?_
  simp only [model_First.l0, ↓reduceIte, c1]
  exact ev_bind (code_ev vs rs _) (Ev.now _)
 | succ d ih =>
  intro i hi
  have hil : i < vs.length := by omega
  have c1 : (i : Int) < (vs.length : Int) := by omega
  have c2 : (0 : Int) ≤ (i : Int) := by omega
  have c3 : ((vs.take i).map (·.f3)).length < 17592186044416 := by rw [List.length_map, List.length_take]; omega
  have w1 : wrap64 ((i : Int) + 1) = ((i + 1 : Nat) : Int) := by rw [wrap_id (by omega) (by omega)]; rfl
  have h := ih (i + 1) (by omega)
  rw [List.take_succ_eq_append_getElem hil, List.map_append] at h
  refine ev_succ ?_
  simp only [model_First.l0, ↓reduceIte, c1, c2, c3, w1, rdV_get vs i hil]
  exact h
theorem first_ev (vs : List PVar) (rs : List PRule) (hv : vs.length ≤ 3518437208883) : Ev (fun k => model_First.f k vs rs) (firstS vs rs) := first_l0 vs rs hv vs.length 0 (by omega)
theorem firstCode_l0 (vs : List PVar) (rs : List PRule) (hv : vs.length ≤ 3518437208883) (d : Nat) : ∀ i : Nat, i + d = vs.length → Ev (fun k => foretellref_FirstCode.l0 k ((vs.take i).map (·.f3)) i vs rs) (firstS vs rs) := by
 induction d with
 | zero =>
  intro i hi
  rw [List.take_of_length_le (by omega)]
  have c1 : ¬ (i : Int) < (vs.length : Int) := by omega
  refine ev_succ ?_
  simp only [foretellref_FirstCode.l0, ↓reduceIte, c1]
  exact ev_bind (codeOf_ev vs rs _) (Ev.now _)
 | succ d ih =>
  intro i hi
  have hil : i < vs.length := by omega
  have c1 : (i : Int) < (vs.length : Int) := by omega
  have c2 : (0 : Int) ≤ (i : Int) := by omega
  have c3 : ((vs.take i).map (·.f3)).length < 17592186044416 := by rw [List.length_map, List.length_take]; omega
  have w1 : wrap64 ((i : Int) + 1) = ((i + 1 : Nat) : Int) := by rw [wrap_id (by omega) (by omega)]; rfl
  have h := ih (i + 1) (by omega)
  rw [List.take_succ_eq_append_getElem hil, List.map_append] at h
  refine ev_succ ?_
  simp only [foretellref_FirstCode.l0, ↓reduceIte, c1, c2, c3, w1, rdV_get vs i hil]
  exact h
theorem firstCode_ev (vs : List PVar) (rs : List PRule) (hv : vs.length ≤ 3518437208883) : Ev (fun k => foretellref_FirstCode.f k vs rs) (firstS vs rs) := firstCode_l0 vs rs hv vs.length 0 (by omega)
end Go.Proofs.YtbekikafhpdehaaDoor.Pure
