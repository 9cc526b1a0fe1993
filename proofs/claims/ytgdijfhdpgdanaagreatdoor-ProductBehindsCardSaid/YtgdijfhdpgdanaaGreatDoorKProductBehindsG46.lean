import Derived.Test.YtgdijfhdpgdanaaGreatDoorKProductBehindsG45
namespace Go.Proofs.YtgdijfhdpgdanaaGreatDoor.Pure
open Go.RowKit Go.Proofs.YtgdijfhdpgdanaaGreatDoor Go.Proofs.YtgdijfhdpgdanaaGreatDoor.B Go.Proofs.YtgdijfhdpgdanaaGreatDoor.Base Go.Proofs.YtgdijfhdpgdanaaGreatDoorW.PrintWords Go.Proofs.YtgdijfhdpgdanaaGreatDoorW.PrintLast Go.Proofs.YtgdijfhdpgdanaaGreatDoorW.PrintMore
set_option linter.unusedVariables false
set_option linter.unusedSimpArgs false
def applyS (vs : List PVar) (env : List Int) : List PSet → List Int → Option (List Int)
 | [], out => some out
 | s :: ss, out => if (evalS s.f1 env).2 = 0 ∧ (zAO vs s.f0).f1 ≤ (evalS s.f1 env).1 ∧ (evalS s.f1 env).1 ≤ (zAO vs s.f0).f2 then applyS vs env ss (out.set s.f0.toNat (evalS s.f1 env).1) else none
def afterV (vs : List PVar) (r : PRule) (env : List Int) : Option (List Int) := if (evalS r.f0 env).2 = 0 ∧ (evalS r.f0 env).1 ≠ 0 then applyS vs env r.f1 env else none
def afterS (vs : List PVar) (rs : List PRule) (c k : Int) : Int × Int :=
 if (valuesS vs rs c).2 = 0 then (if 0 ≤ k ∧ k < (rs.length : Int) then (match afterV vs (zAh rs k) (valuesS vs rs c).1 with | none => (0, 11) | some out => codeS vs rs out) else (0, 2)) else (0, (valuesS vs rs c).2)
def oneVar (env : List Int) (i : Int) : List PSet → Int → Option Int
 | [], x => some x
 | s :: ss, x => if s.f0 = i then (if (evalS s.f1 env).2 = 0 then oneVar env i ss (evalS s.f1 env).1 else none) else oneVar env i ss x
def allVars (env : List Int) (ss : List PSet) : List Int → Nat → Option (List Int)
 | [], _ => some []
 | x :: xs, i => match oneVar env i ss x with | none => none | some y => (allVars env ss xs (i + 1)).map (y :: ·)
def ruleV (vs : List PVar) (rs : List PRule) (r : PRule) (env : List Int) : Int × Int :=
 if (evalS r.f0 env).2 = 0 ∧ (evalS r.f0 env).1 = 1 then (match allVars env r.f1 env 0 with | none => (0, 11) | some out => if (codeS vs rs out).2 = 0 then ((codeS vs rs out).1, 0) else (0, 11)) else (0, 11)
def ruleAt (vs : List PVar) (rs : List PRule) (c k : Int) : Int × Int :=
 if (valuesS vs rs c).2 = 0 then (if 0 ≤ k ∧ k < (rs.length : Int) then ruleV vs rs (zAh rs k) (valuesS vs rs c).1 else (0, 2)) else (0, (valuesS vs rs c).2)
def inB (vs : List PVar) (xs : List Int) : Prop := ∀ i (h : i < vs.length) (g : i < xs.length), vs[i].f1 ≤ xs[i] ∧ xs[i] ≤ vs[i].f2
theorem encR_in : ∀ (vs : List PVar) (xs : List Int), xs.length = vs.length → inB vs xs → ∃ n, encR vs xs = some n
 | [], xs, _, _ => ⟨0, by simp [encR]⟩
 | v :: vs, [], h, _ => by simp at h
 | v :: vs, x :: xs, h, hb => by
  obtain ⟨n, hn⟩ := encR_in vs xs (by simpa using h) (fun i h1 h2 => hb (i + 1) (by simpa using h1) (by simpa using h2))
  have := hb 0 (by simp) (by simp)
  simp only [List.getElem_cons_zero] at this
  refine ⟨(x - v.f1) * prodV vs + n, ?_⟩
  rw [encR, if_neg (by omega), hn]
  rfl
theorem encR_out : ∀ (vs : List PVar) (xs : List Int) (i : Nat) (h : i < vs.length) (g : i < xs.length), xs[i] < vs[i].f1 ∨ vs[i].f2 < xs[i] → encR vs xs = none
 | v :: vs, x :: xs, 0, _, _, hb => by
  simp only [List.getElem_cons_zero] at hb
  rw [encR, if_pos hb]
 | v :: vs, x :: xs, i + 1, h, g, hb => by
  rw [encR, encR_out vs xs i (by simpa using h) (by simpa using g) hb]
  split <;> rfl
theorem valS_in : ∀ (vs : List PVar) (c : Int), (∀ v ∈ vs, VOk v) → 0 ≤ c → c < prodV vs → inB vs (valS vs c)
 | [], c, _, _, _ => fun i h => absurd h (by simp)
 | v :: vs, c, ho, h0, h1 => by
  have hp := prodV_pos (l := vs) (fun u hu => ho u (by simp [hu]))
  have hv := ho v (by simp)
  unfold VOk at hv
  rw [prodV_cons] at h1
  have e0 : 0 ≤ c / prodV vs := Int.ediv_nonneg h0 (by omega)
  have e1 : c / prodV vs < v.f2 - v.f1 + 1 := Int.ediv_lt_of_lt_mul (by omega) h1
  have ih := valS_in vs (c % prodV vs) (fun u hu => ho u (by simp [hu])) (Int.emod_nonneg _ (by omega)) (Int.emod_lt_of_pos _ (by omega))
  intro i h g
  cases i with
  | zero =>
   simp only [valS, List.getElem_cons_zero]
   omega
  | succ i =>
   simp only [valS, List.getElem_cons_succ]
   exact ih i (by simpa using h) (by simpa [valS] using g)
structure SetsOk (n : Nat) (ss : List PSet) : Prop where
 ran : ∀ s ∈ ss, 0 ≤ s.f0 ∧ s.f0 < (n : Int)
 dis : ss.Pairwise fun a b => a.f0 ≠ b.f0
theorem setsS_ok (n : Nat) : ∀ (ss : List PSet) (seen : List Int), setsS n ss seen = 0 → SetsOk n ss ∧ ∀ s ∈ ss, s.f0 ∉ seen
 | [], _, _ => ⟨⟨fun s hs => (nomatch hs), List.Pairwise.nil⟩, fun s hs => (nomatch hs)⟩
 | s :: ss, seen, h => by
  unfold setsS at h
  split at h
  ·cases h
  rename_i h1
  split at h
  ·cases h
  rename_i h2
  split at h
  ·rename_i h3
   obtain ⟨ih, ih2⟩ := setsS_ok n ss (seen ++ [s.f0]) h
   have hs : s.f0 ∉ seen := by
    intro hm
    apply h2
    rw [List.any_eq_true]
    exact ⟨s.f0, hm, by simp⟩
   refine ⟨⟨fun u hu => ?_, List.Pairwise.cons (fun u hu e => ?_) ih.dis⟩, fun u hu => ?_⟩
   ·rcases List.mem_cons.1 hu with rfl | hu
    ·omega
    ·exact ih.ran u hu
   ·exact ih2 u hu (by rw [← e]; simp)
   ·rcases List.mem_cons.1 hu with rfl | hu
    ·exact hs
    ·exact fun hm => ih2 u hu (List.mem_append_left _ hm)
  ·rename_i h3; exact absurd h h3
theorem rulesS_at (n : Int) : ∀ (rs : List PRule) (k : Nat) (hk : k < rs.length), rulesS n rs = 0 → ruleS rs[k].f0 rs[k].f1 n = 0
 | r :: rs, 0, _, h => by
  unfold rulesS at h
  by_cases hc : ruleS r.f0 r.f1 n = 0
  ·exact hc
  ·rw [if_neg hc] at h; exact absurd h hc
 | r :: rs, k + 1, hk, h => by
  unfold rulesS at h
  by_cases hc : ruleS r.f0 r.f1 n = 0
  ·rw [if_pos hc] at h
   exact rulesS_at n rs k (by simpa using hk) h
  ·rw [if_neg hc] at h; exact absurd h hc
theorem ruleS_ok {n : Nat} {g : List POp} {ss : List PSet} (h : ruleS g ss n = 0) : kindS g n true = 0 ∧ SetsOk n ss := by
 unfold ruleS at h
 split at h
 ·cases h
 split at h
 ·rename_i h2
  exact ⟨h2, (setsS_ok n ss [] h).1⟩
 ·rename_i h2; exact absurd h h2
theorem modelS_rules {vs : List PVar} {rs : List PRule} (h : modelS vs rs = 0) : rulesS (vs.length : Int) rs = 0 ∧ rs.length ≤ 12 := by
 unfold modelS at h
 split at h
 ·split at h
  ·cases h
  ·exact ⟨h, by omega⟩
 ·rename_i h2; exact absurd h h2
theorem guard01 {g : List POp} {env : List Int} (h : kindS g (env.length : Int) true = 0) (he : (evalS g env).2 = 0) : (evalS g env).1 = 0 ∨ (evalS g env).1 = 1 := by
 unfold kindS at h
 split at h
 ·rename_i h2
  split at h
  ·cases h
  rename_i h3
  have hk : (exprS g (env.length : Int)).1 = true := by
   revert h3
   cases (exprS g (env.length : Int)).1 <;> simp
  obtain ⟨q1, q2, q3, q4, q5, q6⟩ := exprS_ok h2
  have hw := (worked_ev env (env.length : Int) rfl g q2 q4 q5 q3).2
  have hm : mkH g = true := by
   have e : (exprS g (env.length : Int)).1 = mkH g := by
    have h2' := h2
    unfold exprS at h2' ⊢
    rw [if_pos q1, if_pos (show (endsS g).2 = 0 by rw [q6])] at h2' ⊢
    by_cases hc : chkE (env.length : Int) g = 0
    ·rw [if_pos hc, if_pos q5]
    ·rw [if_neg hc] at h2'; exact absurd h2' hc
   rw [← e]; exact hk
  unfold evalS at he ⊢
  rw [if_pos h2] at he ⊢
  split at he
  ·rename_i h4
   rw [if_pos h4]
   cases hr : runS env g with
   | error c => rw [hr] at he; exact absurd he (run_err_ne env g c hr)
   | ok stk => exact hw hm stk hr
  ·cases he
 ·rename_i h2; exact absurd h h2
theorem applyS_len (vs : List PVar) (env : List Int) : ∀ (ss : List PSet) (out o : List Int), applyS vs env ss out = some o → o.length = out.length
 | [], out, o, h => by simp only [applyS, Option.some.injEq] at h; rw [← h]
 | s :: ss, out, o, h => by
  unfold applyS at h
  split at h
  ·rw [applyS_len vs env ss _ o h, List.length_set]
  ·cases h
theorem oneVar_none (env : List Int) (i : Int) : ∀ (ss : List PSet) (x : Int), (∀ s ∈ ss, s.f0 ≠ i) → oneVar env i ss x = some x
 | [], x, _ => rfl
 | s :: ss, x, h => by
  rw [oneVar, if_neg (h s (by simp))]
  exact oneVar_none env i ss x (fun u hu => h u (by simp [hu]))
theorem oneVar_bad (env : List Int) : ∀ (ss : List PSet) (s : PSet) (x : Int), s ∈ ss → (evalS s.f1 env).2 ≠ 0 → (∀ u ∈ ss, u.f0 = s.f0 → u.f0 = s.f0) → oneVar env s.f0 ss x = none
 | [], s, x, h, _, _ => (nomatch h)
 | u :: ss, s, x, h, he, hd => by
  rw [oneVar]
  rcases List.mem_cons.1 h with rfl | hm
  ·rw [if_pos rfl, if_neg he]
  ·have ih := fun y => oneVar_bad env ss s y hm he (fun _ _ h => h)
   split
   ·split
    ·exact ih _
    ·rfl
   ·exact ih _
theorem allVars_bad (env : List Int) (ss : List PSet) : ∀ (xs : List Int) (i j : Nat), j < xs.length → (∀ x, oneVar env ((i + j : Nat) : Int) ss x = none) → allVars env ss xs i = none
 | x :: xs, i, 0, _, h => by
  have h' := h x
  rw [Nat.add_zero] at h'
  rw [allVars, h']
 | x :: xs, i, j + 1, hj, h => by
  rw [allVars]
  split
  ·rfl
  ·rw [allVars_bad env ss xs (i + 1) j (by simpa using hj) (by rw [show i + 1 + j = i + (j + 1) by omega]; exact h)]
   rfl
theorem allVars_get (env : List Int) (ss : List PSet) : ∀ (xs : List Int) (i : Nat) (out : List Int), out.length = xs.length → (∀ j (h : j < xs.length) (g : j < out.length), oneVar env ((i + j : Nat) : Int) ss xs[j] = some out[j]) → allVars env ss xs i = some out
 | [], i, out, hl, _ => by
  obtain rfl : out = [] := List.eq_nil_of_length_eq_zero hl
  rfl
 | x :: xs, i, [], hl, _ => by simp at hl
 | x :: xs, i, y :: out, hl, h => by
  have h0 := h 0 (by simp) (by simp)
  simp only [Nat.add_zero, List.getElem_cons_zero] at h0
  rw [allVars, h0]
  simp only
  rw [allVars_get env ss xs (i + 1) out (by simpa using hl) (fun j h1 h2 => by
   have := h (j + 1) (by simpa using h1) (by simpa using h2)
   rw [show i + 1 + j = i + (j + 1) by omega]
   simpa using this)]
  rfl
theorem apply_both (vs : List PVar) (env : List Int) : ∀ (ss : List PSet) (out : List Int), SetsOk out.length ss → out.length = vs.length → (∀ s ∈ ss, (evalS s.f1 env).2 = 0) →
  ∃ o, o.length = out.length ∧ (∀ j (h : j < out.length) (g : j < o.length), oneVar env (j : Int) ss out[j] = some o[j]) ∧
   ((applyS vs env ss out = some o ∧ ∀ s ∈ ss, (zAO vs s.f0).f1 ≤ (evalS s.f1 env).1 ∧ (evalS s.f1 env).1 ≤ (zAO vs s.f0).f2) ∨ (applyS vs env ss out = none ∧ ∃ s ∈ ss, ((evalS s.f1 env).1 < (zAO vs s.f0).f1 ∨ (zAO vs s.f0).f2 < (evalS s.f1 env).1) ∧ o.getD s.f0.toNat 0 = (evalS s.f1 env).1))
 | [], out, _, _, _ => ⟨out, rfl, fun j h g => rfl, .inl ⟨rfl, fun s hs => (nomatch hs)⟩⟩
 | s :: ss, out, hok, hl, he => by
  obtain ⟨y, hy⟩ : ∃ y, y = (evalS s.f1 env).1 := ⟨_, rfl⟩
  have hs := hok.ran s (by simp)
  have hd := hok.dis
  rw [List.pairwise_cons] at hd
  have hok' : SetsOk (out.set s.f0.toNat y).length ss := ⟨fun u hu => by rw [List.length_set]; exact hok.ran u (by simp [hu]), hd.2⟩
  obtain ⟨o, o1, o2, o3⟩ := apply_both vs env ss (out.set s.f0.toNat y) hok' (by rw [List.length_set]; exact hl) (fun u hu => he u (by simp [hu]))
  rw [List.length_set] at o1
  have hself : ∀ x, oneVar env s.f0 ss x = some x := fun x => oneVar_none env s.f0 ss x (fun u hu e => hd.1 u hu e.symm)
  refine ⟨o, o1, fun j h g => ?_, ?_⟩
  ·have h2 := o2 j (by rw [List.length_set]; exact h) g
   rw [List.getElem_set] at h2
   rw [oneVar]
   by_cases e : s.f0 = (j : Int)
   ·rw [if_pos e, if_pos (he s (by simp)), ← hy]
    rw [if_pos (by omega)] at h2
    exact h2
   ·rw [if_neg e]
    rw [if_neg (by omega)] at h2
    exact h2
  ·have hoy : o.getD s.f0.toNat 0 = y := by
    have hlt : s.f0.toNat < out.length := by omega
    have h2 := o2 s.f0.toNat (by rw [List.length_set]; exact hlt) (by omega)
    rw [List.getElem_set_self, show ((s.f0.toNat : Nat) : Int) = s.f0 by omega, hself] at h2
    rw [List.getD_eq_getElem?_getD, List.getElem?_eq_getElem (by omega)]
    exact (Option.some.inj h2).symm
   rw [applyS]
   by_cases hb : (zAO vs s.f0).f1 ≤ (evalS s.f1 env).1 ∧ (evalS s.f1 env).1 ≤ (zAO vs s.f0).f2
   ·rw [if_pos ⟨he s (by simp), hb⟩, ← hy]
    rcases o3 with ⟨h1, h2⟩ | ⟨h1, u, hu, h2⟩
    ·refine .inl ⟨h1, fun u hu => ?_⟩
     rcases List.mem_cons.1 hu with rfl | hu
     ·exact hb
     ·exact h2 u hu
    ·exact .inr ⟨h1, u, by simp [hu], h2⟩
   ·rw [if_neg (fun h => hb h.2)]
    exact .inr ⟨rfl, s, by simp, by omega, hoy.trans hy⟩
theorem codeS_in {vs : List PVar} {rs : List PRule} {o : List Int} (h : modelS vs rs = 0) (hl : o.length = vs.length) (hb : inB vs o) : (codeS vs rs o).2 = 0 := by
 obtain ⟨n, hn⟩ := encR_in vs o hl hb
 unfold codeS
 rw [if_pos h, if_pos hl, hn]
 rfl
theorem codeS_out {vs : List PVar} {rs : List PRule} {o : List Int} (h : modelS vs rs = 0) (hl : o.length = vs.length) {i : Nat} (hi : i < vs.length) (g : i < o.length) (hb : o[i] < vs[i].f1 ∨ vs[i].f2 < o[i]) : (codeS vs rs o).2 ≠ 0 := by
 unfold codeS
 rw [if_pos h, if_pos hl, encR_out vs o i hi g hb]
 decide
theorem rule_both {vs : List PVar} {rs : List PRule} (h : modelS vs rs = 0) {r : PRule} {env : List Int} (hr : ruleS r.f0 r.f1 (vs.length : Int) = 0) (hl : env.length = vs.length) (hin : inB vs env) :
  ruleV vs rs r env = (match afterV vs r env with | none => (0, 11) | some out => codeS vs rs out) := by
 obtain ⟨hg, hok⟩ := ruleS_ok hr
 rw [← hl] at hg hok
 unfold ruleV afterV
 by_cases he : (evalS r.f0 env).2 = 0
 ·have h01 := guard01 hg he
  by_cases h1 : (evalS r.f0 env).1 = 1
  ·rw [if_pos ⟨he, h1⟩, if_pos ⟨he, by omega⟩]
   by_cases hall : ∀ s ∈ r.f1, (evalS s.f1 env).2 = 0
   ·obtain ⟨o, o1, o2, o3⟩ := apply_both vs env r.f1 env hok hl hall
    have hav : allVars env r.f1 env 0 = some o := allVars_get env r.f1 env 0 o o1 (fun j h g => by rw [Nat.zero_add]; exact o2 j h g)
    rw [hav]
    rcases o3 with ⟨h2, h3⟩ | ⟨h2, s, hs, h3, h4⟩
    ·rw [h2]
     have hb : inB vs o := by
      intro j hj g
      have hje : j < env.length := by omega
      have h5 := o2 j hje g
      by_cases hex : ∃ s ∈ r.f1, s.f0 = (j : Int)
      ·obtain ⟨s, hs, hsj⟩ := hex
       have h6 := h3 s hs
       have e1 : oneVar env (j : Int) r.f1 env[j] = some (evalS s.f1 env).1 := oneVar_hit env r.f1 s j env[j] hok.dis hs hsj hall
       rw [e1] at h5
       rw [hsj, rdV_get vs j hj] at h6
       rw [← Option.some.inj h5]
       exact h6
      ·rw [oneVar_none env j r.f1 env[j] (fun s hs e => hex ⟨s, hs, e⟩)] at h5
       rw [← Option.some.inj h5]
       exact hin j hj hje
     have hc := codeS_in h (o1.trans hl) hb
     simp only [hc, ↓reduceIte]
     exact Prod.ext rfl hc.symm
    ·rw [h2]
     have hsr := hok.ran s hs
     obtain ⟨j, hj⟩ : ∃ j : Nat, s.f0 = (j : Int) := ⟨s.f0.toNat, by omega⟩
     have hjv : j < vs.length := by omega
     rw [hj, rdV_get vs j hjv] at h3
     rw [hj, Int.toNat_natCast, List.getD_eq_getElem?_getD, List.getElem?_eq_getElem (by omega)] at h4
     have hc := codeS_out h (o1.trans hl) hjv (by omega) (by rw [show o[j] = (evalS s.f1 env).1 from h4]; exact h3)
     simp only [hc, ↓reduceIte]
   ·obtain ⟨s, hs, hse⟩ : ∃ s ∈ r.f1, (evalS s.f1 env).2 ≠ 0 := by
     refine Classical.byContradiction fun hn => hall fun s hs => Classical.byContradiction fun hc => hn ⟨s, hs, hc⟩
    have hsr := hok.ran s hs
    have hav : allVars env r.f1 env 0 = none := allVars_bad env r.f1 env 0 s.f0.toNat (by omega) (fun x => by
     rw [Nat.zero_add, show ((s.f0.toNat : Nat) : Int) = s.f0 by omega]
     exact oneVar_bad env r.f1 s x hs hse (fun _ _ h => h))
    rw [hav, applyS_bad vs env r.f1 env s hs hse]
  ·rw [if_neg (fun hc => h1 hc.2), if_neg (fun hc => hc.2 (by omega))]
 ·rw [if_neg (fun hc => he hc.1), if_neg (fun hc => he hc.1)]
where
 oneVar_hit (env : List Int) : ∀ (ss : List PSet) (s : PSet) (j : Nat) (x : Int), (ss.Pairwise fun a b => a.f0 ≠ b.f0) → s ∈ ss → s.f0 = (j : Int) → (∀ s ∈ ss, (evalS s.f1 env).2 = 0) → oneVar env (j : Int) ss x = some (evalS s.f1 env).1
  | [], s, j, x, _, h, _, _ => (nomatch h)
  | u :: ss, s, j, x, hd, h, hs, he => by
   rw [List.pairwise_cons] at hd
   rw [oneVar]
   rcases List.mem_cons.1 h with rfl | hm
   ·rw [if_pos hs, if_pos (he s (by simp))]
    exact oneVar_none env j ss _ (fun v hv e => hd.1 v hv (hs.trans e.symm))
   ·rw [if_neg (fun e => hd.1 s hm (e.trans hs.symm))]
    exact oneVar_hit env ss s j x hd.2 hm hs (fun v hv => he v (by simp [hv]))
 applyS_bad (vs : List PVar) (env : List Int) : ∀ (ss : List PSet) (out : List Int) (s : PSet), s ∈ ss → (evalS s.f1 env).2 ≠ 0 → applyS vs env ss out = none
  | [], out, s, h, _ => (nomatch h)
  | u :: ss, out, s, h, he => by
   rw [applyS]
   rcases List.mem_cons.1 h with rfl | hm
   ·rw [if_neg (fun hc => he hc.1)]
   ·split
    ·exact applyS_bad vs env ss _ s hm he
    ·rfl
theorem ruleAt_eq (vs : List PVar) (rs : List PRule) (c k : Int) : ruleAt vs rs c k = afterS vs rs c k := by
 unfold ruleAt afterS
 by_cases h : (valuesS vs rs c).2 = 0
 ·rw [if_pos h, if_pos h]
  by_cases hk : 0 ≤ k ∧ k < (rs.length : Int)
  ·rw [if_pos hk, if_pos hk]
   unfold valuesS at h ⊢
   by_cases hm : modelS vs rs = 0
   ·rw [if_pos hm] at h ⊢
    by_cases hc : c < 0 ∨ prodV vs ≤ c
    ·rw [if_pos hc] at h; cases h
    ·rw [if_neg hc]
     obtain ⟨ho, hp⟩ := vars_ok (modelS_vars hm)
     obtain ⟨j, rfl⟩ := Int.eq_ofNat_of_zero_le hk.1
     have hj : j < rs.length := by omega
     have hr := rulesS_at (vs.length : Int) rs j hj (modelS_rules hm).1
     rw [rdR_get rs j hj]
     exact rule_both hm hr (valS_len vs c) (valS_in vs c ho (by omega) (by omega))
   ·rw [if_neg hm] at h; exact absurd h hm
  ·rw [if_neg hk, if_neg hk]
 ·rw [if_neg h, if_neg h]
end Go.Proofs.YtgdijfhdpgdanaaGreatDoor.Pure
