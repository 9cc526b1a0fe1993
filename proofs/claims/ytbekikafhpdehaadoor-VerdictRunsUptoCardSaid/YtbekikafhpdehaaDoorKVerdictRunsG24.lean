import Derived.Test.YtbekikafhpdehaaDoorKVerdictRunsG23
import Derived.Test.YtbekikafhpdehaaDoorKVerdictRunsG8
namespace Go.Proofs.YtbekikafhpdehaaDoor.Pure
open Go.RowKit Go.Proofs.YtbekikafhpdehaaDoor Go.Proofs.YtbekikafhpdehaaDoor.V Go.Proofs.YtbekikafhpdehaaDoor.Base Go.Proofs.YtbekikafhpdehaaDoorW.PrintWords Go.Proofs.YtbekikafhpdehaaDoorW.PrintLast Go.Proofs.YtbekikafhpdehaaDoorW.PrintMore
set_option linter.unusedVariables false
def doVal (kd a b : Int) : Int := if kd = 3 then a + b else if kd = 4 then a - b else if kd = 5 then a * b else if kd = 6 then (if a = b then 1 else 0) else if kd = 7 then (if a < b then 1 else 0) else if kd = 8 then Go.bits .and .i64 a b else Go.bits .or .i64 a b
def pushS (n : Int) (s : List Int) : Except Int (List Int) := if n < -1000000 ∨ 1000000 < n then .error 8 else .ok (s ++ [n])
def stepS (env : List Int) (o : POp) (stk : List Int) : Except Int (List Int) :=
 if o.f0 = 1 then pushS o.f1 stk else if o.f0 = 2 then pushS (rd env o.f1) stk else if o.f0 = 11 then pushS 1 stk else if o.f0 = 12 then pushS 0 stk
 else if o.f0 = 10 then pushS (1 - stk.getLastD 0) stk.dropLast
 else pushS (doVal o.f0 (stk.getLastD 0) (stk.dropLast.getLastD 0)) stk.dropLast.dropLast
def runS (env : List Int) : List POp → Except Int (List Int)
 | [] => .ok []
 | o :: l => match runS env l with
  | .error c => .error c
  | .ok stk => stepS env o stk
def inR (x : Int) : Bool := decide (-1000000 ≤ x ∧ x ≤ 1000000)
def evalS (l : List POp) (env : List Int) : Int × Int :=
 if (exprS l env.length).2 = 0 then (if env.all inR then (match runS env l with | .error c => (0, c) | .ok stk => (stk.getLastD 0, 0)) else (0, 2)) else (0, (exprS l env.length).2)
theorem pushS_ok {n : Int} {s t : List Int} (h : pushS n s = .ok t) : t = s ++ [n] ∧ -1000000 ≤ n ∧ n ≤ 1000000 := by
 unfold pushS at h
 split at h
 ·cases h
 ·cases h; exact ⟨rfl, by omega, by omega⟩
theorem pushS_err {n : Int} {s : List Int} {c : Int} (h : pushS n s = .error c) : c = 8 := by
 unfold pushS at h
 split at h
 ·cases h; rfl
 ·cases h
theorem stepS_cases (env : List Int) (o : POp) (stk : List Int) : ∃ n s, stepS env o stk = pushS n s ∧ s.length + (if o.f0 = 1 ∨ o.f0 = 2 ∨ o.f0 = 11 ∨ o.f0 = 12 then 0 else if o.f0 = 10 then min 1 stk.length else min 2 stk.length) = stk.length ∧ ∀ x ∈ s, x ∈ stk := by
 unfold stepS
 by_cases k1 : o.f0 = 1
 ·rw [if_pos k1]; exact ⟨_, _, rfl, by rw [if_pos (.inl k1)]; omega, fun x h => h⟩
 rw [if_neg k1]
 by_cases k2 : o.f0 = 2
 ·rw [if_pos k2]; exact ⟨_, _, rfl, by rw [if_pos (.inr (.inl k2))]; omega, fun x h => h⟩
 rw [if_neg k2]
 by_cases k3 : o.f0 = 11
 ·rw [if_pos k3]; exact ⟨_, _, rfl, by rw [if_pos (.inr (.inr (.inl k3)))]; omega, fun x h => h⟩
 rw [if_neg k3]
 by_cases k4 : o.f0 = 12
 ·rw [if_pos k4]; exact ⟨_, _, rfl, by rw [if_pos (.inr (.inr (.inr k4)))]; omega, fun x h => h⟩
 rw [if_neg k4]
 have hn : ¬ (o.f0 = 1 ∨ o.f0 = 2 ∨ o.f0 = 11 ∨ o.f0 = 12) := by omega
 rw [if_neg hn]
 by_cases k5 : o.f0 = 10
 ·rw [if_pos k5, if_pos k5]
  exact ⟨_, _, rfl, by rw [List.length_dropLast]; omega, fun x h => (List.dropLast_sublist _).subset h⟩
 ·rw [if_neg k5, if_neg k5]
  exact ⟨_, _, rfl, by rw [List.length_dropLast, List.length_dropLast]; omega, fun x h => (List.dropLast_sublist _).subset ((List.dropLast_sublist _).subset h)⟩
theorem parts_of_kind {o : POp} {n : Int} (h1 : (partsS o.f0).2 = 0) (h2 : fitE n o = 0) : 1 ≤ o.f0 ∧ o.f0 ≤ 12 ∧ (partsS o.f0).1.toNat = (if o.f0 = 1 ∨ o.f0 = 2 ∨ o.f0 = 11 ∨ o.f0 = 12 then 0 else if o.f0 = 10 then 1 else 2) := by
 have a : ¬ (o.f0 < 1 ∨ 18 < o.f0) := by
  intro hc
  unfold partsS at h1
  rw [if_pos hc] at h1
  cases h1
 have b : ¬ 12 < o.f0 := by
  intro hc
  unfold fitE at h2
  rw [if_pos hc] at h2
  cases h2
 refine ⟨by omega, by omega, ?_⟩
 have : o.f0 = 1 ∨ o.f0 = 2 ∨ o.f0 = 3 ∨ o.f0 = 4 ∨ o.f0 = 5 ∨ o.f0 = 6 ∨ o.f0 = 7 ∨ o.f0 = 8 ∨ o.f0 = 9 ∨ o.f0 = 10 ∨ o.f0 = 11 ∨ o.f0 = 12 := by omega
 rcases this with e | e | e | e | e | e | e | e | e | e | e | e <;> (rw [e]; decide)
theorem run_len (env : List Int) {n : Int} : ∀ (l : List POp) (m : Nat) (stk : List Int), (∀ o ∈ l, fitE n o = 0) → scan l m = .ok [] → runS env l = .ok stk → stk.length = m ∧ ∀ x ∈ stk, -1000000 ≤ x ∧ x ≤ 1000000
 | [], 0, stk, hf, hs, h => by cases h; exact ⟨rfl, by simp⟩
 | [], m + 1, stk, hf, hs, h => by cases hs
 | o :: l, 0, stk, hf, hs, h => by rw [scan_zero] at hs; cases hs
 | o :: l, m + 1, stk, hf, hs, h => by
  rw [scan_cons] at hs
  split at hs
  ·rename_i hp
   unfold runS at h
   split at h
   ·cases h
   ·rename_i s' hr
    obtain ⟨h1, h2⟩ := run_len env l _ s' (fun x hx => hf x (List.mem_cons_of_mem _ hx)) hs hr
    obtain ⟨n', s, e, hl, hm⟩ := stepS_cases env o s'
    rw [e] at h
    obtain ⟨rfl, hb⟩ := pushS_ok h
    obtain ⟨k1, k2, k3⟩ := parts_of_kind hp (hf o (by simp))
    rw [k3] at h1
    refine ⟨?_, fun x hx => ?_⟩
    ·rw [List.length_append, List.length_singleton]
     split at h1
     ·rename_i hc; rw [if_pos hc] at hl; omega
     ·rename_i hc
      rw [if_neg hc] at hl
      split at h1
      ·rename_i hc2; rw [if_pos hc2] at hl; omega
      ·rename_i hc2; rw [if_neg hc2] at hl; omega
    ·rcases List.mem_append.1 hx with hx | hx
     ·exact h2 x (hm x hx)
     ·rw [List.mem_singleton.1 hx]; exact hb
  ·cases hs
theorem scan_from : ∀ (l : List POp) (w i : Nat), scan l w = .ok [] → i ≤ l.length → ∃ m, scan (l.drop i) m = .ok []
 | l, w, 0, h, hi => ⟨w, h⟩
 | [], w, i + 1, h, hi => by simp at hi
 | o :: l, 0, i + 1, h, hi => by rw [scan_zero] at h; cases h
 | o :: l, w + 1, i + 1, h, hi => by
  rw [scan_cons] at h
  split at h
  ·exact scan_from l _ i h (by simpa using hi)
  ·cases h
theorem chkE_all {n : Int} : ∀ {l : List POp}, chkE n l = 0 → ∀ o ∈ l, fitE n o = 0
 | [], _, o, ho => by cases ho
 | x :: l, h, o, ho => by
  unfold chkE at h
  by_cases hx : fitE n x = 0
  ·rw [if_pos hx] at h
   rcases List.mem_cons.1 ho with rfl | ho
   ·exact hx
   ·exact chkE_all h o ho
  ·rw [if_neg hx] at h; exact absurd h hx
theorem exprS_ok {l : List POp} {n : Int} (h : (exprS l n).2 = 0) : (0 ≤ n ∧ n ≤ 6) ∧ one l ∧ l.length ≤ 60 ∧ (∀ o ∈ l, fitE n o = 0) ∧ typB l = true ∧ endsS l = ((List.range l.length).map (endAt l), 0) := by
 unfold exprS at h
 by_cases h0 : 0 ≤ n ∧ n ≤ 6
 ·rw [if_pos h0] at h
  by_cases h1 : (endsS l).2 = 0
  ·rw [if_pos h1] at h
   by_cases h2 : chkE n l = 0
   ·rw [if_pos h2] at h
    by_cases h3 : typB l = true
    ·obtain ⟨a, b, c⟩ := endsS_ok h1
     exact ⟨h0, a, b, chkE_all h2, h3, c⟩
    ·rw [if_neg h3] at h; cases h
   ·rw [if_neg h2] at h; exact absurd h h2
  ·rw [if_neg h1] at h; exact absurd h h1
 ·rw [if_neg h0] at h; cases h
theorem expr_at {l : List POp} {n : Int} (h1 : one l) (hf : ∀ o ∈ l, fitE n o = 0) (env : List Int) (i : Nat) (hi : i < l.length) (stk : List Int) (hr : runS env (l.drop (i + 1)) = .ok stk) :
  1 ≤ l[i].f0 ∧ l[i].f0 ≤ 12 ∧ (l[i].f0 = 10 → 1 ≤ stk.length) ∧ (3 ≤ l[i].f0 → l[i].f0 ≤ 9 → 2 ≤ stk.length) ∧ (l[i].f0 = 2 → 0 ≤ l[i].f1 ∧ l[i].f1 < n) ∧ (∀ x ∈ stk, -1000000 ≤ x ∧ x ≤ 1000000) ∧ stk.length + i + 1 ≤ l.length := by
 obtain ⟨m, hm⟩ := scan_from l 1 i h1 (by omega)
 rw [List.drop_eq_getElem_cons hi] at hm
 cases m with
 | zero => rw [scan_zero] at hm; cases hm
 | succ m =>
  rw [scan_cons] at hm
  split at hm
  ·rename_i hp
   have hfo := hf l[i] (List.getElem_mem hi)
   obtain ⟨k1, k2, k3⟩ := parts_of_kind hp hfo
   obtain ⟨a, b⟩ := run_len env _ _ stk (fun o ho => hf o (List.mem_of_mem_drop ho)) hm hr
   rw [k3] at a
   obtain ⟨j, j1, j2, j3⟩ := scan_suffix _ _ _ hm
   rw [k3] at j3
   have j1' : j ≤ l.length - (i + 1) := by rw [List.length_drop] at j1; exact j1
   refine ⟨k1, k2, fun e => ?_, fun e e2 => ?_, fun e => ?_, b, by omega⟩
   ·rw [if_neg (by omega), if_pos e] at a; omega
   ·rw [if_neg (by omega), if_neg (by omega)] at a; omega
   ·unfold fitE at hfo
    rw [if_neg (by omega), if_neg (by omega), if_pos e] at hfo
    split at hfo
    ·omega
    ·cases hfo
  ·cases hm
end Go.Proofs.YtbekikafhpdehaaDoor.Pure
namespace Go.Proofs.YtbekikafhpdehaaDoor.Base
open Go.RowKit Go.Proofs.YtbekikafhpdehaaDoorW.PrintWords Go.Proofs.YtbekikafhpdehaaDoorW.PrintLast Go.Proofs.YtbekikafhpdehaaDoorW.PrintMore
theorem ev_succ {α : Type} {g : Nat → Option α} {r : α} (h : Ev (fun k => g (k + 1)) r) : Ev g r := Ev.step (f := fun k => g (k + 1)) (fun _ => rfl) h
end Go.Proofs.YtbekikafhpdehaaDoor.Base
