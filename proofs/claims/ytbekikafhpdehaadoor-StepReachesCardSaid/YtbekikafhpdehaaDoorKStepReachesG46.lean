import Derived.Test.YtbekikafhpdehaaDoorKStepReachesG33
import Derived.Test.YtbekikafhpdehaaDoorKStepReachesG41
import Derived.Test.YtbekikafhpdehaaDoorKStepReachesG45
import Derived.Test.YtbekikafhpdehaaDoorKStepReachesG32
import Derived.Test.YtbekikafhpdehaaDoorKStepReachesG11
import Derived.Test.YtbekikafhpdehaaDoorKStepReachesG7
import Derived.Test.YtbekikafhpdehaaDoorKStepReachesG42
import Derived.Test.YtbekikafhpdehaaDoorKStepReachesG43
-- Cut by a program of this session (wip/prune.py) from a longer text: declarations that the law does not need are left out.
namespace Go.Proofs.YtbekikafhpdehaaDoor.Pure
open Go.RowKit Go.Proofs.YtbekikafhpdehaaDoor Go.Proofs.YtbekikafhpdehaaDoor.T Go.Proofs.YtbekikafhpdehaaDoor.Base Go.Proofs.YtbekikafhpdehaaDoorW.PrintWords Go.Proofs.YtbekikafhpdehaaDoorW.PrintLast Go.Proofs.YtbekikafhpdehaaDoorW.PrintMore
set_option linter.unusedVariables false
set_option linter.unusedSimpArgs false
theorem codeS_ok {vs : List PVar} {rs : List PRule} {o : List Int} (h : (codeS vs rs o).2 = 0) : modelS vs rs = 0 ∧ 0 ≤ (codeS vs rs o).1 ∧ (codeS vs rs o).1 < prodV vs := by
 unfold codeS at h ⊢
 by_cases hm : modelS vs rs = 0
 ·rw [if_pos hm] at h ⊢
  by_cases hl : o.length = vs.length
  ·rw [if_pos hl] at h ⊢
   obtain ⟨ho, hp⟩ := vars_ok (modelS_vars hm)
   cases he : encR vs o with
   | none => rw [he] at h; cases h
   | some n =>
    have := encR_bd vs o ho hl n he
    refine ⟨hm, ?_, ?_⟩ <;> simp only [encP] <;> omega
  ·rw [if_neg hl] at h; cases h
 ·rw [if_neg hm] at h; exact absurd h hm
def reachS (vs : List PVar) (rs : List PRule) : List Int × Int := if (firstS vs rs).2 = 0 then (upTo (prodV vs).toNat (walkR (behindL vs rs) (prodV vs).toNat 0 [(firstS vs rs).1]), 0) else ([], (firstS vs rs).2)
theorem nextS_right {vs : List PVar} {rs : List PRule} (hm : modelS vs rs = 0) {c : Int} (h0 : 0 ≤ c) (h1 : c < prodV vs) : nextS vs rs c = (behindL vs rs c, 0) := by
 have : (valuesS vs rs c).2 = 0 := by unfold valuesS; rw [if_pos hm, if_neg (by omega)]
 unfold nextS
 rw [if_pos this]
theorem behindL_len {vs : List PVar} {rs : List PRule} (hm : modelS vs rs = 0) (c : Int) : (behindL vs rs c).length ≤ 4096 := by
 obtain ⟨ho, hp⟩ := vars_ok (modelS_vars hm)
 unfold behindL
 split
 ·simp
 ·have := upTo_len (prodV vs).toNat (codesS vs rs (valS vs c) rs)
  omega
theorem reach_l0 (vs : List PVar) (rs : List PRule) (hm : modelS vs rs = 0) (f : Int) (n : Nat) : ∀ (i : Nat) (l : List Int), (prodV vs).toNat ≤ n + i → WalkOK (behindL vs rs) f (prodV vs).toNat i l →
  Ev (fun k => step_Reach.l0 k vs rs (i : Int) l) (walkR (behindL vs rs) n i l) := by
 obtain ⟨ho, hp⟩ := vars_ok (modelS_vars hm)
 have hp1 := prodV_pos ho
 have hin : ∀ a, 0 ≤ a → a < ((prodV vs).toNat : Int) → ∀ b ∈ behindL vs rs a, 0 ≤ b ∧ b < ((prodV vs).toNat : Int) := fun a h0 h1 b hb => by
  have := behindL_in hm h0 (by omega) b hb
  omega
 induction n with
 | zero =>
  intro i l hi h
  have hl := nodup_range_len _ l h.nd (fun x hx => (h.snd x hx).2)
  have c1 : ¬ (i : Int) < (l.length : Int) := by omega
  refine ev_succ ?_
  simp only [step_Reach.l0, ↓reduceIte, c1, walkR]
  exact Ev.now _
 | succ n ih =>
  intro i l hi h
  have hl := nodup_range_len _ l h.nd (fun x hx => (h.snd x hx).2)
  rw [walkR]
  by_cases hil : i < l.length
  ·have c1 : (i : Int) < (l.length : Int) := by omega
   have c2 : (0 : Int) ≤ (i : Int) := Int.natCast_nonneg _
   have hg : rd l (i : Int) = l.getD i 0 := rfl
   have w1 : wrap64 ((i : Int) + 1) = ((i + 1 : Nat) : Int) := by rw [wrap_id (by omega) (by omega)]; rfl
   have hs := h.step hin hil
   have hl2 := nodup_range_len _ _ hs.nd (fun x hx => (hs.snd x hx).2)
   have hmem : l.getD i 0 ∈ l := by rw [List.getD_eq_getElem?_getD, List.getElem?_eq_getElem hil]; exact List.getElem_mem hil
   obtain ⟨_, a0, a1⟩ := h.snd _ hmem
   have c3 : rchOk (behindL vs rs (l.getD i 0)) = true := by
    have h1 := behindL_len hm (l.getD i 0)
    unfold rchOk
    rw [Bool.and_eq_true_iff]
    refine ⟨decide_eq_true (by omega), List.all_eq_true.2 fun x hx => decide_eq_true ?_⟩
    have := hin _ a0 a1 x hx
    omega
   have c4 : (addNew l (behindL vs rs (l.getD i 0))).length ≤ 1000000 := by omega
   rw [if_pos hil]
   refine ev_succ ?_
   simp only [step_Reach.l0, ↓reduceIte, c1, c2, hg, w1]
   refine ev_bind (stepNext_ev vs rs (l.getD i 0)) ?_
   rw [nextS_right hm a0 (by omega)]
   simp only [c3, c4, ↓reduceIte]
   exact ih (i + 1) _ (by omega) hs
  ·have c1 : ¬ (i : Int) < (l.length : Int) := by omega
   rw [if_neg hil]
   refine ev_succ ?_
   simp only [step_Reach.l0, ↓reduceIte, c1]
   exact Ev.now _
theorem stepReach_ev (vs : List PVar) (rs : List PRule) (hv : vs.length ≤ 3518437208883) : Ev (fun k => step_Reach.f k vs rs) (reachS vs rs) := by
 unfold step_Reach.f reachS
 refine ev_bind (first_ev vs rs hv) ?_
 by_cases h : (firstS vs rs).2 = 0
 ·obtain ⟨hm, h0, h1⟩ := codeS_ok h
  have h0' : 0 ≤ (firstS vs rs).1 := h0
  have h1' : (firstS vs rs).1 < prodV vs := h1
  obtain ⟨ho, hp⟩ := vars_ok (modelS_vars hm)
  have c1 : 0 ≤ (firstS vs rs).1 ∧ (firstS vs rs).1 < 1000000 := by omega
  have hin : ∀ a, 0 ≤ a → a < ((prodV vs).toNat : Int) → ∀ b ∈ behindL vs rs a, 0 ≤ b ∧ b < ((prodV vs).toNat : Int) := fun a h0 h1 b hb => by
   have := behindL_in hm h0 (by omega) b hb
   omega
  obtain ⟨w1, w2, w3⟩ := walkR_mem (f := (firstS vs rs).1) (n := (prodV vs).toNat) hin h0' (by omega)
  have hlen := nodup_range_len _ _ w1 w2
  simp only [h, c1, ↓reduceIte, and_self]
  refine ev_bind (reach_l0 vs rs hm (firstS vs rs).1 (prodV vs).toNat 0 [(firstS vs rs).1] (by omega) ⟨by simp, fun x hx => by rw [List.mem_singleton.1 hx]; exact ⟨.start, h0', by omega⟩, by simp, fun j hj => absurd hj (by omega)⟩) ?_
  refine ev_call (a := upTo (prodV vs).toNat (walkR (behindL vs rs) (prodV vs).toNat 0 [(firstS vs rs).1])) ?_ (Ev.now _)
  unfold slices_Sort_int_int.f
  rw [if_pos (by omega), sort_nodup _ _ w1 w2]
 ·simp only [h, ↓reduceIte]
  exact Ev.now _
theorem rd_set2 {st : List Int} {i v : Int} (h0 : 0 ≤ i) (h1 : i < (st.length : Int)) {x : Int} (hx : 0 ≤ x) : rd (st.set i.toNat v) x = if x = i then v else rd st x := by
 unfold rd
 rw [List.getD_eq_getElem?_getD, List.getD_eq_getElem?_getD, List.getElem?_set]
 by_cases c : x = i
 ·have hlt : x.toNat < st.length := by omega
  subst c
  simp only [↓reduceIte, hlt, Option.getD_some]
 ·have c' : ¬ i.toNat = x.toNat := by omega
  simp only [c, c', ↓reduceIte]
section
variable (vs : List PVar) (rs : List PRule) (hm : modelS vs rs = 0) (f : Int) (n : Nat) (hn : n = (prodV vs).toNat) (hn4 : n ≤ 4096) (hin : ∀ a, 0 ≤ a → a < (n : Int) → ∀ b ∈ behindL vs rs a, 0 ≤ b ∧ b < (n : Int)) (hf0 : 0 ≤ f) (hf1 : f < (n : Int))
structure RndOK (cur : Int → Prop) (st : List Int) : Prop where
 len : st.length = n
 val : ∀ x : Int, 0 ≤ x → x < (n : Int) → 0 ≤ rd st x ∧ rd st x ≤ 2
 snd : ∀ x : Int, 0 ≤ x → x < (n : Int) → 0 < rd st x → ReachM (behindL vs rs) f x
 cl : ∀ a : Int, 0 ≤ a → a < (n : Int) → rd st a = 2 → cur a ∨ ∀ b ∈ behindL vs rs a, 0 < rd st b
 ini : 0 < rd st f
def leftS (st : List Int) : Nat := st.length - st.count 2
theorem tell_run (st : List Int) (hs : st.length = n) (hn4 : n ≤ 4096) (d : Nat) : ∀ (j : Nat) (acc : List Int), j + d = n → acc.length ≤ j → Ev (fun k => foretellref_ReachOf.l3 k (n : Int) st acc (j : Int)) (acc ++ ((List.range' j d).map fun (i : Nat) => (i : Int)).filter (fun x => decide (rd st x > 0)), 0) := by
 induction d with
 | zero =>
  intro j acc hj ha
  have c1 : ¬ (j : Int) < (n : Int) := by omega
  refine ev_succ ?_
  simp only [foretellref_ReachOf.l3, ↓reduceIte, c1, List.range'_zero, List.map_nil, List.filter_nil, List.append_nil]
  exact Ev.now _
 | succ d ih =>
  intro j acc hj ha
  have c1 : (j : Int) < (n : Int) := by omega
  have c2 : (0 : Int) ≤ (j : Int) := by omega
  have c3 : acc.length < 17592186044416 := by omega
  have c4 : (j : Int) < (st.length : Int) := by omega
  have w1 : wrap64 ((j : Int) + 1) = ((j + 1 : Nat) : Int) := by rw [wrap_id (by omega) (by omega)]; rfl
  rw [List.range'_succ, List.map_cons, List.filter_cons]
  refine ev_succ ?_
  by_cases hb : rd st (j : Int) > 0
  ·simp only [foretellref_ReachOf.l3, ↓reduceIte, c1, c2, c3, c4, w1, hb, decide_true]
   refine ev_eq (ih (j + 1) (acc ++ [(j : Int)]) (by omega) (by rw [List.length_append, List.length_singleton]; omega)) ?_
   rw [List.append_assoc, List.singleton_append]
  ·simp only [foretellref_ReachOf.l3, ↓reduceIte, c1, c2, c3, c4, w1, hb, decide_false]
   exact ih (j + 1) acc (by omega) (by omega)
theorem tell_all (st : List Int) (hs : st.length = n) (hn4 : n ≤ 4096) (W : List Int) (hW : ∀ x : Int, 0 ≤ x → x < (n : Int) → (x ∈ W ↔ 0 < rd st x)) : Ev (fun k => foretellref_ReachOf.l3 k (n : Int) st [] 0) (upTo n W, 0) := by
 refine ev_eq (tell_run n st hs hn4 n 0 [] (by omega) (by simp)) ?_
 rw [List.nil_append, upTo, List.range_eq_range']
 congr 1
 refine List.filter_congr fun x hx => ?_
 obtain ⟨i, hi, rfl⟩ := List.mem_map.1 hx
 have hi' := (List.mem_range'_1.1 hi).2
 have h := hW (i : Int) (by omega) (by omega)
 by_cases c : 0 < rd st (i : Int)
 ·rw [(any_mem W _).2 (h.2 c)]; exact decide_eq_true c
 ·have : ¬ W.any (· == (i : Int)) = true := fun e => c (h.1 ((any_mem W _).1 e))
  rw [Bool.eq_false_iff.2 this]; exact decide_eq_false c
variable (W : List Int) (hW : ∀ x : Int, x ∈ W ↔ ReachM (behindL vs rs) f x)
include hin in
theorem row_rnd (cur : Int) (hc0 : 0 ≤ cur) (hc1 : cur < (n : Int)) (hcur : ReachM (behindL vs rs) f cur) (hf0 : 0 ≤ f) (hl : (behindL vs rs cur).length ≤ 4096) (c : Nat) (R : List Int × Int)
  (ih : ∀ st, RndOK vs rs f n (fun _ => False) st → st.count 2 = c → Ev (fun k => foretellref_ReachOf.l1 k (n : Int) st true (wrap64 (cur + 1)) vs rs) R) (d : Nat) :
  ∀ (j : Nat) (st : List Int), j + d = (behindL vs rs cur).length → RndOK vs rs f n (fun a => a = cur) st → st.count 2 = c → (∀ b ∈ (behindL vs rs cur).take j, 0 < rd st b) →
   Ev (fun k => foretellref_ReachOf.l2 k (n : Int) st true cur (behindL vs rs cur) (j : Int) vs rs) R := by
 induction d with
 | zero =>
  intro j st hj hS hc hb
  have c1 : ¬ (j : Int) < ((behindL vs rs cur).length : Int) := by omega
  rw [List.take_of_length_le (by omega)] at hb
  refine ev_succ ?_
  simp only [foretellref_ReachOf.l2, ↓reduceIte, c1]
  exact ih st ⟨hS.len, hS.val, hS.snd, fun a ha ha' hh => by
   rcases hS.cl a ha ha' hh with c | c
   ·subst c; exact .inr hb
   ·exact .inr c, hS.ini⟩ hc
 | succ d ihd =>
  intro j st hj hS hc hb
  have hlt : j < (behindL vs rs cur).length := by omega
  have hmem := List.getElem_mem hlt
  have hrd : rd (behindL vs rs cur) (j : Int) = (behindL vs rs cur)[j] := rd_get _ _ hlt
  obtain ⟨b0, b1⟩ := hin cur hc0 hc1 _ hmem
  have b1' : (behindL vs rs cur)[j] < (st.length : Int) := by rw [hS.len]; exact b1
  have hr : ReachM (behindL vs rs) f ((behindL vs rs cur)[j]) := .step cur _ hcur hmem
  have c1 : (j : Int) < ((behindL vs rs cur).length : Int) := by omega
  have c2 : (0 : Int) ≤ (j : Int) := by omega
  have w1 : wrap64 ((j : Int) + 1) = ((j + 1 : Nat) : Int) := by rw [wrap_id (by omega) (by omega)]; rfl
  by_cases z : rd st ((behindL vs rs cur)[j]) = 0
  ·have hlt2 : ((behindL vs rs cur)[j]).toNat < st.length := by omega
   have hz : st[((behindL vs rs cur)[j]).toNat] = 0 := by
    unfold rd at z
    rw [List.getD_eq_getElem?_getD, List.getElem?_eq_getElem hlt2] at z
    exact z
   have mono : ∀ x : Int, 0 ≤ x → 0 < rd st x → 0 < rd (st.set ((behindL vs rs cur)[j]).toNat 1) x := fun x hx h => by
    rw [rd_set2 b0 b1' hx]; split <;> omega
   have he := ihd (j + 1) (st.set ((behindL vs rs cur)[j]).toNat 1) (by omega) ⟨by rw [List.length_set]; exact hS.len, fun x hx hx' => by
     have := hS.val x hx hx'
     rw [rd_set2 b0 b1' hx]; split <;> omega, fun x hx hx' h => by
     rw [rd_set2 b0 b1' hx] at h
     split at h
     ·rename_i e; rw [e]; exact hr
     ·exact hS.snd x hx hx' h, fun a ha ha' hh => by
     rw [rd_set2 b0 b1' ha] at hh
     split at hh
     ·omega
     ·rcases hS.cl a ha ha' hh with c | c
      ·exact .inl c
      ·exact .inr fun b hb => mono b (hin a ha ha' b hb).1 (c b hb), mono f hf0 hS.ini⟩ (by rw [List.count_set hlt2, hz]; simpa using hc) (fun b hb' => by
     rw [List.take_succ_eq_append_getElem hlt] at hb'
     rcases List.mem_append.1 hb' with hb' | hb'
     ·exact mono b (hin cur hc0 hc1 b (List.mem_of_mem_take hb')).1 (hb b hb')
     ·rw [List.mem_singleton.1 hb', rd_set2 b0 b1' b0, if_pos rfl]; decide)
   refine ev_succ ?_
   simp only [foretellref_ReachOf.l2, ↓reduceIte, c1, c2, hrd, b0, b1', z, w1]
   exact he
  ·have hp : 0 < rd st ((behindL vs rs cur)[j]) := by have := hS.val _ b0 b1; omega
   have he := ihd (j + 1) st (by omega) hS hc (fun b hb' => by
     rw [List.take_succ_eq_append_getElem hlt] at hb'
     rcases List.mem_append.1 hb' with hb' | hb'
     ·exact hb b hb'
     ·rw [List.mem_singleton.1 hb']; exact hp)
   refine ev_succ ?_
   simp only [foretellref_ReachOf.l2, ↓reduceIte, c1, c2, hrd, b0, b1', z, w1]
   exact he
include hm hn hn4 hin hf0 hf1 hW
theorem pass_rnd (M : Nat) (ih : ∀ st, RndOK vs rs f n (fun _ => False) st → leftS st < M → Ev (fun k => foretellref_ReachOf.l0 k (n : Int) st true vs rs) (upTo n W, 0)) (d : Nat) :
  ∀ (j : Nat) (st : List Int) (b : Bool), j + d = n → RndOK vs rs f n (fun _ => False) st → (b = true ∧ leftS st < M) ∨ (b = false ∧ leftS st ≤ M ∧ ∀ x : Int, 0 ≤ x → x < (j : Int) → rd st x ≠ 1) →
   Ev (fun k => foretellref_ReachOf.l1 k (n : Int) st b (j : Int) vs rs) (upTo n W, 0) := by
 induction d with
 | zero =>
  intro j st b hj hS hb
  have c1 : ¬ (j : Int) < (n : Int) := by omega
  rcases hb with ⟨rfl, hM⟩ | ⟨rfl, hM, h1⟩
  ·refine ev_succ ?_
   simp only [foretellref_ReachOf.l1, ↓reduceIte, c1]
   exact ih st hS hM
  ·refine ev_succ ?_
   simp only [foretellref_ReachOf.l1, ↓reduceIte, c1]
   refine ev_succ ?_
   simp only [foretellref_ReachOf.l0, Bool.false_eq_true, ↓reduceIte]
   refine tell_all n st hS.len hn4 W fun x hx hx' => (hW x).trans ⟨fun hr => ?_, hS.snd x hx hx'⟩
   clear hx hx'
   have key : ∀ x, ReachM (behindL vs rs) f x → (0 ≤ x ∧ x < (n : Int)) ∧ 0 < rd st x := fun x hr => by
    induction hr with
    | start => exact ⟨⟨hf0, hf1⟩, hS.ini⟩
    | step a b ha hb ih =>
     obtain ⟨⟨a0, a1⟩, a2⟩ := ih
     have h3 := hS.val a a0 a1
     have h4 := h1 a a0 (by omega)
     rcases hS.cl a a0 a1 (by omega) with c | c
     ·exact c.elim
     ·exact ⟨hin a a0 a1 b hb, c b hb⟩
   exact (key x hr).2
 | succ d ihd =>
  intro j st b hj hS hb
  have hlt : j < st.length := by rw [hS.len]; omega
  have c1 : (j : Int) < (n : Int) := by omega
  have c2 : (0 : Int) ≤ (j : Int) := by omega
  have c3 : (j : Int) < (st.length : Int) := by omega
  have w1 : wrap64 ((j : Int) + 1) = ((j + 1 : Nat) : Int) := by rw [wrap_id (by omega) (by omega)]; rfl
  by_cases z : rd st (j : Int) = 1
  ·have hz : st[j] = 1 := by rw [← rd_get st j hlt]; exact z
   have hcnt : (st.set j 2).count 2 = st.count 2 + 1 := by rw [List.count_set hlt, hz]; simp
   have hle : (st.set j 2).count 2 ≤ (st.set j 2).length := List.count_le_length
   rw [List.length_set] at hle
   have hMle : leftS st ≤ M := by rcases hb with ⟨_, h⟩ | ⟨_, h, _⟩ <;> omega
   have he := row_rnd vs rs f n hin (j : Int) c2 c1 (hS.snd _ c2 c1 (by omega)) hf0 (behindL_len hm _) (st.count 2 + 1) (upTo n W, 0) (fun st' hS' hc => by
     rw [w1]
     refine ihd (j + 1) st' true (by omega) hS' (.inl ⟨rfl, ?_⟩)
     unfold leftS at hMle ⊢
     rw [hS'.len, hc]
     rw [hS.len] at hMle hle
     omega) (behindL vs rs (j : Int)).length 0 (st.set (j : Int).toNat 2) (by omega) ⟨by rw [List.length_set]; exact hS.len, fun x hx hx' => by
     have := hS.val x hx hx'
     rw [rd_set2 c2 c3 hx]; split <;> omega, fun x hx hx' h => by
     rw [rd_set2 c2 c3 hx] at h
     split at h
     ·rename_i e; rw [e]; exact hS.snd _ c2 c1 (by omega)
     ·exact hS.snd x hx hx' h, fun a ha ha' hh => by
     rw [rd_set2 c2 c3 ha] at hh
     split at hh
     ·rename_i e; exact .inl e
     ·rcases hS.cl a ha ha' hh with c | c
      ·exact c.elim
      ·exact .inr fun b hb => by rw [rd_set2 c2 c3 (hin a ha ha' b hb).1]; have := c b hb; split <;> omega, by rw [rd_set2 c2 c3 hf0]; have := hS.ini; split <;> omega⟩ hcnt (fun b hb => by simp at hb)
   refine ev_succ ?_
   simp only [foretellref_ReachOf.l1, ↓reduceIte, c1, c2, c3, z]
   refine ev_bind (nextOf_ev vs rs (j : Int)) ?_
   rw [nextS_right hm c2 (by omega)]
   exact he
  ·have he := ihd (j + 1) st b (by omega) hS (hb.imp id fun ⟨e, h, k⟩ => ⟨e, h, fun x hx hx' => by
    by_cases e : x = (j : Int)
    ·rw [e]; exact z
    ·exact k x hx (by omega)⟩)
   refine ev_succ ?_
   simp only [foretellref_ReachOf.l1, ↓reduceIte, c1, c2, c3, z, w1]
   exact he
theorem rounds_rnd (M : Nat) : ∀ st, RndOK vs rs f n (fun _ => False) st → leftS st ≤ M → Ev (fun k => foretellref_ReachOf.l0 k (n : Int) st true vs rs) (upTo n W, 0) := by
 induction M using Nat.strongRecOn with
 | _ M ih =>
  intro st hS hM
  refine ev_succ ?_
  simp only [foretellref_ReachOf.l0, ↓reduceIte]
  exact pass_rnd vs rs hm f n hn hn4 hin hf0 hf1 W hW M (fun st' hS' hlt => ih (leftS st') hlt st' hS' (Nat.le_refl _)) n 0 st false (by omega) hS (.inr ⟨rfl, hM, fun x hx hx' => by omega⟩)
end
theorem reachOf_ev (vs : List PVar) (rs : List PRule) (hv : vs.length ≤ 3518437208883) : Ev (fun k => foretellref_ReachOf.f k vs rs) (reachS vs rs) := by
 unfold foretellref_ReachOf.f reachS
 refine ev_bind (firstCode_ev vs rs hv) ?_
 by_cases h : (firstS vs rs).2 = 0
 ·obtain ⟨hm, h0, h1⟩ := codeS_ok h
  have h0' : 0 ≤ (firstS vs rs).1 := h0
  have h1' : (firstS vs rs).1 < prodV vs := h1
  obtain ⟨ho, hp⟩ := vars_ok (modelS_vars hm)
  have hin : ∀ a, 0 ≤ a → a < ((prodV vs).toNat : Int) → ∀ b ∈ behindL vs rs a, 0 ≤ b ∧ b < ((prodV vs).toNat : Int) := fun a h0 h1 b hb => by
   have := behindL_in hm h0 (by omega) b hb
   omega
  obtain ⟨w1, w2, w3⟩ := walkR_mem (f := (firstS vs rs).1) (n := (prodV vs).toNat) hin h0' (by omega)
  have c1 : 0 ≤ prodV vs := by omega
  have c2 : (prodV vs).toNat ≤ 35184372088832 := by omega
  have hrl : (List.replicate (prodV vs).toNat (0 : Int)).length = (prodV vs).toNat := by simp
  have c3 : (firstS vs rs).1 < ((List.replicate (prodV vs).toNat (0 : Int)).length : Int) := by rw [hrl]; omega
  simp only [h, ↓reduceIte]
  refine ev_bind (stateCount_ev vs rs) ?_
  unfold countS
  rw [if_pos hm]
  simp only [c1, c2, x_bind, h0', c3, ↓reduceIte]
  have hz : ∀ x : Int, rd (List.replicate (prodV vs).toNat (0 : Int)) x = 0 := fun x => by
   unfold rd
   rw [List.getD_eq_getElem?_getD, List.getElem?_replicate]
   split <;> rfl
  have hst : RndOK vs rs (firstS vs rs).1 (prodV vs).toNat (fun _ => False) ((List.replicate (prodV vs).toNat (0 : Int)).set (firstS vs rs).1.toNat 1) := by
   refine ⟨by simp, fun x hx hx' => ?_, fun x hx hx' hh => ?_, fun a ha ha' hh => ?_, ?_⟩
   ·rw [rd_set2 h0' c3 hx, hz]; split <;> omega
   ·rw [rd_set2 h0' c3 hx, hz] at hh
    split at hh
    ·rename_i e; rw [e]; exact .start
    ·omega
   ·rw [rd_set2 h0' c3 ha, hz] at hh
    split at hh <;> omega
   ·rw [rd_set2 h0' c3 h0', if_pos rfl]; decide
  have he := rounds_rnd vs rs hm (firstS vs rs).1 (prodV vs).toNat rfl (by omega) hin h0' (by omega) (walkR (behindL vs rs) (prodV vs).toNat 0 [(firstS vs rs).1]) w3 _ _ hst (Nat.le_refl _)
  rw [show (((prodV vs).toNat : Nat) : Int) = prodV vs by omega] at he
  exact he
 ·simp only [h, ↓reduceIte]
  exact Ev.now _
theorem reachS_len (vs : List PVar) (rs : List PRule) : (reachS vs rs).1.length ≤ 4096 := by
 unfold reachS
 split
 ·rename_i h
  obtain ⟨hm, h0, h1⟩ := codeS_ok h
  obtain ⟨ho, hp⟩ := vars_ok (modelS_vars hm)
  have := upTo_len (prodV vs).toNat (walkR (behindL vs rs) (prodV vs).toNat 0 [(firstS vs rs).1])
  simp only
  omega
 ·simp
end Go.Proofs.YtbekikafhpdehaaDoor.Pure
namespace Go.Proofs.YtbekikafhpdehaaDoor.Pure
open Go.RowKit Go.Proofs.YtbekikafhpdehaaDoor Go.Proofs.YtbekikafhpdehaaDoor.T Go.Proofs.YtbekikafhpdehaaDoor.Base Go.Proofs.YtbekikafhpdehaaDoorW.PrintWords Go.Proofs.YtbekikafhpdehaaDoorW.PrintLast Go.Proofs.YtbekikafhpdehaaDoorW.PrintMore
set_option linter.unusedVariables false
theorem sameInts_loop (l : List Int) (hl : l.length ≤ 9223372036854775807) (d : Nat) : ∀ i : Nat, i + d = l.length → Ev (fun k => foretelllaw_sameInts.l0 k l l i) true := by
 induction d with
 | zero => exact fun i hi => ev_now (fun k => by simp (disch := omega) only [foretelllaw_sameInts.l0, if_neg])
 | succ d ih =>
  intro i hi
  refine Ev.step (fun k => ?_) (ih (i + 1) (by omega))
  simp (disch := omega) only [foretelllaw_sameInts.l0, if_pos, if_true, wrap_id]
  rfl
theorem sameInts_refl (l : List Int) (hl : l.length ≤ 9223372036854775807) : Ev (fun k => foretelllaw_sameInts.f k l l) true := by
 unfold foretelllaw_sameInts.f
 simp only [if_true]
 exact sameInts_loop l hl l.length 0 (by omega)
theorem StepReaches (x0 : S25) (good0 : G25 x0) : ∃ k, foretelllaw_StepReaches.f k x0.f0 x0.f1 = some true := by
 refine Ev.rounds (g := fun k => foretelllaw_StepReaches.f k x0.f0 x0.f1) ?_
 unfold foretelllaw_StepReaches.f
 have hv : x0.f0.length ≤ 3518437208883 := by have := good0.1.1; omega
 refine ev_bind (models_ev x0 good0) (ev_bind (stepReach_ev x0.f0 x0.f1 hv) (ev_bind (reachOf_ev x0.f0 x0.f1 hv) ?_))
 simp only [↓reduceIte]
 have := reachS_len x0.f0 x0.f1
 exact ev_bind (sameInts_refl _ (by omega)) (Ev.now _)
end Go.Proofs.YtbekikafhpdehaaDoor.Pure
