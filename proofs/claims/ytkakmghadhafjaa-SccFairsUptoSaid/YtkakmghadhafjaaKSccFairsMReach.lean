-- Cut by a program of this session (wip/prune.py) from a longer text: declarations that the law does not need are left out.
import Derived.Test.YtkakmghadhafjaaKSccFairsMGraph
import Derived.Test.YtkakmghadhafjaaKSccFairsQx10
import Derived.Test.YtkakmghadhafjaaKSccFairsQx3
import Derived.Test.YtkakmghadhafjaaKSccFairsMEv
namespace Go.Proofs.Ytkakmghadhafjaa.Pure
open Go.RowKit Go.Proofs.Ytkakmghadhafjaa.Q Go.Proofs.Ytkakmghadhafjaa.Base Go.Proofs.YtkakmghadhafjaaW.PrintWords Go.Proofs.YtkakmghadhafjaaW.PrintLast Go.Proofs.YtkakmghadhafjaaW.PrintMore
set_option linter.unusedVariables false
inductive Reach (next : List (List Int)) (frm : Int → Prop) : Int → Prop
  | start (x : Int) : frm x → Reach next frm x
  | step (a b : Int) : Reach next frm a → b ∈ rd_L3 next a → Reach next frm b
def tru (s : List Bool) (x : Int) : Prop := s.getD x.toNat false = true
section
variable (next : List (List Int)) (frm : Int → Prop) (n : Nat) (hN : next.length = n) (hin : ∀ a, ∀ b ∈ rd_L3 next a, 0 ≤ b ∧ b < (n : Int)) (hf : ∀ x, frm x → 0 ≤ x ∧ x < (n : Int)) (hn : n ≤ 20000) (hl : ∀ a, (rd_L3 next a).length ≤ 9223372036854775807)
def GoodR (r : List Bool) : Prop := r.length = n ∧ ∀ x : Int, 0 ≤ x → x < (n : Int) → (tru r x ↔ Reach next frm x)
theorem good_eq {r r' : List Bool} (h : GoodR next frm n r) (h' : GoodR next frm n r') : r = r' := by
  refine List.ext_getElem (h.1.trans h'.1.symm) (fun i hi hi' => ?_)
  have e1 := h.2 i (by omega) (by rw [h.1] at hi; omega)
  have e2 := h'.2 i (by omega) (by rw [h.1] at hi; omega)
  have e := e1.trans e2.symm
  unfold tru at e
  rw [Int.toNat_natCast, List.getD_eq_getElem?_getD, List.getD_eq_getElem?_getD, List.getElem?_eq_getElem hi, List.getElem?_eq_getElem hi', Option.getD_some, Option.getD_some] at e
  exact Bool.eq_iff_iff.2 e
include hin hf in
theorem reach_in {x : Int} (h : Reach next frm x) : 0 ≤ x ∧ x < (n : Int) := by
  cases h with
  | start _ h => exact hf _ h
  | step a _ _ h => exact hin a _ h
theorem tru_set {s : List Bool} {i : Int} (h0 : 0 ≤ i) (h1 : i < (s.length : Int)) {x : Int} (hx : 0 ≤ x) : tru (s.set i.toNat true) x ↔ (x = i ∨ tru s x) := by
  unfold tru
  rw [List.getD_eq_getElem?_getD, List.getD_eq_getElem?_getD, List.getElem?_set]
  by_cases c : i.toNat = x.toNat
  · have hlt : x.toNat < s.length := by omega
    simp only [c, ↓reduceIte, hlt, Option.getD_some, true_iff]
    exact .inl (by omega)
  · simp only [c, ↓reduceIte]
    exact ⟨.inr, fun h => h.elim (fun e => absurd (by rw [e]) c) id⟩
structure SInv (cur : Int → Prop) (s : List Bool) (t : List Int) : Prop where
  len : s.length = n
  snd : ∀ x : Int, 0 ≤ x → x < (n : Int) → tru s x → Reach next frm x
  tin : ∀ x ∈ t, 0 ≤ x ∧ x < (n : Int) ∧ tru s x
  cl : ∀ a : Int, 0 ≤ a → a < (n : Int) → tru s a → a ∈ t ∨ cur a ∨ ∀ b ∈ rd_L3 next a, tru s b
def meas (s : List Bool) (t : List Int) : Nat := t.length + s.count false
theorem visit_mono {s : List Bool} {t : List Int} {i x : Int} (h0 : 0 ≤ i) (h1 : i < (s.length : Int)) (hx : 0 ≤ x) (h : tru s x) : tru (visit1 s t i).1 x := by
  unfold visit1
  split
  · exact h
  · exact (tru_set h0 h1 hx).2 (.inr h)
theorem visit_tru {s : List Bool} {t : List Int} {i : Int} (h0 : 0 ≤ i) (h1 : i < (s.length : Int)) : tru (visit1 s t i).1 i := by
  unfold visit1
  split
  · assumption
  · exact (tru_set h0 h1 h0).2 (.inl rfl)
theorem visit_meas {s : List Bool} {t : List Int} {i : Int} (h0 : 0 ≤ i) (h1 : i < (s.length : Int)) : meas (visit1 s t i).1 (visit1 s t i).2 = meas s t := by
  unfold visit1
  split
  · rfl
  · rename_i h
    have hlt : i.toNat < s.length := by omega
    have hv : s[i.toNat] = false := by
      rw [List.getD_eq_getElem?_getD, List.getElem?_eq_getElem hlt, Option.getD_some] at h
      exact Bool.eq_false_iff.2 h
    have hp : 0 < s.count false := List.count_pos_iff.2 (hv ▸ List.getElem_mem hlt)
    unfold meas
    rw [List.count_set hlt, hv, List.length_append]
    simp
    omega
include hin in
theorem visit_inv {cur : Int → Prop} {s : List Bool} {t : List Int} {i : Int} (h : SInv next frm n cur s t) (h0 : 0 ≤ i) (h1 : i < (n : Int)) (hr : Reach next frm i) : SInv next frm n cur (visit1 s t i).1 (visit1 s t i).2 := by
  have h1' : i < (s.length : Int) := by rw [h.len]; exact h1
  unfold visit1
  split
  · exact h
  · refine ⟨by rw [List.length_set]; exact h.len, fun x hx hx' hh => ?_, fun x hx => ?_, fun a ha ha' hh => ?_⟩
    · rcases (tru_set h0 h1' hx).1 hh with rfl | hh
      · exact hr
      · exact h.snd x hx hx' hh
    · rcases List.mem_append.1 hx with hx | hx
      · obtain ⟨a, b, c⟩ := h.tin x hx
        exact ⟨a, b, (tru_set h0 h1' a).2 (.inr c)⟩
      · rw [List.mem_singleton.1 hx]
        exact ⟨h0, h1, (tru_set h0 h1' h0).2 (.inl rfl)⟩
    · rcases (tru_set h0 h1' ha).1 hh with rfl | hh
      · exact .inl (by simp)
      · rcases h.cl a ha ha' hh with c | c | c
        · exact .inl (by simp [c])
        · exact .inr (.inl c)
        · exact .inr (.inr fun b hb => (tru_set h0 h1' (hin a b hb).1).2 (.inr (c b hb)))
def Res (g : Nat → Option (List Bool)) : Prop := ∃ r, GoodR next frm n r ∧ Ev g r
include hN hin hf hn hl
theorem row_run (cur : Int) (hcur : Reach next frm cur) (M : Nat) (hM : M ≤ n)
    (ih : ∀ s t, SInv next frm n (fun _ => False) s t → (∀ x, frm x → tru s x) → meas s t ≤ M → Res next frm n (fun k => scc_Reached.l1 k s t next)) (d : Nat) :
    ∀ (j : Nat) (s : List Bool) (t : List Int), j + d = (rd_L3 next cur).length → SInv next frm n (fun a => a = cur) s t → (∀ x, frm x → tru s x) → meas s t ≤ M → (∀ b ∈ (rd_L3 next cur).take j, tru s b) →
      Res next frm n (fun k => scc_Reached.l2 k s t (rd_L3 next cur) j next) := by
  have hlr := hl cur
  induction d with
  | zero =>
    intro j s t hj hS hI hm hb
    have c1 : ¬ (j : Int) < ((rd_L3 next cur).length : Int) := by omega
    rw [List.take_of_length_le (by omega)] at hb
    obtain ⟨r, hg, he⟩ := ih s t ⟨hS.len, hS.snd, hS.tin, fun a ha ha' hh => by
      rcases hS.cl a ha ha' hh with c | c | c
      · exact .inl c
      · subst c; exact .inr (.inr hb)
      · exact .inr (.inr c)⟩ hI hm
    refine ⟨r, hg, ev_succ ?_⟩
    simp only [scc_Reached.l2, ↓reduceIte, c1]
    exact he
  | succ d ihd =>
    intro j s t hj hS hI hm hb
    have hlt : j < (rd_L3 next cur).length := by omega
    have hmem := List.getElem_mem hlt
    have hrd : rd (rd_L3 next cur) (j : Int) = (rd_L3 next cur)[j] := rd_get _ _ hlt
    obtain ⟨b0, b1⟩ := hin cur _ hmem
    have b1' : (rd_L3 next cur)[j] < (s.length : Int) := by rw [hS.len]; exact b1
    have hr : Reach next frm ((rd_L3 next cur)[j]) := .step cur _ hcur hmem
    have c1 : (j : Int) < ((rd_L3 next cur).length : Int) := by omega
    have c2 : (0 : Int) ≤ (j : Int) := by omega
    have c3 : t.length < 17592186044416 := by unfold meas at hm; omega
    have w1 : wrap64 ((j : Int) + 1) = ((j + 1 : Nat) : Int) := by rw [wrap_id (by omega) (by omega)]; rfl
    obtain ⟨r, hg, he⟩ := ihd (j + 1) _ _ (by omega) (visit_inv next frm n hin hS b0 b1 hr) (fun x hx => visit_mono b0 b1' (hf x hx).1 (hI x hx)) (by rw [visit_meas b0 b1']; exact hm) (fun b hb' => by
      rw [List.take_succ_eq_append_getElem hlt] at hb'
      rcases List.mem_append.1 hb' with hb' | hb'
      · exact visit_mono b0 b1' (hin cur b (List.mem_of_mem_take hb')).1 (hb b hb')
      · rw [List.mem_singleton.1 hb']; exact visit_tru b0 b1')
    refine ⟨r, hg, ev_succ ?_⟩
    simp only [scc_Reached.l2, ↓reduceIte, c1, c2, hrd, b0, b1', c3, w1]
    exact he
omit hN hn hl in
theorem search_done (s : List Bool) (t : List Int) (hS : SInv next frm n (fun _ => False) s t) (hI : ∀ x, frm x → tru s x) (ht : ¬ 0 < t.length) : Res next frm n (fun k => scc_Reached.l1 k s t next) := by
  refine ⟨s, ⟨hS.len, fun x hx hx' => ⟨hS.snd x hx hx', fun hr => ?_⟩⟩, ev_succ ?_⟩
  · clear hx hx'
    induction hr with
    | start x h => exact hI x h
    | step a b ha hb ih =>
      obtain ⟨a0, a1⟩ := reach_in next frm n hin hf ha
      rcases hS.cl a a0 a1 ih with c | c | c
      · exact absurd (List.length_pos_of_mem c) ht
      · exact c.elim
      · exact c b hb
  · simp only [scc_Reached.l1, ↓reduceIte, ht]
    exact Ev.now _
theorem search_run (M : Nat) : ∀ (s : List Bool) (t : List Int), M ≤ n → SInv next frm n (fun _ => False) s t → (∀ x, frm x → tru s x) → meas s t ≤ M → Res next frm n (fun k => scc_Reached.l1 k s t next) := by
  induction M with
  | zero =>
    intro s t hM hS hI hm
    have ht : ¬ 0 < t.length := by unfold meas at hm; omega
    exact search_done next frm n hin hf s t hS hI ht
  | succ M ih =>
    intro s t hM hS hI hm
    by_cases ht : 0 < t.length
    · obtain ⟨m, hm'⟩ : ∃ m, t.length = m + 1 := ⟨t.length - 1, by omega⟩
      have hlt : m < t.length := by omega
      have hrd : rd t ((t.length : Int) - 1) = t[m] := by rw [show (t.length : Int) - 1 = (m : Int) by omega]; exact rd_get _ _ hlt
      obtain ⟨b0, b1, b2⟩ := hS.tin _ (List.getElem_mem hlt)
      have b1' : t[m] < (next.length : Int) := by rw [hN]; exact b1
      have c3 : t.length ≤ 17592186044416 := by unfold meas at hm; omega
      have ht' : t = t.take m ++ [t[m]] := by rw [List.take_append_getElem]; exact (List.take_of_length_le (by omega)).symm
      obtain ⟨r, hg, he⟩ := row_run next frm n hN hin hf hn hl t[m] (hS.snd _ b0 b1 b2) M (by omega) (fun s t a b c => ih s t (by omega) a b c) (rd_L3 next t[m]).length 0 s (t.take m) (by omega) ⟨hS.len, hS.snd, fun x hx => hS.tin x (List.mem_of_mem_take hx), fun a ha ha' hh => by
        rcases hS.cl a ha ha' hh with c | c | c
        · rw [ht'] at c
          rcases List.mem_append.1 c with c | c
          · exact .inl c
          · exact .inr (.inl (List.mem_singleton.1 c))
        · exact c.elim
        · exact .inr (.inr c)⟩ hI (by unfold meas at hm ⊢; rw [List.length_take]; omega) (fun b hb => by simp at hb)
      refine ⟨r, hg, ev_succ ?_⟩
      simp only [scc_Reached.l1, ↓reduceIte, ht, c3, hrd, b0, b1']
      rw [show t.length - 1 = m by omega]
      exact he
    · exact search_done next frm n hin hf s t hS hI ht
end
end Go.Proofs.Ytkakmghadhafjaa.Pure
