-- Cut by a program of this session (wip/prune.py) from a longer text: declarations that the law does not need are left out.
import Derived.Test.YtkakmghadhafjaaKSccFairsMReach
namespace Go.Proofs.Ytkakmghadhafjaa.Pure
open Go.RowKit Go.Proofs.Ytkakmghadhafjaa.Q Go.Proofs.Ytkakmghadhafjaa.Base Go.Proofs.YtkakmghadhafjaaW.PrintWords Go.Proofs.YtkakmghadhafjaaW.PrintLast Go.Proofs.YtkakmghadhafjaaW.PrintMore
set_option linter.unusedVariables false
theorem rd_set {st : List Int} {i v : Int} (h0 : 0 ≤ i) (h1 : i < (st.length : Int)) {x : Int} (hx : 0 ≤ x) : rd (st.set i.toNat v) x = if x = i then v else rd st x := by
  unfold rd
  rw [List.getD_eq_getElem?_getD, List.getD_eq_getElem?_getD, List.getElem?_set]
  by_cases c : x = i
  · have hlt : x.toNat < st.length := by omega
    subst c
    simp only [↓reduceIte, hlt, Option.getD_some]
  · have c' : ¬ i.toNat = x.toNat := by omega
    simp only [c, c', ↓reduceIte]
section
variable (spots : List S98) (init : Int) (next : List (List Int)) (sets : List Int) (many : Int) (frm : Int → Prop) (n : Nat) (hN : next.length = n) (hin : ∀ a, ∀ b ∈ rd_L3 next a, 0 ≤ b ∧ b < (n : Int)) (hf : ∀ x, frm x → 0 ≤ x ∧ x < (n : Int)) (hn : n ≤ 20000) (hl : ∀ a, (rd_L3 next a).length ≤ 9223372036854775807)
structure RInv (cur dn : Int → Prop) (st : List Int) : Prop where
  len : st.length = n
  val : ∀ x : Int, 0 ≤ x → x < (n : Int) → 0 ≤ rd st x ∧ rd st x ≤ 2
  snd : ∀ x : Int, 0 ≤ x → x < (n : Int) → 0 < rd st x → Reach next frm x
  cl : ∀ a : Int, 0 ≤ a → a < (n : Int) → rd st a = 2 → cur a ∨ ∀ b ∈ rd_L3 next a, 0 < rd st b
  ini : ∀ x : Int, dn x → 0 < rd st x
def left2 (st : List Int) : Nat := st.length - st.count 2
theorem out_run (st : List Int) (hs : st.length ≤ 20000) (d : Nat) : ∀ (j : Nat) (acc : List Bool), j + d = st.length → acc.length = j → Ev (fun k => foretellref_reachedFrom.l4 k st acc j) (acc ++ (st.drop j).map (fun v => decide (v > 0))) := by
  induction d with
  | zero =>
    intro j acc hj ha
    rw [List.drop_of_length_le (by omega), List.map_nil, List.append_nil]
    have c1 : ¬ (j : Int) < (st.length : Int) := by omega
    refine ev_succ ?_
    simp only [foretellref_reachedFrom.l4, ↓reduceIte, c1]
    exact Ev.now _
  | succ d ih =>
    intro j acc hj ha
    have hlt : j < st.length := by omega
    have c1 : (j : Int) < (st.length : Int) := by omega
    have c2 : (0 : Int) ≤ (j : Int) := by omega
    have c3 : acc.length < 140737488355328 := by omega
    have w1 : wrap64 ((j : Int) + 1) = ((j + 1 : Nat) : Int) := by rw [wrap_id (by omega) (by omega)]; rfl
    rw [List.drop_eq_getElem_cons hlt, List.map_cons]
    refine ev_succ ?_
    simp only [foretellref_reachedFrom.l4, ↓reduceIte, c1, c2, c3, rd_get st j hlt, w1]
    refine ev_eq (ih (j + 1) (acc ++ [decide (st[j] > 0)]) (by omega) (by simp [ha])) ?_
    rw [List.append_assoc]
    rfl
theorem tru_map (st : List Int) {x : Int} (h0 : 0 ≤ x) (h1 : x < (st.length : Int)) : tru (st.map (fun v => decide (v > 0))) x ↔ 0 < rd st x := by
  have hlt : x.toNat < st.length := by omega
  unfold tru rd
  rw [List.getD_eq_getElem?_getD, List.getD_eq_getElem?_getD, List.getElem?_map, List.getElem?_eq_getElem hlt]
  simp
include hN hin hf hn hl
omit hn in
theorem row_rounds (cur : Int) (hc0 : 0 ≤ cur) (hc1 : cur < (n : Int)) (hcur : Reach next frm cur) (c : Nat)
    (ih : ∀ st, RInv next frm n (fun _ => False) frm st → st.count 2 = c → Res next frm n (fun k => foretellref_reachedFrom.l2 k st true (wrap64 (cur + 1)) spots init next sets many)) (d : Nat) :
    ∀ (j : Nat) (st : List Int), j + d = (rd_L3 next cur).length → RInv next frm n (fun a => a = cur) frm st → st.count 2 = c → (∀ b ∈ (rd_L3 next cur).take j, 0 < rd st b) →
      Res next frm n (fun k => foretellref_reachedFrom.l3 k st true cur j spots init next sets many) := by
  have hlr := hl cur
  have g1 : cur < (next.length : Int) := by omega
  induction d with
  | zero =>
    intro j st hj hS hc hb
    have c1 : ¬ (j : Int) < ((rd_L3 next cur).length : Int) := by omega
    rw [List.take_of_length_le (by omega)] at hb
    obtain ⟨r, hg, he⟩ := ih st ⟨hS.len, hS.val, hS.snd, fun a ha ha' hh => by
      rcases hS.cl a ha ha' hh with c | c
      · subst c; exact .inr hb
      · exact .inr c, hS.ini⟩ hc
    refine ⟨r, hg, ev_succ ?_⟩
    simp only [foretellref_reachedFrom.l3, ↓reduceIte, hc0, g1, c1]
    exact he
  | succ d ihd =>
    intro j st hj hS hc hb
    have hlt : j < (rd_L3 next cur).length := by omega
    have hmem := List.getElem_mem hlt
    have hrd : rd (rd_L3 next cur) (j : Int) = (rd_L3 next cur)[j] := rd_get _ _ hlt
    obtain ⟨b0, b1⟩ := hin cur _ hmem
    have b1' : (rd_L3 next cur)[j] < (st.length : Int) := by rw [hS.len]; exact b1
    have hr : Reach next frm ((rd_L3 next cur)[j]) := .step cur _ hcur hmem
    have c1 : (j : Int) < ((rd_L3 next cur).length : Int) := by omega
    have c2 : (0 : Int) ≤ (j : Int) := by omega
    have w1 : wrap64 ((j : Int) + 1) = ((j + 1 : Nat) : Int) := by rw [wrap_id (by omega) (by omega)]; rfl
    by_cases z : rd st ((rd_L3 next cur)[j]) = 0
    · have hlt2 : ((rd_L3 next cur)[j]).toNat < st.length := by omega
      have hz : st[((rd_L3 next cur)[j]).toNat] = 0 := by
        unfold rd at z
        rw [List.getD_eq_getElem?_getD, List.getElem?_eq_getElem hlt2] at z
        exact z
      have mono : ∀ x : Int, 0 ≤ x → 0 < rd st x → 0 < rd (st.set ((rd_L3 next cur)[j]).toNat 1) x := fun x hx h => by
        rw [rd_set b0 b1' hx]; split <;> omega
      obtain ⟨r, hg, he⟩ := ihd (j + 1) (st.set ((rd_L3 next cur)[j]).toNat 1) (by omega) ⟨by rw [List.length_set]; exact hS.len, fun x hx hx' => by
          have := hS.val x hx hx'
          rw [rd_set b0 b1' hx]; split <;> omega, fun x hx hx' h => by
          rw [rd_set b0 b1' hx] at h
          split at h
          · rename_i e; rw [e]; exact hr
          · exact hS.snd x hx hx' h, fun a ha ha' hh => by
          rw [rd_set b0 b1' ha] at hh
          split at hh
          · omega
          · rcases hS.cl a ha ha' hh with c | c
            · exact .inl c
            · exact .inr fun b hb => mono b (hin a b hb).1 (c b hb), fun x hx => mono x (hf x hx).1 (hS.ini x hx)⟩ (by rw [List.count_set hlt2, hz]; simpa using hc) (fun b hb' => by
          rw [List.take_succ_eq_append_getElem hlt] at hb'
          rcases List.mem_append.1 hb' with hb' | hb'
          · exact mono b (hin cur b (List.mem_of_mem_take hb')).1 (hb b hb')
          · rw [List.mem_singleton.1 hb', rd_set b0 b1' b0, if_pos rfl]; decide)
      refine ⟨r, hg, ev_succ ?_⟩
      simp only [foretellref_reachedFrom.l3, ↓reduceIte, hc0, g1, c1, c2, hrd, b0, b1', z, w1]
      exact he
    · have hp : 0 < rd st ((rd_L3 next cur)[j]) := by have := hS.val _ b0 b1; omega
      obtain ⟨r, hg, he⟩ := ihd (j + 1) st (by omega) hS hc (fun b hb' => by
          rw [List.take_succ_eq_append_getElem hlt] at hb'
          rcases List.mem_append.1 hb' with hb' | hb'
          · exact hb b hb'
          · rw [List.mem_singleton.1 hb']; exact hp)
      refine ⟨r, hg, ev_succ ?_⟩
      simp only [foretellref_reachedFrom.l3, ↓reduceIte, hc0, g1, c1, c2, hrd, b0, b1', z, w1]
      exact he
theorem pass_rounds (M : Nat) (ih : ∀ st, RInv next frm n (fun _ => False) frm st → left2 st < M → Res next frm n (fun k => foretellref_reachedFrom.l1 k st true spots init next sets many)) (d : Nat) :
    ∀ (j : Nat) (st : List Int) (b : Bool), j + d = n → RInv next frm n (fun _ => False) frm st → (b = true ∧ left2 st < M) ∨ (b = false ∧ left2 st ≤ M ∧ ∀ x : Int, 0 ≤ x → x < (j : Int) → rd st x ≠ 1) →
      Res next frm n (fun k => foretellref_reachedFrom.l2 k st b j spots init next sets many) := by
  induction d with
  | zero =>
    intro j st b hj hS hb
    have c1 : ¬ (j : Int) < (st.length : Int) := by rw [hS.len]; omega
    rcases hb with ⟨rfl, hM⟩ | ⟨rfl, hM, h1⟩
    · obtain ⟨r, hg, he⟩ := ih st hS hM
      refine ⟨r, hg, ev_succ ?_⟩
      simp only [foretellref_reachedFrom.l2, ↓reduceIte, c1]
      exact he
    · refine ⟨st.map (fun v => decide (v > 0)), ⟨by rw [List.length_map]; exact hS.len, fun x hx hx' => (tru_map st hx (by rw [hS.len]; exact hx')).trans ⟨hS.snd x hx hx', fun hr => ?_⟩⟩, ev_succ ?_⟩
      · clear hx hx'
        induction hr with
        | start x h => exact hS.ini x h
        | step a b ha hb ih =>
          obtain ⟨a0, a1⟩ := reach_in next frm n hin hf ha
          have h3 := hS.val a a0 a1
          have h4 := h1 a a0 (by omega)
          rcases hS.cl a a0 a1 (by omega) with c | c
          · exact c.elim
          · exact c b hb
      · simp only [foretellref_reachedFrom.l2, ↓reduceIte, c1]
        refine ev_succ ?_
        simp only [foretellref_reachedFrom.l1, Bool.false_eq_true, ↓reduceIte]
        exact out_run st (by rw [hS.len]; exact hn) st.length 0 [] (by omega) rfl
  | succ d ihd =>
    intro j st b hj hS hb
    have hlt : j < st.length := by rw [hS.len]; omega
    have c1 : (j : Int) < (st.length : Int) := by omega
    have c2 : (0 : Int) ≤ (j : Int) := by omega
    have hjn : (j : Int) < (n : Int) := by omega
    have w1 : wrap64 ((j : Int) + 1) = ((j + 1 : Nat) : Int) := by rw [wrap_id (by omega) (by omega)]; rfl
    by_cases z : rd st (j : Int) = 1
    · have hz : st[j] = 1 := by rw [← rd_get st j hlt]; exact z
      have hcnt : (st.set j 2).count 2 = st.count 2 + 1 := by rw [List.count_set hlt, hz]; simp
      have hle : (st.set j 2).count 2 ≤ (st.set j 2).length := List.count_le_length
      rw [List.length_set] at hle
      have hMle : left2 st ≤ M := by rcases hb with ⟨_, h⟩ | ⟨_, h, _⟩ <;> omega
      have es : st.set j 2 = st.set (j : Int).toNat 2 := rfl
      obtain ⟨r, hg, he⟩ := row_rounds spots init next sets many frm n hN hin hf hl (j : Int) c2 hjn (hS.snd _ c2 hjn (by omega)) (st.count 2 + 1) (fun st' hS' hc => by
          rw [w1]
          refine ihd (j + 1) st' true (by omega) hS' (.inl ⟨rfl, ?_⟩)
          unfold left2 at hMle ⊢
          rw [hS'.len, hc]
          rw [hS.len] at hMle hle
          omega) (rd_L3 next (j : Int)).length 0 (st.set (j : Int).toNat 2) (by omega) ⟨by rw [List.length_set]; exact hS.len, fun x hx hx' => by
          have := hS.val x hx hx'
          rw [rd_set c2 c1 hx]; split <;> omega, fun x hx hx' h => by
          rw [rd_set c2 c1 hx] at h
          split at h
          · rename_i e; rw [e]; exact hS.snd _ c2 hjn (by omega)
          · exact hS.snd x hx hx' h, fun a ha ha' hh => by
          rw [rd_set c2 c1 ha] at hh
          split at hh
          · rename_i e; exact .inl e
          · rcases hS.cl a ha ha' hh with c | c
            · exact c.elim
            · exact .inr fun b hb => by rw [rd_set c2 c1 (hin a b hb).1]; have := c b hb; split <;> omega, fun x hx => by rw [rd_set c2 c1 (hf x hx).1]; have := hS.ini x hx; split <;> omega⟩ hcnt (fun b hb => by simp at hb)
      refine ⟨r, hg, ev_succ ?_⟩
      simp only [foretellref_reachedFrom.l2, ↓reduceIte, c1, c2, z]
      exact he
    · obtain ⟨r, hg, he⟩ := ihd (j + 1) st b (by omega) hS (hb.imp id fun ⟨e, h, k⟩ => ⟨e, h, fun x hx hx' => by
        by_cases e : x = (j : Int)
        · rw [e]; exact z
        · exact k x hx (by omega)⟩)
      refine ⟨r, hg, ev_succ ?_⟩
      simp only [foretellref_reachedFrom.l2, ↓reduceIte, c1, c2, z, w1]
      exact he
theorem rounds_run (M : Nat) : ∀ st, RInv next frm n (fun _ => False) frm st → left2 st ≤ M → Res next frm n (fun k => foretellref_reachedFrom.l1 k st true spots init next sets many) := by
  induction M using Nat.strongRecOn with
  | _ M ih =>
    intro st hS hM
    obtain ⟨r, hg, he⟩ := pass_rounds spots init next sets many frm n hN hin hf hn hl M (fun st' hS' hlt => ih (left2 st') hlt st' hS' (Nat.le_refl _)) n 0 st false (by omega) hS (.inr ⟨rfl, hM, fun x hx hx' => by omega⟩)
    refine ⟨r, hg, ev_succ ?_⟩
    simp only [foretellref_reachedFrom.l1, ↓reduceIte]
    exact he
end
end Go.Proofs.Ytkakmghadhafjaa.Pure
