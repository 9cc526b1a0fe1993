-- Cut by a program of this session (wip/prune.py) from a longer text: declarations that the law does not need are left out.
import Derived.Test.YtkakmghadhafjaaKSccFairsMRounds
namespace Go.Proofs.Ytkakmghadhafjaa.Pure
open Go.RowKit Go.Proofs.Ytkakmghadhafjaa.Q Go.Proofs.Ytkakmghadhafjaa.Base Go.Proofs.YtkakmghadhafjaaW.PrintWords Go.Proofs.YtkakmghadhafjaaW.PrintLast Go.Proofs.YtkakmghadhafjaaW.PrintMore
set_option linter.unusedVariables false
set_option linter.unusedSectionVars false
section
variable (spots : List S98) (init : Int) (next : List (List Int)) (sets : List Int) (many : Int) (frm : Int → Prop) (n : Nat) (hN : next.length = n) (hin : ∀ a, ∀ b ∈ rd_L3 next a, 0 ≤ b ∧ b < (n : Int)) (hf : ∀ x, frm x → 0 ≤ x ∧ x < (n : Int)) (hn : n ≤ 20000) (hl : ∀ a, (rd_L3 next a).length ≤ 9223372036854775807)
include hN hin hf hn hl
theorem start_rounds (L : List Int) (hL : ∀ x, frm x ↔ x ∈ L) (hLl : L.length ≤ 9223372036854775807) (d : Nat) : ∀ (j : Nat) (st : List Int), j + d = L.length → RInv next frm n (fun _ => False) (fun x => x ∈ L.take j) st → Res next frm n (fun k => foretellref_reachedFrom.l0 k L st j spots init next sets many) := by
  induction d with
  | zero =>
    intro j st hj hS
    have c1 : ¬ (j : Int) < (L.length : Int) := by omega
    obtain ⟨r, hg, he⟩ := rounds_run spots init next sets many frm n hN hin hf hn hl n st ⟨hS.len, hS.val, hS.snd, hS.cl, fun x hx => hS.ini x (by rw [List.take_of_length_le (by omega)]; exact (hL x).1 hx)⟩ (by unfold left2; rw [hS.len]; omega)
    refine ⟨r, hg, ev_succ ?_⟩
    simp only [foretellref_reachedFrom.l0, ↓reduceIte, c1]
    exact he
  | succ d ih =>
    intro j st hj hS
    have hlt : j < L.length := by omega
    have hx : frm L[j] := (hL _).2 (List.getElem_mem hlt)
    obtain ⟨b0, b1⟩ := hf _ hx
    have b1' : L[j] < (st.length : Int) := by rw [hS.len]; exact b1
    have c1 : (j : Int) < (L.length : Int) := by omega
    have c2 : (0 : Int) ≤ (j : Int) := by omega
    have w1 : wrap64 ((j : Int) + 1) = ((j + 1 : Nat) : Int) := by rw [wrap_id (by omega) (by omega)]; rfl
    have mono : ∀ x : Int, 0 ≤ x → 0 < rd st x → 0 < rd (st.set (L[j]).toNat 1) x := fun x hx h => by
      rw [rd_set b0 b1' hx]; split <;> omega
    obtain ⟨r, hg, he⟩ := ih (j + 1) (st.set (L[j]).toNat 1) (by omega) ⟨by rw [List.length_set]; exact hS.len, fun x hx hx' => by
        have := hS.val x hx hx'
        rw [rd_set b0 b1' hx]; split <;> omega, fun x hx0 hx' h => by
        rw [rd_set b0 b1' hx0] at h
        split at h
        · rename_i e; rw [e]; exact .start _ hx
        · exact hS.snd x hx0 hx' h, fun a ha ha' hh => by
        rw [rd_set b0 b1' ha] at hh
        split at hh
        · omega
        · rcases hS.cl a ha ha' hh with c | c
          · exact .inl c
          · exact .inr fun b hb => mono b (hin a b hb).1 (c b hb), fun x hx' => by
        rw [List.take_succ_eq_append_getElem hlt] at hx'
        rcases List.mem_append.1 hx' with hx' | hx'
        · exact mono x (hf x ((hL x).2 (List.mem_of_mem_take hx'))).1 (hS.ini x hx')
        · rw [List.mem_singleton.1 hx', rd_set b0 b1' b0, if_pos rfl]; decide⟩
    refine ⟨r, hg, ev_succ ?_⟩
    simp only [foretellref_reachedFrom.l0, ↓reduceIte, c1, c2, rd_get L j hlt, b0, b1', w1]
    exact he
theorem reached_from (hs : spots.length = n) (L : List Int) (hL : ∀ x, frm x ↔ x ∈ L) (hLl : L.length ≤ 9223372036854775807) : Res next frm n (fun k => foretellref_reachedFrom.f k spots init next sets many L) := by
  obtain ⟨r, hg, he⟩ := start_rounds spots init next sets many frm n hN hin hf hn hl L hL hLl L.length 0 (List.replicate ((spots.length : Int)).toNat 0) (by omega) ⟨by simp [hs], fun x hx hx' => by
    unfold rd; rw [List.getD_eq_getElem?_getD, List.getElem?_replicate]; split <;> simp, fun x hx hx' h => by
    unfold rd at h; rw [List.getD_eq_getElem?_getD, List.getElem?_replicate] at h; split at h <;> simp at h, fun a ha ha' h => by
    unfold rd at h; rw [List.getD_eq_getElem?_getD, List.getElem?_replicate] at h; split at h <;> simp at h, fun x hx => by simp at hx⟩
  refine ⟨r, hg, ?_⟩
  unfold foretellref_reachedFrom.f
  have c1 : (0 : Int) ≤ (spots.length : Int) := by omega
  have c2 : ((spots.length : Int)).toNat ≤ 35184372088832 := by omega
  simp only [↓reduceIte, c1, c2]
  exact he
end
theorem rowIn_all {n : Int} {l : List Int} (h : rowIn n l = true) : ∀ b ∈ l, 0 ≤ b ∧ b < n := fun b hb => of_decide_eq_true (List.all_eq_true.1 h b hb)
theorem restIn_all {n p : Int} : ∀ {next : List (List Int)} {sets : List Int}, restIn n p next sets = true → next.length = sets.length → ∀ l ∈ next, ∀ b ∈ l, 0 ≤ b ∧ b < n
  | [], _, _, _ => fun l hl => by cases hl
  | l :: ls, s :: ss, h, e => by
    simp only [restIn, Bool.and_eq_true] at h
    intro x hx
    rcases List.mem_cons.1 hx with rfl | hx
    · exact rowIn_all h.1.1
    · exact restIn_all h.2 (by simpa using e) x hx
theorem rd_rows {next : List (List Int)} {Q : List Int → Prop} (h0 : Q []) (h : ∀ l ∈ next, Q l) (a : Int) : Q (rd_L3 next a) := by
  show Q (next.getD a.toNat [])
  rw [List.getD_eq_getElem?_getD]
  by_cases c : a.toNat < next.length
  · rw [List.getElem?_eq_getElem c]; exact h _ (List.getElem_mem c)
  · rw [List.getElem?_eq_none (by omega)]; exact h0
end Go.Proofs.Ytkakmghadhafjaa.Pure
