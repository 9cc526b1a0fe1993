/- scc.Reached answers what P8.3 says, at every argument: foretelllaw.SccReacheds returns true. No condition. -/
import Derived.Test.YtkakmghadhafjaaRx2
import Derived.Test.YtkakmghadhafjaaMRounds
namespace Go.Proofs.Ytkakmghadhafjaa.Pure
open Go.RowKit Go.Proofs.Ytkakmghadhafjaa.R Go.Proofs.Ytkakmghadhafjaa.Base Go.Proofs.YtkakmghadhafjaaW.PrintWords Go.Proofs.YtkakmghadhafjaaW.PrintLast Go.Proofs.YtkakmghadhafjaaW.PrintMore
set_option linter.unusedVariables false
set_option linter.unusedSectionVars false
section
variable (spots : List S98) (init : Int) (next : List (List Int)) (sets : List Int) (many : Int) (frm : Int → Prop) (n : Nat) (hN : next.length = n) (hin : ∀ a, ∀ b ∈ rd_L3 next a, 0 ≤ b ∧ b < (n : Int)) (hf : ∀ x, frm x → 0 ≤ x ∧ x < (n : Int)) (hn : n ≤ 20000) (hl : ∀ a, (rd_L3 next a).length ≤ 9223372036854775807)
include hN hin hf hn hl
theorem start_search (I : Nat) (hI : I ≤ n) (hfi : ∀ x : Int, frm x ↔ 0 ≤ x ∧ x < (I : Int)) (d : Nat) : ∀ (j : Nat) (s : List Bool) (t : List Int), j + d = I → SInv next frm n (fun _ => False) s t → (∀ x : Int, 0 ≤ x → x < (j : Int) → tru s x) → meas s t ≤ n → Res next frm n (fun k => scc_Reached.l0 k s t j (I : Int) next) := by
  induction d with
  | zero =>
    intro j s t hj hS hb hm
    have c1 : ¬ (j : Int) < (I : Int) := by omega
    obtain ⟨r, hg, he⟩ := search_run next frm n hN hin hf hn hl n s t (Nat.le_refl _) hS (fun x hx => hb x ((hfi x).1 hx).1 (by have := ((hfi x).1 hx).2; omega)) hm
    refine ⟨r, hg, ev_succ ?_⟩
    simp only [scc_Reached.l0, ↓reduceIte, c1]
    exact he
  | succ d ih =>
    intro j s t hj hS hb hm
    have c1 : (j : Int) < (I : Int) := by omega
    have c2 : (0 : Int) ≤ (j : Int) := by omega
    have c3 : (j : Int) < (s.length : Int) := by rw [hS.len]; omega
    have c4 : t.length < 17592186044416 := by unfold meas at hm; omega
    have w1 : wrap64 ((j : Int) + 1) = ((j + 1 : Nat) : Int) := by rw [wrap_id (by omega) (by omega)]; rfl
    obtain ⟨r, hg, he⟩ := ih (j + 1) _ _ (by omega) (visit_inv next frm n hin hS c2 (by omega) (.start _ ((hfi _).2 ⟨c2, c1⟩))) (fun x hx hx' => by
      by_cases e : x = (j : Int)
      · rw [e]; exact visit_tru c2 c3
      · exact visit_mono c2 c3 hx (hb x hx (by omega))) (by rw [visit_meas c2 c3]; exact hm)
    refine ⟨r, hg, ev_succ ?_⟩
    simp only [scc_Reached.l0, ↓reduceIte, c1, c2, c3, c4, w1]
    exact he
theorem start_rounds (L : List Int) (hL : ∀ x, frm x ↔ x ∈ L) (hLl : L.length ≤ 9223372036854775807) (d : Nat) : ∀ (j : Nat) (st : List Int), j + d = L.length → RInv next frm n (fun _ => False) (fun x => x ∈ L.take j) st → Res next frm n (fun k => foretellref_reachedFrom.l0 k L st j spots init next sets many) := by
  induction d with
  | zero =>
    intro j st hj hS
    have c1 : ¬ (j : Int) < (L.length : Int) := by omega
    obtain ⟨r, hg, he⟩ := rounds_run spots init next sets many frm n hN hin hf hn hl n st ⟨hS.len, hS.val, hS.snd, hS.cl, fun x hx => hS.ini x (by rw [List.take_of_length_le (by omega)]; exact (hL x).1 hx)⟩ (by unfold left2; rw [hS.len]; omega)
    refine ⟨r, hg, ev_succ ?_⟩
    simp only [foretellref_reachedFrom.l0, ↓reduceIte, c1]
    exact he
  | succ d ih =>
    intro j st hj hS
    have hlt : j < L.length := by omega
    have hx : frm L[j] := (hL _).2 (List.getElem_mem hlt)
    obtain ⟨b0, b1⟩ := hf _ hx
    have b1' : L[j] < (st.length : Int) := by rw [hS.len]; exact b1
    have c1 : (j : Int) < (L.length : Int) := by omega
    have c2 : (0 : Int) ≤ (j : Int) := by omega
    have w1 : wrap64 ((j : Int) + 1) = ((j + 1 : Nat) : Int) := by rw [wrap_id (by omega) (by omega)]; rfl
    have mono : ∀ x : Int, 0 ≤ x → 0 < rd st x → 0 < rd (st.set (L[j]).toNat 1) x := fun x hx h => by
      rw [rd_set b0 b1' hx]; split <;> omega
    obtain ⟨r, hg, he⟩ := ih (j + 1) (st.set (L[j]).toNat 1) (by omega) ⟨by rw [List.length_set]; exact hS.len, fun x hx hx' => by
        have := hS.val x hx hx'
        rw [rd_set b0 b1' hx]; split <;> omega, fun x hx0 hx' h => by
        rw [rd_set b0 b1' hx0] at h
        split at h
        · rename_i e; rw [e]; exact .start _ hx
        · exact hS.snd x hx0 hx' h, fun a ha ha' hh => by
        rw [rd_set b0 b1' ha] at hh
        split at hh
        · omega
        · rcases hS.cl a ha ha' hh with c | c
          · exact .inl c
          · exact .inr fun b hb => mono b (hin a b hb).1 (c b hb), fun x hx' => by
        rw [List.take_succ_eq_append_getElem hlt] at hx'
        rcases List.mem_append.1 hx' with hx' | hx'
        · exact mono x (hf x ((hL x).2 (List.mem_of_mem_take hx'))).1 (hS.ini x hx')
        · rw [List.mem_singleton.1 hx', rd_set b0 b1' b0, if_pos rfl]; decide⟩
    refine ⟨r, hg, ev_succ ?_⟩
    simp only [foretellref_reachedFrom.l0, ↓reduceIte, c1, c2, rd_get L j hlt, b0, b1', w1]
    exact he
theorem reached_from (hs : spots.length = n) (L : List Int) (hL : ∀ x, frm x ↔ x ∈ L) (hLl : L.length ≤ 9223372036854775807) : Res next frm n (fun k => foretellref_reachedFrom.f k spots init next sets many L) := by
  obtain ⟨r, hg, he⟩ := start_rounds spots init next sets many frm n hN hin hf hn hl L hL hLl L.length 0 (List.replicate ((spots.length : Int)).toNat 0) (by omega) ⟨by simp [hs], fun x hx hx' => by
    unfold rd; rw [List.getD_eq_getElem?_getD, List.getElem?_replicate]; split <;> simp, fun x hx hx' h => by
    unfold rd at h; rw [List.getD_eq_getElem?_getD, List.getElem?_replicate] at h; split at h <;> simp at h, fun a ha ha' h => by
    unfold rd at h; rw [List.getD_eq_getElem?_getD, List.getElem?_replicate] at h; split at h <;> simp at h, fun x hx => by simp at hx⟩
  refine ⟨r, hg, ?_⟩
  unfold foretellref_reachedFrom.f
  have c1 : (0 : Int) ≤ (spots.length : Int) := by omega
  have c2 : ((spots.length : Int)).toNat ≤ 35184372088832 := by omega
  simp only [↓reduceIte, c1, c2]
  exact he
end
theorem rowIn_all {n : Int} {l : List Int} (h : rowIn n l = true) : ∀ b ∈ l, 0 ≤ b ∧ b < n := fun b hb => of_decide_eq_true (List.all_eq_true.1 h b hb)
theorem restIn_all {n p : Int} : ∀ {next : List (List Int)} {sets : List Int}, restIn n p next sets = true → next.length = sets.length → ∀ l ∈ next, ∀ b ∈ l, 0 ≤ b ∧ b < n
  | [], _, _, _ => fun l hl => by cases hl
  | l :: ls, s :: ss, h, e => by
    simp only [restIn, Bool.and_eq_true] at h
    intro x hx
    rcases List.mem_cons.1 hx with rfl | hx
    · exact rowIn_all h.1.1
    · exact restIn_all h.2 (by simpa using e) x hx
theorem rd_rows {next : List (List Int)} {Q : List Int → Prop} (h0 : Q []) (h : ∀ l ∈ next, Q l) (a : Int) : Q (rd_L3 next a) := by
  show Q (next.getD a.toNat [])
  rw [List.getD_eq_getElem?_getD]
  by_cases c : a.toNat < next.length
  · rw [List.getElem?_eq_getElem c]; exact h _ (List.getElem_mem c)
  · rw [List.getElem?_eq_none (by omega)]; exact h0
theorem same_truths (r : List Bool) (hr : r.length ≤ 20000) : Ev (fun k => foretelllaw_sameTruths.f k r r) true := by
  have loop : ∀ (d j : Nat), j + d = r.length → Ev (fun k => foretelllaw_sameTruths.l0 k r r j) true := by
    intro d
    induction d with
    | zero =>
      intro j hj
      have c1 : ¬ (j : Int) < (r.length : Int) := by omega
      refine ev_succ ?_
      simp only [foretelllaw_sameTruths.l0, ↓reduceIte, c1]
      exact Ev.now _
    | succ d ih =>
      intro j hj
      have c1 : (j : Int) < (r.length : Int) := by omega
      have c2 : (0 : Int) ≤ (j : Int) := by omega
      have w1 : wrap64 ((j : Int) + 1) = ((j + 1 : Nat) : Int) := by rw [wrap_id (by omega) (by omega)]; rfl
      refine ev_succ ?_
      simp only [foretelllaw_sameTruths.l0, ↓reduceIte, c1, c2, w1, bne_self_eq_false, Bool.false_eq_true]
      exact ih (j + 1) (by omega)
  unfold foretelllaw_sameTruths.f
  simp only [↓reduceIte]
  exact loop r.length 0 (by omega)
theorem first_ev (spots : List S98) (next : List (List Int)) (sets : List Int) (many : Int) (I : Nat) (hI : I ≤ 20000) (r : List Bool) (h : Ev (fun k => foretellref_reachedFrom.f k spots (I : Int) next sets many ((List.range I).map (fun i : Nat => (i : Int)))) r) (d : Nat) : ∀ j : Nat, j + d = I → Ev (fun k => foretellref_ReachedOf.l0 k ((List.range j).map (fun i : Nat => (i : Int))) j spots (I : Int) next sets many) (r, 0) := by
  induction d with
  | zero =>
    intro j hj
    obtain rfl : j = I := by omega
    have c1 : ¬ (j : Int) < (j : Int) := by omega
    refine ev_succ ?_
    simp only [foretellref_ReachedOf.l0, ↓reduceIte, c1]
    exact ev_bind h (ev_const (fun k => rfl))
  | succ d ih =>
    intro j hj
    have c1 : (j : Int) < (I : Int) := by omega
    have c2 : ((List.range j).map (fun i : Nat => (i : Int))).length < 17592186044416 := by simp; omega
    have w1 : wrap64 ((j : Int) + 1) = ((j + 1 : Nat) : Int) := by rw [wrap_id (by omega) (by omega)]; rfl
    refine ev_succ ?_
    simp only [foretellref_ReachedOf.l0, ↓reduceIte, c1, c2, w1]
    have := ih (j + 1) (by omega)
    rw [List.range_succ, List.map_append] at this
    exact this
theorem SccReacheds (x0 : S33) (good0 : G33 x0) : ∃ k, foretelllaw_SccReacheds.f k x0.f0 x0.f1 x0.f2 x0.f3 x0.f4 = some true := by
  refine Ev.rounds (g := fun k => foretelllaw_SccReacheds.f k x0.f0 x0.f1 x0.f2 x0.f3 x0.f4) ?_
  unfold foretelllaw_SccReacheds.f
  have hb := graph_len good0
  have HC := check_ev x0.f0 x0.f1 x0.f2 x0.f3 x0.f4 hb
  have HF := fault_ev x0.f0 x0.f1 x0.f2 x0.f3 x0.f4 hb
  refine ev_bind (graphs_ev x0 good0) ?_
  dsimp only
  by_cases hg : graphOK x0.f0.length x0.f1 x0.f2 x0.f3 x0.f4 = true
  · rw [hg] at HC HF
    unfold graphOK at hg
    rw [Bool.and_eq_true] at hg
    obtain ⟨⟨c1, c2, c3, c4, c5, c6, c7⟩, hr⟩ := And.imp_left of_decide_eq_true hg
    have hall := restIn_all hr (by omega)
    obtain ⟨I, hI⟩ : ∃ I : Nat, x0.f1 = (I : Int) := ⟨x0.f1.toNat, by omega⟩
    rw [hI] at HC HF ⊢
    have hN : x0.f2.length = x0.f0.length := by omega
    have hn : x0.f0.length ≤ 20000 := by omega
    have hIn : I ≤ x0.f0.length := by omega
    have hin : ∀ a, ∀ b ∈ rd_L3 x0.f2 a, 0 ≤ b ∧ b < (x0.f0.length : Int) := fun a => rd_rows (Q := fun l => ∀ b ∈ l, 0 ≤ b ∧ b < (x0.f0.length : Int)) (fun b hb => by cases hb) hall a
    have hl : ∀ a, (rd_L3 x0.f2 a).length ≤ 9223372036854775807 := fun a => rd_rows (Q := fun l => l.length ≤ 9223372036854775807) (by decide) hb a
    have hf : ∀ x : Int, (0 ≤ x ∧ x < (I : Int)) → 0 ≤ x ∧ x < (x0.f0.length : Int) := fun x h => by omega
    have hsz : ∀ x : Int, ¬ tru (List.replicate x0.f0.length false) x := fun x h => by
      unfold tru at h; rw [List.getD_eq_getElem?_getD, List.getElem?_replicate] at h; split at h <;> simp at h
    obtain ⟨r, g1, e1⟩ := start_search x0.f2 (fun x => 0 ≤ x ∧ x < (I : Int)) x0.f0.length hN hin hf hn hl I hIn (fun x => Iff.rfl) I 0 (List.replicate x0.f0.length false) [] (by omega) ⟨by simp, fun x _ _ h => absurd h (hsz x), (fun x hx => by simp at hx), fun a _ _ h => absurd h (hsz a)⟩ (fun x hx hx' => by omega) (by unfold meas; simp)
    obtain ⟨r', g2, e2⟩ := reached_from x0.f0 (I : Int) x0.f2 x0.f3 x0.f4 (fun x => 0 ≤ x ∧ x < (I : Int)) x0.f0.length hN hin hf hn hl rfl ((List.range I).map (fun i : Nat => (i : Int))) (fun x => by
      simp only [List.mem_map, List.mem_range]
      exact ⟨fun h => ⟨x.toNat, by omega, by omega⟩, fun ⟨i, h, e⟩ => by omega⟩) (by simp; omega)
    obtain rfl := good_eq x0.f2 _ x0.f0.length g1 g2
    have cap : x0.f0.length ≤ 140737488355328 := by omega
    refine ev_bind (a := (r, 0)) ?_ (ev_bind (a := (r, 0)) ?_ ?_)
    · unfold scc_Reached.f
      refine ev_bind HC ?_
      simp only [okErr, ↓reduceIte, cap]
      exact ev_bind e1 (ev_const (fun k => rfl))
    · unfold foretellref_ReachedOf.f
      refine ev_bind HF ?_
      simp only [okErr, ↓reduceIte]
      exact first_ev x0.f0 x0.f2 x0.f3 x0.f4 I (by omega) r e2 I 0 (by omega)
    · simp only [↓reduceIte]
      exact ev_bind (same_truths r (by rw [g1.1]; exact hn)) (ev_const (fun k => rfl))
  · have hg' : graphOK x0.f0.length x0.f1 x0.f2 x0.f3 x0.f4 = false := Bool.eq_false_iff.2 hg
    rw [hg'] at HC HF
    have n9 : ¬ (9 : Int) = 0 := by decide
    refine ev_bind (a := ([], 9)) ?_ (ev_bind (a := ([], 9)) ?_ ?_)
    · unfold scc_Reached.f
      refine ev_bind HC ?_
      simp only [okErr, Bool.false_eq_true, ↓reduceIte, n9]
      exact Ev.now _
    · unfold foretellref_ReachedOf.f
      refine ev_bind HF ?_
      simp only [okErr, Bool.false_eq_true, ↓reduceIte, n9]
      exact Ev.now _
    · simp only [↓reduceIte]
      exact ev_bind (same_truths [] (by decide)) (ev_const (fun k => rfl))
end Go.Proofs.Ytkakmghadhafjaa.Pure
