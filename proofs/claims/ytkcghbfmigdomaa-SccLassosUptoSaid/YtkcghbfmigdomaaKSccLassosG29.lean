import Derived.Test.YtkcghbfmigdomaaKSccLassosG27
import Derived.Test.YtkcghbfmigdomaaKSccLassosG28
-- Cut by a program of this session (wip/prune.py) from a longer text: declarations that the law does not need are left out.
namespace Go.Proofs.Ytkcghbfmigdomaa.Pure
open Go.RowKit Go.Proofs.Ytkcghbfmigdomaa.Q Go.Proofs.Ytkcghbfmigdomaa.Base Go.Proofs.YtkcghbfmigdomaaW.PrintWords Go.Proofs.YtkcghbfmigdomaaW.PrintLast Go.Proofs.YtkcghbfmigdomaaW.PrintMore
set_option linter.unusedVariables false
set_option linter.unusedSectionVars false
def fsum (next : List (List Int)) (cl : List (Int × Int)) : Nat := (cl.map (fun c => (((zAE next c.1).length : Int) - c.2 + 1).toNat)).sum
theorem fsum_last (next : List (List Int)) (cl : List (Int × Int)) (c : Int × Int) : fsum next (cl ++ [c]) = fsum next cl + (((zAE next c.1).length : Int) - c.2 + 1).toNat := by simp [fsum]
theorem opn_nodup {next : List (List Int)} {n : Nat} {s : Srch} (h : TInv next n s) : s.opn.Nodup := h.srt.imp (fun hlt e => by subst e; omega)
theorem len_le {n : Nat} {l : List Int} (hd : l.Nodup) (hb : ∀ x ∈ l, 0 ≤ x ∧ x < (n : Int)) : l.length ≤ n := by
 have h := hd.length_le_of_subset (l₂ := (List.range n).map (fun i : Nat => (i : Int))) (fun x hx => List.mem_map.2 ⟨x.toNat, List.mem_range.2 (by have := hb x hx; omega), by have := hb x hx; omega⟩)
 simpa using h
theorem opn_len {next : List (List Int)} {n : Nat} {s : Srch} (h : TInv next n s) : s.opn.length ≤ n := len_le (opn_nodup h) (fun x hx => ⟨((h.opn x).1 hx).1, ((h.opn x).1 hx).2.1⟩)
theorem calls_len {next : List (List Int)} {n : Nat} {s : Srch} (h : TInv next n s) : s.calls.length ≤ n := by
 have h1 : (s.calls.map Prod.fst).Nodup := List.pairwise_map.2 (h.frm.imp (fun hlt e => by rw [e] at hlt; omega))
 have := len_le (n := n) h1 (fun x hx => by
  obtain ⟨c, hc, rfl⟩ := List.mem_map.1 hx
  exact ⟨((h.opn c.1).1 (h.act c hc).1).1, ((h.opn c.1).1 (h.act c hc).1).2.1⟩)
 simpa using this
theorem safe_of {next : List (List Int)} {n : Nat} {s : Srch} (h : TInv next n s) (hm : s.met ≤ (n : Int)) : safeS next n s = true := by
 unfold safeS
 rw [Bool.and_eq_true, Bool.and_eq_true]
 refine ⟨⟨decide_eq_true ⟨h.lo, h.ll, h.lp, h.m0, hm, opn_len h, calls_len h⟩, List.all_eq_true.2 fun x hx => decide_eq_true ⟨((h.opn x).1 hx).1, ((h.opn x).1 hx).2.1⟩⟩, List.all_eq_true.2 fun c hc => decide_eq_true ?_⟩
 obtain ⟨h1, h2, h3⟩ := h.act c hc
 exact ⟨((h.opn c.1).1 h1).1, ((h.opn c.1).1 h1).2.1, h1, h2, h3⟩
section
variable {next : List (List Int)} {n : Nat} {s : Srch} (h : TInv next n s) {cl : List (Int × Int)} {a j : Int} (hcl : s.calls = cl ++ [(a, j)])
include h hcl
theorem cl_lt : ∀ c ∈ cl, rd s.order c.1 < rd s.order a := fun c hc => by
 have hf := h.frm
 rw [hcl, List.pairwise_append] at hf
 exact hf.2.2 c hc (a, j) (by simp)
theorem cl_ne : ∀ c ∈ cl, c.1 ≠ a := fun c hc e => by
 have := cl_lt h hcl c hc
 rw [e] at this
 omega
theorem a_opn : a ∈ s.opn ∧ 0 ≤ j ∧ j ≤ ((zAE next a).length : Int) := h.act (a, j) (by rw [hcl]; simp)
theorem looked_new (j1 : j < ((zAE next a).length : Int)) (s' : Srch) (hs' : s'.calls = cl ++ [(a, j + 1)]) (x : Int) (b : Int) (hl : Looked next s' x b) : Looked next s x b ∨ (x = a ∧ b = rd (zAE next a) j) := by
 obtain ⟨hb, hl⟩ := hl
 have j0 := (a_opn h hcl).2.1
 by_cases e : x = a
 ·subst e
  have h1 := hl (x, j + 1) (by rw [hs']; simp) rfl
  have e1 : (j + 1).toNat = j.toNat + 1 := by omega
  have hlt : j.toNat < (zAE next x).length := by omega
  dsimp only at h1
  rw [e1, List.take_succ_eq_append_getElem hlt] at h1
  rcases List.mem_append.1 h1 with h1 | h1
  ·refine .inl ⟨hb, fun c hc ec => ?_⟩
   rw [hcl] at hc
   rcases List.mem_append.1 hc with hc | hc
   ·exact absurd ec (cl_ne h hcl c hc)
   ·rw [List.mem_singleton.1 hc]; exact h1
  ·refine .inr ⟨rfl, ?_⟩
   rw [List.mem_singleton.1 h1]
   have := rd_get (zAE next x) j.toNat hlt
   rw [Int.toNat_of_nonneg j0] at this
   exact this.symm
 ·refine .inl ⟨hb, fun c hc ec => ?_⟩
  rw [hcl] at hc
  rcases List.mem_append.1 hc with hc | hc
  ·exact hl c (by rw [hs']; exact List.mem_append_left _ hc) ec
  ·rw [List.mem_singleton.1 hc] at ec
   exact absurd ec.symm e
theorem fst_same : (cl ++ [(a, j + 1)]).map Prod.fst = s.calls.map Prod.fst := by rw [hcl]; simp
theorem cl_bd (j1 : j < ((zAE next a).length : Int)) : ∀ c ∈ cl ++ [(a, j + 1)], 0 ≤ c.2 ∧ c.2 ≤ ((zAE next c.1).length : Int) := fun c hc => by
 rcases List.mem_append.1 hc with hc | hc
 ·exact (h.act c (by rw [hcl]; exact List.mem_append_left _ hc)).2
 ·rw [List.mem_singleton.1 hc]
  have := (a_opn h hcl).2.1
  dsimp only
  omega
theorem row_mem (j1 : j < ((zAE next a).length : Int)) : rd (zAE next a) j ∈ zAE next a := by
 have j0 := (a_opn h hcl).2.1
 have hlt : j.toNat < (zAE next a).length := by omega
 have := rd_get (zAE next a) j.toNat hlt
 rw [Int.toNat_of_nonneg j0] at this
 rw [this]
 exact List.getElem_mem hlt
theorem goOn_last : goOnS next s = (if j = ((zAE next a).length : Int) then leaveS s a
  else if rd s.order (rd (zAE next a) j) = 0 then enterS { s with calls := cl ++ [(a, j + 1)] } (rd (zAE next a) j)
  else if rd s.part (rd (zAE next a) j) < 0 then { s with calls := cl ++ [(a, j + 1)], low := s.low.set a.toNat (min (rd s.low a) (rd s.order (rd (zAE next a) j))) }
  else { s with calls := cl ++ [(a, j + 1)] }) := by
 unfold goOnS
 rw [hcl]
 simp
theorem goOn_enter (hin : ∀ a, ∀ b ∈ zAE next a, 0 ≤ b ∧ b < (n : Int)) (j1 : j < ((zAE next a).length : Int)) (hu : rd s.order (rd (zAE next a) j) = 0) : TInv next n (enterS { s with calls := cl ++ [(a, j + 1)] } (rd (zAE next a) j)) := by
 have hmem := row_mem h hcl j1
 obtain ⟨k0, k1⟩ := hin a _ hmem
 refine enter_inv h hin _ k0 k1 hu _ (fst_same h hcl) (cl_bd h hcl j1) (fun x hx b hl => (looked_new h hcl j1 _ rfl x b hl).imp id And.right) (fun c hc => ?_)
 have hao := (a_opn h hcl).1
 have hca : Leads next c.1 a := by
  rcases List.mem_append.1 hc with hc | hc
  ·exact h.dsc a hao c (by rw [hcl]; exact List.mem_append_left _ hc) (Int.le_of_lt (cl_lt h hcl c hc))
  ·rw [List.mem_singleton.1 hc]; exact .refl _ _
 exact .step _ _ hca hmem
theorem part_neg (x : Int) (x0 : 0 ≤ x) (x1 : x < (n : Int)) (hin : ∀ a, ∀ b ∈ zAE next a, 0 ≤ b ∧ b < (n : Int)) : rd s.part x < 0 ↔ rd s.part x = -1 := by
 refine ⟨fun hp => ?_, fun e => by omega⟩
 apply Classical.byContradiction
 intro hne
 have hl := (h.don x x0 x1 hne).1
 have := reach_in next (fun z => z = x) n hin (fun z e => by subst e; exact ⟨x0, x1⟩) hl.1.1
 omega
theorem goOn_low (hin : ∀ a, ∀ b ∈ zAE next a, 0 ≤ b ∧ b < (n : Int)) (j1 : j < ((zAE next a).length : Int)) (hu : rd s.order (rd (zAE next a) j) ≠ 0) (hp : rd s.part (rd (zAE next a) j) < 0) : TInv next n { s with calls := cl ++ [(a, j + 1)], low := s.low.set a.toNat (min (rd s.low a) (rd s.order (rd (zAE next a) j))) } := by
 have hmem := row_mem h hcl j1
 obtain ⟨k0, k1⟩ := hin a _ hmem
 have hao := (a_opn h hcl).1
 obtain ⟨a0, a1, _, _⟩ := (h.opn a).1 hao
 have hk : rd (zAE next a) j ∈ s.opn := (h.opn _).2 ⟨k0, k1, hu, (part_neg h hcl _ k0 k1 hin).1 hp⟩
 have hL : ∀ x : Int, 0 ≤ x → rd (s.low.set a.toNat (min (rd s.low a) (rd s.order (rd (zAE next a) j)))) x = if x = a then min (rd s.low a) (rd s.order (rd (zAE next a) j)) else rd s.low x := fun x hx => rd_set a0 (by rw [h.ll]; exact a1) hx
 refine look_inv h a (rd (zAE next a) j) _ _ (fst_same h hcl) (cl_bd h hcl j1) (fun x hx b hl => looked_new h hcl j1 _ rfl x b hl) ⟨(a, j), by rw [hcl]; simp, rfl⟩ (by rw [List.length_set]; exact h.ll) (fun x hx hne => by rw [hL x ((h.opn x).1 hx).1, if_neg hne]) (by rw [hL a a0, if_pos rfl]; exact Int.min_le_left _ _) ?_ ⟨hu, fun _ => by rw [hL a a0, if_pos rfl]; exact Int.min_le_right _ _⟩
 rw [hL a a0, if_pos rfl]
 by_cases c : rd s.low a ≤ rd s.order (rd (zAE next a) j)
 ·rw [Int.min_eq_left c]
  exact (h.low a hao).2
 ·rw [Int.min_eq_right (by omega)]
  exact ⟨_, hk, rfl, .step _ _ (Leads.refl _ _) hmem⟩
theorem goOn_past (hin : ∀ a, ∀ b ∈ zAE next a, 0 ≤ b ∧ b < (n : Int)) (j1 : j < ((zAE next a).length : Int)) (hu : rd s.order (rd (zAE next a) j) ≠ 0) (hp : ¬ rd s.part (rd (zAE next a) j) < 0) : TInv next n { s with calls := cl ++ [(a, j + 1)] } := by
 have hao := (a_opn h hcl).1
 exact look_inv h a (rd (zAE next a) j) _ s.low (fst_same h hcl) (cl_bd h hcl j1) (fun x hx b hl => looked_new h hcl j1 _ rfl x b hl) ⟨(a, j), by rw [hcl]; simp, rfl⟩ h.ll (fun x hx hne => rfl) (Int.le_refl _) (h.low a hao).2 ⟨hu, fun hk => absurd ((h.opn _).1 hk).2.2.2 (by omega)⟩
omit h hcl in
theorem foldl_min (l : List Int) : ∀ m : Int, l.foldl min m ≤ m ∧ (∀ x ∈ l, l.foldl min m ≤ x) ∧ (l.foldl min m = m ∨ l.foldl min m ∈ l) := by
 induction l with
 | nil => intro m; exact ⟨Int.le_refl _, fun x hx => (by cases hx), .inl rfl⟩
 | cons a l ih =>
  intro m
  obtain ⟨h1, h2, h3⟩ := ih (min m a)
  refine ⟨Int.le_trans h1 (Int.min_le_left _ _), fun x hx => ?_, ?_⟩
  ·rcases List.mem_cons.1 hx with rfl | hx
   ·exact Int.le_trans h1 (Int.min_le_right _ _)
   ·exact h2 x hx
  ·show l.foldl min (min m a) = m ∨ l.foldl min (min m a) ∈ a :: l
   rcases h3 with h3 | h3
   ·rw [h3]
    by_cases c : m ≤ a
    ·exact .inl (Int.min_eq_left c)
    ·rw [Int.min_eq_right (by omega)]; exact .inr (by simp)
   ·exact .inr (List.mem_cons_of_mem _ h3)
omit h hcl in
theorem foldl_put (m : Int) (l : List Int) : ∀ p : List Int, (∀ x ∈ l, 0 ≤ x ∧ x < (p.length : Int)) → (l.foldl (fun p k => p.set k.toNat m) p).length = p.length ∧ ∀ x : Int, 0 ≤ x → rd (l.foldl (fun p k => p.set k.toNat m) p) x = if x ∈ l then m else rd p x := by
 induction l with
 | nil => intro p _; exact ⟨rfl, fun x _ => by simp⟩
 | cons a l ih =>
  intro p hb
  obtain ⟨a0, a1⟩ := hb a (by simp)
  obtain ⟨h1, h2⟩ := ih (p.set a.toNat m) (fun x hx => by rw [List.length_set]; exact hb x (by simp [hx]))
  refine ⟨by rw [List.foldl_cons, h1, List.length_set], fun x hx => ?_⟩
  rw [List.foldl_cons, h2 x hx, rd_set a0 a1 hx]
  by_cases c : x ∈ l
  ·simp [c]
  ·by_cases c' : x = a
   ·simp [c']
   ·simp [c, c']
theorem goOn_leave (hin : ∀ a, ∀ b ∈ zAE next a, 0 ≤ b ∧ b < (n : Int)) (hj : j = ((zAE next a).length : Int)) : TInv next n (leaveS s a) := by
 have hao := (a_opn h hcl).1
 obtain ⟨a0, a1, _, _⟩ := (h.opn a).1 hao
 have hdl : s.calls.dropLast = cl := by rw [hcl]; simp
 have whole : ∀ low', low' = s.low → rd s.low a = rd s.order a → TInv next n { s with calls := cl, low := low', part := (segS s.opn a).foldl (fun p k => p.set k.toNat ((segS s.opn a).foldl min a)) s.part, opn := s.opn.take (s.opn.length - (segS s.opn a).length) } := by
  rintro low' rfl hlow
  obtain ⟨hsp, hsl⟩ := take_until s.opn a hao
  have hseg : ∀ x ∈ segS s.opn a, x ∈ s.opn := fun x hx => by rw [hsp]; exact List.mem_append_right _ hx
  obtain ⟨f1, f2⟩ := foldl_put ((segS s.opn a).foldl min a) (segS s.opn a) s.part (fun x hx => by
   rw [h.lp]; exact ⟨((h.opn x).1 (hseg x hx)).1, ((h.opn x).1 (hseg x hx)).2.1⟩)
  obtain ⟨m1, m2, m3⟩ := foldl_min (segS s.opn a) a
  have hamem : a ∈ segS s.opn a := by unfold segS; simp
  have hmm : (segS s.opn a).foldl min a ∈ segS s.opn a := m3.elim (fun e => by rw [e]; exact hamem) id
  have hsrt := h.srt
  rw [hsp, List.pairwise_append] at hsrt
  have htail : ∀ x ∈ segS s.opn a, rd s.order a ≤ rd s.order x := fun x hx => by
   have h2 := hsrt.2.1
   have e : segS s.opn a = a :: (s.opn.reverse.takeWhile (fun k => decide (k ≠ a))).reverse := rfl
   rw [e] at h2 hx
   rcases List.mem_cons.1 hx with rfl | hx
   ·exact Int.le_refl _
   ·exact Int.le_of_lt ((List.pairwise_cons.1 h2).1 x hx)
  refine whole_inv h hin a j ((segS s.opn a).foldl min a) cl (s.opn.take (s.opn.length - (segS s.opn a).length)) (segS s.opn a) _ hcl hj hlow hsp (fun x hx => hsrt.2.2 x hx a hamem) htail (by rw [f1]; exact h.lp) (fun x hx => by rw [f2 x ((h.opn x).1 (hseg x hx)).1, if_pos hx]) (fun x hx hx' hns => by rw [f2 x hx, if_neg hns]) ((h.opn _).1 (hseg _ hmm)).1 hmm m2
 unfold leaveS
 rw [hdl]
 rcases List.eq_nil_or_concat cl with rfl | ⟨cl', ⟨u, ju⟩, e⟩
 ·have e1 : lowUp s.low [] a = s.low := rfl
  have hlow : rd s.low a = rd s.order a := by
   obtain ⟨h1, y, hy, h2, _⟩ := h.low a hao
   obtain ⟨c, hc, h3⟩ := h.abv y hy
   rw [hcl] at hc
   have hc : c = (a, j) := by simpa using hc
   rw [hc] at h3
   dsimp only at h3
   omega
  simp only [e1]
  rw [if_pos hlow]
  exact whole s.low rfl hlow
 ·rw [List.concat_eq_append] at e
  subst e
  have huc : (u, ju) ∈ s.calls := by rw [hcl]; simp
  have huo := (h.act _ huc).1
  obtain ⟨u0, u1, _, _⟩ := (h.opn u).1 huo
  have hua : rd s.order u < rd s.order a := cl_lt h hcl (u, ju) (by simp)
  have hne : a ≠ u := fun e => by rw [e] at hua; omega
  have e1 : lowUp s.low (cl' ++ [(u, ju)]) a = s.low.set u.toNat (min (rd s.low u) (rd s.low a)) := by unfold lowUp; simp
  have hL : ∀ x : Int, 0 ≤ x → rd (s.low.set u.toNat (min (rd s.low u) (rd s.low a))) x = if x = u then min (rd s.low u) (rd s.low a) else rd s.low x := fun x hx => rd_set u0 (by rw [h.ll]; exact u1) hx
  have hLa : rd (s.low.set u.toNat (min (rd s.low u) (rd s.low a))) a = rd s.low a := by rw [hL a a0, if_neg hne]
  simp only [e1, hLa]
  by_cases hlow : rd s.low a = rd s.order a
  ·rw [if_pos hlow]
   have hid : s.low.set u.toNat (min (rd s.low u) (rd s.low a)) = s.low := by
    have := (h.low u huo).1
    rw [Int.min_eq_left (by omega)]
    have hlt : u.toNat < s.low.length := by rw [h.ll]; omega
    have e := rd_get s.low u.toNat hlt
    rw [Int.toNat_of_nonneg u0] at e
    rw [e]
    exact List.set_getElem_self hlt
   exact whole _ hid hlow
  ·rw [if_neg hlow]
   have := (h.low a hao).1
   refine leave_inv h a u j ju cl' _ hcl hj (by omega) (by rw [List.length_set]; exact h.ll) (fun x hx hxu => by rw [hL x ((h.opn x).1 hx).1, if_neg hxu]) (by rw [hL u u0, if_pos rfl])
theorem goOn_inv (hin : ∀ a, ∀ b ∈ zAE next a, 0 ≤ b ∧ b < (n : Int)) : TInv next n (goOnS next s) := by
 obtain ⟨_, j0, j1⟩ := a_opn h hcl
 rw [goOn_last h hcl]
 split
 ·rename_i e; exact goOn_leave h hcl hin e
 ·rename_i e
  have j2 : j < ((zAE next a).length : Int) := by omega
  split
  ·rename_i e2; exact goOn_enter h hcl hin j2 e2
  ·rename_i e2
   split
   ·rename_i e3; exact goOn_low h hcl hin j2 e2 e3
   ·rename_i e3; exact goOn_past h hcl hin j2 e2 e3
end
theorem enter_count {s : Srch} {i : Int} (h0 : 0 ≤ i) (h1 : i < (s.order.length : Int)) (hm : 0 ≤ s.met) (hu : rd s.order i = 0) : (enterS s i).order.count 0 + 1 = s.order.count 0 := by
 have hlt : i.toNat < s.order.length := by omega
 have hv : s.order[i.toNat] = 0 := by
  have := rd_get s.order i.toNat hlt
  rw [Int.toNat_of_nonneg h0] at this
  rw [← this]; exact hu
 have hp : 0 < s.order.count 0 := List.count_pos_iff.2 (hv ▸ List.getElem_mem hlt)
 have hne : ¬ s.met + 1 = 0 := by omega
 show (s.order.set i.toNat (s.met + 1)).count 0 + 1 = _
 rw [List.count_set hlt, hv]
 simp [hne]
 omega
structure SGood (next : List (List Int)) (n : Nat) (s : Srch) : Prop where
 inv : TInv next n s
 cnt : s.met + (s.order.count 0 : Int) = (n : Int)
theorem SGood.safe {next : List (List Int)} {n : Nat} {s : Srch} (h : SGood next n s) : safeS next n s = true := safe_of h.inv (by have := h.cnt; omega)
theorem leaveS_rest (s : Srch) (a : Int) : (leaveS s a).order = s.order ∧ (leaveS s a).met = s.met ∧ (leaveS s a).calls = s.calls.dropLast := by
 unfold leaveS
 dsimp only
 split <;> exact ⟨rfl, rfl, rfl⟩
theorem goOn_good {next : List (List Int)} {n : Nat} {s : Srch} (h : SGood next n s) (hin : ∀ a, ∀ b ∈ zAE next a, 0 ≤ b ∧ b < (n : Int)) (hc : s.calls ≠ []) : SGood next n (goOnS next s) ∧ ((goOnS next s).order.count 0 < s.order.count 0 ∨ ((goOnS next s).order.count 0 = s.order.count 0 ∧ fsum next (goOnS next s).calls < fsum next s.calls)) := by
 rcases List.eq_nil_or_concat s.calls with e | ⟨cl, ⟨a, j⟩, e⟩
 ·exact absurd e hc
 have hcl : s.calls = cl ++ [(a, j)] := by rw [e]; simp
 have hi := goOn_inv h.inv hcl hin
 obtain ⟨_, j0, j1⟩ := a_opn h.inv hcl
 have key : ((goOnS next s).met + ((goOnS next s).order.count 0 : Int) = s.met + (s.order.count 0 : Int)) ∧ ((goOnS next s).order.count 0 < s.order.count 0 ∨ ((goOnS next s).order.count 0 = s.order.count 0 ∧ fsum next (goOnS next s).calls < fsum next s.calls)) := by
  rw [goOn_last h.inv hcl]
  split
  ·rename_i e
   obtain ⟨h1, h2, h3⟩ := leaveS_rest s a
   rw [h1, h2, h3, hcl]
   refine ⟨rfl, .inr ⟨rfl, ?_⟩⟩
   rw [fsum_last]
   simp
   omega
  ·rename_i e
   have j2 : j < ((zAE next a).length : Int) := by omega
   have hless : fsum next (cl ++ [(a, j + 1)]) < fsum next s.calls := by
    rw [hcl, fsum_last, fsum_last]
    dsimp only
    omega
   split
   ·rename_i e2
    obtain ⟨k0, k1⟩ := hin a _ (row_mem h.inv hcl j2)
    have hc := enter_count (s := { s with calls := cl ++ [(a, j + 1)] }) k0 (by show _ < (s.order.length : Int); rw [h.inv.lo]; exact k1) h.inv.m0 e2
    have hc : (enterS { s with calls := cl ++ [(a, j + 1)] } (rd (zAE next a) j)).order.count 0 + 1 = s.order.count 0 := hc
    refine ⟨?_, .inl (by omega)⟩
    show s.met + 1 + _ = _
    omega
   ·split
    ·exact ⟨rfl, .inr ⟨rfl, hless⟩⟩
    ·exact ⟨rfl, .inr ⟨rfl, hless⟩⟩
 exact ⟨⟨hi, by rw [key.1]; exact h.cnt⟩, key.2⟩
theorem enter_good {next : List (List Int)} {n : Nat} {s : Srch} (h : SGood next n s) (hin : ∀ a, ∀ b ∈ zAE next a, 0 ≤ b ∧ b < (n : Int)) (hc : s.calls = []) {i : Int} (i0 : 0 ≤ i) (i1 : i < (n : Int)) (hu : rd s.order i = 0) : SGood next n (enterS s i) := by
 have hs : { s with calls := [] } = s := by rw [← hc]
 have hno : ∀ x, x ∉ s.opn := fun x hx => by
  obtain ⟨c, hc', _⟩ := h.inv.abv x hx
  rw [hc] at hc'; cases hc'
 have := enter_inv h.inv hin i i0 i1 hu [] (by rw [hc]) (fun c hc => by cases hc) (fun x hx => absurd hx (hno x)) (fun c hc => by cases hc)
 rw [hs] at this
 refine ⟨this, ?_⟩
 have hcn := enter_count (s := s) i0 (by rw [h.inv.lo]; exact i1) h.inv.m0 hu
 have := h.cnt
 show s.met + 1 + _ = _
 omega
theorem rep0 (n : Nat) (v x : Int) (x0 : 0 ≤ x) (x1 : x < (n : Int)) : rd (List.replicate n v) x = v := by
 unfold rd
 rw [List.getD_eq_getElem?_getD, List.getElem?_replicate, if_pos (by omega)]
 rfl
theorem begin_good (next : List (List Int)) (n : Nat) : SGood next n ⟨List.replicate n 0, List.replicate n 0, List.replicate n (-1), [], [], 0⟩ := by
 refine ⟨⟨by simp, by simp, by simp, Int.le_refl _, fun x h0 h1 => by rw [rep0 n 0 x h0 h1]; exact ⟨Int.le_refl _, Int.le_refl _⟩, fun x y h0 h1 _ _ h => absurd (rep0 n 0 x h0 h1) h, fun x h0 h1 _ => rep0 n (-1) x h0 h1, fun x => ⟨fun h => (nomatch h), fun ⟨h0, h1, h2, _⟩ => absurd (rep0 n 0 x h0 h1) h2⟩, List.Pairwise.nil, fun x h0 h1 h2 => absurd (rep0 n (-1) x h0 h1) h2, fun c h => (nomatch h), List.Pairwise.nil, fun x h => (nomatch h), fun x h => (nomatch h), fun x h => (nomatch h), fun x h => (nomatch h), fun x h => (nomatch h)⟩, by simp⟩
theorem end_good {next : List (List Int)} {n : Nat} {s : Srch} (h : SGood next n s) (hc : s.calls = []) (hall : ∀ x : Int, 0 ≤ x → x < (n : Int) → rd s.order x ≠ 0) : GoodP next n s.part := by
 refine ⟨h.inv.lp, fun x x0 x1 => (h.inv.don x x0 x1 (fun e => ?_)).1⟩
 obtain ⟨c, hc', _⟩ := h.inv.abv x ((h.inv.opn x).2 ⟨x0, x1, hall x x0 x1, e⟩)
 rw [hc] at hc'; cases hc'
end Go.Proofs.Ytkcghbfmigdomaa.Pure
-- Cut by a program of this session (wip/prune.py) from a longer text: declarations that the law does not need are left out.
namespace Go.Proofs.Ytkcghbfmigdomaa.Pure
open Go.RowKit Go.Proofs.Ytkcghbfmigdomaa.Q Go.Proofs.Ytkcghbfmigdomaa.Base Go.Proofs.YtkcghbfmigdomaaW.PrintWords Go.Proofs.YtkcghbfmigdomaaW.PrintLast Go.Proofs.YtkcghbfmigdomaaW.PrintMore
set_option linter.unusedVariables false
set_option linter.unusedSectionVars false
section
variable {next : List (List Int)} {n : Nat} (hin : ∀ a, ∀ b ∈ zAE next a, 0 ≤ b ∧ b < (n : Int))
include hin
theorem goOn_keeps {s : Srch} (h : SGood next n s) (hc : s.calls ≠ []) (x : Int) (x0 : 0 ≤ x) (hx : rd s.order x ≠ 0) : rd (goOnS next s).order x ≠ 0 := by
 rcases List.eq_nil_or_concat s.calls with e | ⟨cl, ⟨a, j⟩, e⟩
 ·exact absurd e hc
 have hcl : s.calls = cl ++ [(a, j)] := by rw [e]; simp
 obtain ⟨_, j0, j1⟩ := a_opn h.inv hcl
 rw [goOn_last h.inv hcl]
 split
 ·rw [(leaveS_rest s a).1]; exact hx
 ·rename_i hj
  obtain ⟨k0, k1⟩ := hin a _ (row_mem h.inv hcl (by omega))
  split
  ·show rd (s.order.set (rd (zAE next a) j).toNat (s.met + 1)) x ≠ 0
   rw [rd_set k0 (by rw [h.inv.lo]; exact k1) x0]
   split
   ·have := h.inv.m0; omega
   ·exact hx
  ·split <;> exact hx
omit hin in
theorem enter_keeps {s : Srch} (h : SGood next n s) {i : Int} (i0 : 0 ≤ i) (i1 : i < (n : Int)) (x : Int) (x0 : 0 ≤ x) (hx : x = i ∨ rd s.order x ≠ 0) : rd (enterS s i).order x ≠ 0 := by
 show rd (s.order.set i.toNat (s.met + 1)) x ≠ 0
 rw [rd_set i0 (by rw [h.inv.lo]; exact i1) x0]
 split
 ·have := h.inv.m0; omega
 ·rename_i e
  exact hx.resolve_left e
theorem l1_run (i : Int) (hq : ∀ s, SGood next n s → s.calls = [] → (∀ x : Int, 0 ≤ x → x ≤ i → rd s.order x ≠ 0) → ∃ r, GoodP next n r ∧ Ev (fun k => zAP.l0 k s (i + 1) (n : Int) next) r) :
  ∀ (c f : Nat) (s : Srch), s.order.count 0 = c → fsum next s.calls = f → SGood next n s → (∀ x : Int, 0 ≤ x → x ≤ i → rd s.order x ≠ 0) → ∃ r, GoodP next n r ∧ Ev (fun k => zAP.l1 k s i (n : Int) next) r := by
 intro c
 induction c using Nat.strongRecOn with
 | _ c ihc =>
  intro f
  induction f using Nat.strongRecOn with
  | _ f ihf =>
   intro s ec ef h ho
   have hs := h.safe
   by_cases hc : s.calls = []
   ·obtain ⟨r, hg, he⟩ := hq s h hc ho
    have he1 : s.calls.isEmpty = true := by rw [hc]; rfl
    refine ⟨r, hg, ev_succ ?_⟩
    simp only [zAP.l1, Int.toNat_natCast, hs, he1, ↓reduceIte]
    exact he
   ·obtain ⟨g1, g2⟩ := goOn_good h hin hc
    have hk : ∀ x : Int, 0 ≤ x → x ≤ i → rd (goOnS next s).order x ≠ 0 := fun x x0 x1 => goOn_keeps hin h hc x x0 (ho x x0 x1)
    have he1 : s.calls.isEmpty = false := Bool.eq_false_iff.2 (fun e => hc (List.isEmpty_iff.1 e))
    have hr : ∃ r, GoodP next n r ∧ Ev (fun k => zAP.l1 k (goOnS next s) i (n : Int) next) r := by
     rcases g2 with g2 | ⟨g2, g3⟩
     ·exact ihc _ (by omega) _ _ rfl rfl g1 hk
     ·exact ihf _ (by omega) _ (by omega) rfl g1 hk
    obtain ⟨r, hg, he⟩ := hr
    refine ⟨r, hg, ev_succ ?_⟩
    simp only [zAP.l1, Int.toNat_natCast, hs, he1, ↓reduceIte, Bool.false_eq_true]
    exact he
theorem l0_run (d : Nat) : ∀ i : Nat, i + d = n → ∀ s, SGood next n s → s.calls = [] → (∀ x : Int, 0 ≤ x → x < (i : Int) → rd s.order x ≠ 0) → ∃ r, GoodP next n r ∧ Ev (fun k => zAP.l0 k s (i : Int) (n : Int) next) r := by
 induction d with
 | zero =>
  intro i hi s h hc ho
  have hs := h.safe
  have c1 : ¬ (i : Int) < (n : Int) := by omega
  refine ⟨s.part, end_good h hc (fun x x0 x1 => ho x x0 (by omega)), ev_succ ?_⟩
  simp only [zAP.l0, Int.toNat_natCast, hs, c1, ↓reduceIte]
  exact ev_const (fun k => rfl)
 | succ d ih =>
  intro i hi s h hc ho
  have hs := h.safe
  have c1 : (i : Int) < (n : Int) := by omega
  have c2 : (0 : Int) ≤ (i : Int) := by omega
  have he1 : s.calls.isEmpty = true := by rw [hc]; rfl
  have hq : ∀ s, SGood next n s → s.calls = [] → (∀ x : Int, 0 ≤ x → x ≤ (i : Int) → rd s.order x ≠ 0) → ∃ r, GoodP next n r ∧ Ev (fun k => zAP.l0 k s ((i : Int) + 1) (n : Int) next) r := fun s h hc ho => ih (i + 1) (by omega) s h hc (fun x x0 x1 => ho x x0 (by omega))
  have hr : ∃ r, GoodP next n r ∧ Ev (fun k => zAP.l1 k (if rd s.order (i : Int) = 0 then enterS s (i : Int) else s) (i : Int) (n : Int) next) r := by
   by_cases hu : rd s.order (i : Int) = 0
   ·rw [if_pos hu]
    exact l1_run hin (i : Int) hq _ _ _ rfl rfl (enter_good h hin hc c2 c1 hu) (fun x x0 x1 => enter_keeps h c2 c1 x x0 ((Classical.em (x = (i : Int))).imp id (fun e => ho x x0 (by omega))))
   ·rw [if_neg hu]
    exact l1_run hin (i : Int) hq _ _ _ rfl rfl h (fun x x0 x1 => by
     by_cases e : x = (i : Int)
     ·rw [e]; exact hu
     ·exact ho x x0 (by omega))
  obtain ⟨r, hg, he⟩ := hr
  refine ⟨r, hg, ev_succ ?_⟩
  simp only [zAP.l0, Int.toNat_natCast, hs, he1, c1, c2, ↓reduceIte]
  exact he
theorem parts_run : ∃ r, GoodP next n r ∧ Ev (fun k => zAP.l0 k ⟨List.replicate n 0, List.replicate n 0, List.replicate n (-1), [], [], 0⟩ 0 (n : Int) next) r :=
 l0_run hin n 0 (by omega) _ (begin_good next n) rfl (fun x x0 x1 => by omega)
end
end Go.Proofs.Ytkcghbfmigdomaa.Pure
namespace Go.Proofs.Ytkcghbfmigdomaa.Pure
open Go.RowKit Go.Proofs.Ytkcghbfmigdomaa.Q Go.Proofs.Ytkcghbfmigdomaa.Base Go.Proofs.YtkcghbfmigdomaaW.PrintWords Go.Proofs.YtkcghbfmigdomaaW.PrintLast Go.Proofs.YtkcghbfmigdomaaW.PrintMore
set_option linter.unusedVariables false
structure GraphIs (g : S26) : Prop where
 ns : g.f2.length = g.f0.length
 nt : g.f3.length = g.f0.length
 n : g.f0.length ≤ 20000
 i0 : 0 ≤ g.f1
 i1 : g.f1 ≤ (g.f0.length : Int)
 m0 : 0 ≤ g.f4
 m1 : g.f4 ≤ 6
 inn : ∀ a, ∀ b ∈ zAE g.f2 a, 0 ≤ b ∧ b < (g.f0.length : Int)
 row : ∀ l ∈ g.f2, ∀ b ∈ l, 0 ≤ b ∧ b < (g.f0.length : Int)
theorem graphIs {g : S26} (hg : graphOK g.f0.length g.f1 g.f2 g.f3 g.f4 = true) : GraphIs g := by
 unfold graphOK at hg
 rw [Bool.and_eq_true] at hg
 obtain ⟨h1, h2⟩ := hg
 have h1 := of_decide_eq_true h1
 have hr := restIn_all h2 (by omega)
 exact ⟨by omega, by omega, by omega, by omega, by omega, by omega, by omega, fun a => rd_rows (Q := fun l => ∀ b ∈ l, 0 ≤ b ∧ b < (g.f0.length : Int)) (fun b hb => by cases hb) hr a, hr⟩
theorem rowsOK_of {g : S26} (h : GraphIs g) (hb : ∀ l ∈ g.f2, l.length ≤ 4611686018427387904) : rowsOK g.f0.length g.f2 = true := by
 unfold rowsOK
 rw [Bool.and_eq_true]
 refine ⟨decide_eq_true ⟨h.ns, h.n⟩, List.all_eq_true.2 fun l hl => ?_⟩
 rw [Bool.and_eq_true]
 exact ⟨decide_eq_true (hb l hl), List.all_eq_true.2 fun b hm => decide_eq_true (h.row l hl b hm)⟩
theorem parts_both {g : S26} (good : G26 g) (ht : tot g.f2 ≤ 1048576) (h : GraphIs g) (hg : graphOK g.f0.length g.f1 g.f2 g.f3 g.f4 = true) : ∃ r, GoodP g.f2 g.f0.length r ∧ Ev (fun k => zAP.f k g.f0 g.f1 g.f2 g.f3 g.f4) (r, 0) ∧ Ev (fun k => zAL.f k g.f0 g.f1 g.f2 g.f3 g.f4) (r, 0) := by
 have hb := graph_len good
 have HC := check_ev g.f0 g.f1 g.f2 g.f3 g.f4 hb
 have HF := fault_ev g.f0 g.f1 g.f2 g.f3 g.f4 hb
 rw [hg] at HC HF
 have hl : ∀ a, (zAE g.f2 a).length ≤ 9223372036854775807 := fun a => rd_rows (Q := fun l => l.length ≤ 9223372036854775807) (by decide) hb a
 obtain ⟨r, g1, e1⟩ := parts_run (next := g.f2) (n := g.f0.length) h.inn
 obtain ⟨r', g2, e2⟩ := partsOf_all g.f0 g.f1 g.f2 g.f3 g.f4 g.f0.length h.ns h.inn h.n hl (by omega) rfl
 obtain rfl := goodP_eq g1 g2
 have hrow := rowsOK_of h (fun l hl => by have := (good.2.2.1.2 l hl).1; omega)
 refine ⟨r, g1, ?_, ?_⟩
 ·unfold zAP.f
  refine ev_bind HC ?_
  simp only [okErr, ↓reduceIte, hrow]
  exact ev_bind e1 (ev_const (fun k => rfl))
 ·unfold zAL.f
  refine ev_bind HF ?_
  simp only [okErr, ↓reduceIte, hrow, ht, and_self]
  exact ev_bind e2 (ev_const (fun k => rfl))
theorem parts_fault {g : S26} (good : G26 g) (hg : graphOK g.f0.length g.f1 g.f2 g.f3 g.f4 = false) : Ev (fun k => zAP.f k g.f0 g.f1 g.f2 g.f3 g.f4) ([], 9) ∧ Ev (fun k => zAL.f k g.f0 g.f1 g.f2 g.f3 g.f4) ([], 9) := by
 have hb := graph_len good
 have HC := check_ev g.f0 g.f1 g.f2 g.f3 g.f4 hb
 have HF := fault_ev g.f0 g.f1 g.f2 g.f3 g.f4 hb
 rw [hg] at HC HF
 have n9 : ¬ (9 : Int) = 0 := by decide
 refine ⟨?_, ?_⟩
 ·unfold zAP.f
  refine ev_bind HC ?_
  simp only [okErr, Bool.false_eq_true, ↓reduceIte, n9]
  exact Ev.now _
 ·unfold zAL.f
  refine ev_bind HF ?_
  simp only [okErr, Bool.false_eq_true, ↓reduceIte, n9]
  exact Ev.now _
end Go.Proofs.Ytkcghbfmigdomaa.Pure
