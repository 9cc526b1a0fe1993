import Derived.Test.YtkcghbfmigdomaaKSccLassosG25
-- Cut by a program of this session (wip/prune.py) from a longer text: declarations that the law does not need are left out.
namespace Go.Proofs.Ytkcghbfmigdomaa.Pure
open Go.RowKit Go.Proofs.Ytkcghbfmigdomaa.Q Go.Proofs.Ytkcghbfmigdomaa.Base Go.Proofs.YtkcghbfmigdomaaW.PrintWords Go.Proofs.YtkcghbfmigdomaaW.PrintLast Go.Proofs.YtkcghbfmigdomaaW.PrintMore
set_option linter.unusedVariables false
set_option linter.unusedSectionVars false
section
variable (spots : List S63) (init : Int) (next : List (List Int)) (sets : List Int) (many : Int) (frm : Int → Prop) (n : Nat) (hN : next.length = n) (hin : ∀ a, ∀ b ∈ zAE next a, 0 ≤ b ∧ b < (n : Int)) (hf : ∀ x, frm x → 0 ≤ x ∧ x < (n : Int)) (hn : n ≤ 20000) (hl : ∀ a, (zAE next a).length ≤ 9223372036854775807)
include hN hin hf hn hl
theorem start_rounds (L : List Int) (hL : ∀ x, frm x ↔ x ∈ L) (hLl : L.length ≤ 9223372036854775807) (d : Nat) : ∀ (j : Nat) (st : List Int), j + d = L.length → RInv next frm n (fun _ => False) (fun x => x ∈ L.take j) st → Res next frm n (fun k => zAB.l0 k L st j spots init next sets many) := by
 induction d with
 | zero =>
  intro j st hj hS
  have c1 : ¬ (j : Int) < (L.length : Int) := by omega
  obtain ⟨r, hg, he⟩ := rounds_run spots init next sets many frm n hN hin hf hn hl n st ⟨hS.len, hS.val, hS.snd, hS.cl, fun x hx => hS.ini x (by rw [List.take_of_length_le (by omega)]; exact (hL x).1 hx)⟩ (by unfold left2; rw [hS.len]; omega)
  refine ⟨r, hg, ev_succ ?_⟩
  simp only [zAB.l0, ↓reduceIte, c1]
  exact he
 | succ d ih =>
  intro j st hj hS
  have hlt : j < L.length := by omega
  have hx : frm L[j] := (hL _).2 (List.getElem_mem hlt)
  obtain ⟨b0, b1⟩ := hf _ hx
  have b1' : L[j] < (st.length : Int) := by rw [hS.len]; exact b1
  have c1 : (j : Int) < (L.length : Int) := by omega
  have c2 : (0 : Int) ≤ (j : Int) := by omega
  have w1 : wrap64 ((j : Int) + 1) = ((j + 1 : Nat) : Int) := by rw [wrap_id (by omega) (by omega)]; rfl
  have mono : ∀ x : Int, 0 ≤ x → 0 < rd st x → 0 < rd (st.set (L[j]).toNat 1) x := fun x hx h => by
   rw [rd_set b0 b1' hx]; split <;> omega
  obtain ⟨r, hg, he⟩ := ih (j + 1) (st.set (L[j]).toNat 1) (by omega) ⟨by rw [List.length_set]; exact hS.len, fun x hx hx' => by
    have := hS.val x hx hx'
    rw [rd_set b0 b1' hx]; split <;> omega, fun x hx0 hx' h => by
    rw [rd_set b0 b1' hx0] at h
    split at h
    ·rename_i e; rw [e]; exact .start _ hx
    ·exact hS.snd x hx0 hx' h, fun a ha ha' hh => by
    rw [rd_set b0 b1' ha] at hh
    split at hh
    ·omega
    ·rcases hS.cl a ha ha' hh with c | c
     ·exact .inl c
     ·exact .inr fun b hb => mono b (hin a b hb).1 (c b hb), fun x hx' => by
    rw [List.take_succ_eq_append_getElem hlt] at hx'
    rcases List.mem_append.1 hx' with hx' | hx'
    ·exact mono x (hf x ((hL x).2 (List.mem_of_mem_take hx'))).1 (hS.ini x hx')
    ·rw [List.mem_singleton.1 hx', rd_set b0 b1' b0, if_pos rfl]; decide⟩
  refine ⟨r, hg, ev_succ ?_⟩
  simp only [zAB.l0, ↓reduceIte, c1, c2, rd_get L j hlt, b0, b1', w1]
  exact he
theorem reached_from (hs : spots.length = n) (L : List Int) (hL : ∀ x, frm x ↔ x ∈ L) (hLl : L.length ≤ 9223372036854775807) : Res next frm n (fun k => zAB.f k spots init next sets many L) := by
 obtain ⟨r, hg, he⟩ := start_rounds spots init next sets many frm n hN hin hf hn hl L hL hLl L.length 0 (List.replicate ((spots.length : Int)).toNat 0) (by omega) ⟨by simp [hs], fun x hx hx' => by
  unfold rd; rw [List.getD_eq_getElem?_getD, List.getElem?_replicate]; split <;> simp, fun x hx hx' h => by
  unfold rd at h; rw [List.getD_eq_getElem?_getD, List.getElem?_replicate] at h; split at h <;> simp at h, fun a ha ha' h => by
  unfold rd at h; rw [List.getD_eq_getElem?_getD, List.getElem?_replicate] at h; split at h <;> simp at h, fun x hx => by simp at hx⟩
 refine ⟨r, hg, ?_⟩
 unfold zAB.f
 have c1 : (0 : Int) ≤ (spots.length : Int) := by omega
 have c2 : ((spots.length : Int)).toNat ≤ 35184372088832 := by omega
 simp only [↓reduceIte, c1, c2]
 exact he
end
theorem rowIn_all {n : Int} {l : List Int} (h : rowIn n l = true) : ∀ b ∈ l, 0 ≤ b ∧ b < n := fun b hb => of_decide_eq_true (List.all_eq_true.1 h b hb)
theorem restIn_all {n p : Int} : ∀ {next : List (List Int)} {sets : List Int}, restIn n p next sets = true → next.length = sets.length → ∀ l ∈ next, ∀ b ∈ l, 0 ≤ b ∧ b < n
 | [], _, _, _ => fun l hl => by cases hl
 | l :: ls, s :: ss, h, e => by
  simp only [restIn, Bool.and_eq_true] at h
  intro x hx
  rcases List.mem_cons.1 hx with rfl | hx
  ·exact rowIn_all h.1.1
  ·exact restIn_all h.2 (by simpa using e) x hx
theorem rd_rows {next : List (List Int)} {Q : List Int → Prop} (h0 : Q []) (h : ∀ l ∈ next, Q l) (a : Int) : Q (zAE next a) := by
 show Q (next.getD a.toNat [])
 rw [List.getD_eq_getElem?_getD]
 by_cases c : a.toNat < next.length
 ·rw [List.getElem?_eq_getElem c]; exact h _ (List.getElem_mem c)
 ·rw [List.getElem?_eq_none (by omega)]; exact h0
end Go.Proofs.Ytkcghbfmigdomaa.Pure
namespace Go.Proofs.Ytkcghbfmigdomaa.Pure
open Go.RowKit Go.Proofs.Ytkcghbfmigdomaa.Q Go.Proofs.Ytkcghbfmigdomaa.Base Go.Proofs.YtkcghbfmigdomaaW.PrintWords Go.Proofs.YtkcghbfmigdomaaW.PrintLast Go.Proofs.YtkcghbfmigdomaaW.PrintMore
set_option linter.unusedVariables false
def turn1 (i : Int) (acc : List (List Int)) (q : Int) : List (List Int) := acc.set q.toNat (zAE acc q ++ [i])
def turnRow (i : Int) (acc : List (List Int)) (row : List Int) : List (List Int) := row.foldl (turn1 i) acc
def turnAll (next : List (List Int)) (acc : List (List Int)) (l : List Nat) : List (List Int) := l.foldl (fun acc (i : Nat) => turnRow i acc (zAE next i)) acc
def turnS (next : List (List Int)) : List (List Int) := turnAll next (List.replicate next.length []) (List.range next.length)
theorem turn1_len (i : Int) (acc : List (List Int)) (q : Int) : (turn1 i acc q).length = acc.length := by simp [turn1]
theorem turnRow_len (i : Int) (row : List Int) : ∀ acc, (turnRow i acc row).length = acc.length := by
 induction row with
 | nil => intro acc; rfl
 | cons a l ih => intro acc; exact (ih _).trans (turn1_len _ _ _)
theorem turnAll_len (next : List (List Int)) (l : List Nat) : ∀ acc, (turnAll next acc l).length = acc.length := by
 induction l with
 | nil => intro acc; rfl
 | cons a l ih => intro acc; exact (ih _).trans (turnRow_len _ _ _)
theorem turnS_len (next : List (List Int)) : (turnS next).length = next.length := by unfold turnS; rw [turnAll_len]; simp
theorem turn1_mem {i : Int} {acc : List (List Int)} {q : Int} (h0 : 0 ≤ q) (h1 : q < (acc.length : Int)) {b : Int} (hb : 0 ≤ b) (x : Int) : x ∈ zAE (turn1 i acc q) b ↔ x ∈ zAE acc b ∨ (x = i ∧ b = q) := by
 have hlt : q.toNat < acc.length := by omega
 show x ∈ (acc.set q.toNat (zAE acc q ++ [i])).getD b.toNat [] ↔ x ∈ acc.getD b.toNat [] ∨ _
 rw [List.getD_eq_getElem?_getD, List.getElem?_set]
 by_cases c : b = q
 ·subst c
  simp only [↓reduceIte, hlt, Option.getD_some, List.mem_append, List.mem_singleton, and_true]
  rfl
 ·have c' : ¬ q.toNat = b.toNat := by omega
  simp only [c, c', ↓reduceIte, and_false, or_false]
  rw [List.getD_eq_getElem?_getD]
theorem turnRow_mem {i : Int} {b : Int} (hb : 0 ≤ b) (x : Int) (row : List Int) : ∀ acc : List (List Int), (∀ q ∈ row, 0 ≤ q ∧ q < (acc.length : Int)) → (x ∈ zAE (turnRow i acc row) b ↔ x ∈ zAE acc b ∨ (x = i ∧ b ∈ row)) := by
 induction row with
 | nil => intro acc _; simp [turnRow]
 | cons a l ih =>
  intro acc h
  obtain ⟨h0, h1⟩ := h a (by simp)
  refine (ih (turn1 i acc a) (fun q ht => by rw [turn1_len]; exact h q (by simp [ht]))).trans ?_
  rw [turn1_mem h0 h1 hb, List.mem_cons]
  constructor
  ·rintro ((h | ⟨h, h'⟩) | ⟨h, h'⟩)
   ·exact .inl h
   ·exact .inr ⟨h, .inl h'⟩
   ·exact .inr ⟨h, .inr h'⟩
  ·rintro (h | ⟨h, h' | h'⟩)
   ·exact .inl (.inl h)
   ·exact .inl (.inr ⟨h, h'⟩)
   ·exact .inr ⟨h, h'⟩
theorem turnAll_mem (next : List (List Int)) (n : Nat) (hin : ∀ a, ∀ b ∈ zAE next a, 0 ≤ b ∧ b < (n : Int)) {b : Int} (hb : 0 ≤ b) (x : Int) (l : List Nat) : ∀ acc : List (List Int), acc.length = n → (x ∈ zAE (turnAll next acc l) b ↔ x ∈ zAE acc b ∨ ∃ i ∈ l, x = (i : Int) ∧ b ∈ zAE next (i : Int)) := by
 induction l with
 | nil => intro acc _; simp [turnAll]
 | cons a l ih =>
  intro acc h
  refine (ih (turnRow a acc (zAE next a)) (by rw [turnRow_len]; exact h)).trans ?_
  rw [turnRow_mem hb x _ acc (fun q ht => by rw [h]; exact hin _ q ht)]
  constructor
  ·rintro ((h | h) | ⟨i, hi, h⟩)
   ·exact .inl h
   ·exact .inr ⟨a, by simp, h⟩
   ·exact .inr ⟨i, by simp [hi], h⟩
  ·rintro (h | ⟨i, hi, h⟩)
   ·exact .inl (.inl h)
   ·rcases List.mem_cons.1 hi with rfl | hi
    ·exact .inl (.inr h)
    ·exact .inr ⟨i, hi, h⟩
theorem turnS_mem (next : List (List Int)) (hin : ∀ a, ∀ b ∈ zAE next a, 0 ≤ b ∧ b < (next.length : Int)) {a b : Int} (ha : 0 ≤ a) (ha' : a < (next.length : Int)) (hb : 0 ≤ b) : a ∈ zAE (turnS next) b ↔ b ∈ zAE next a := by
 unfold turnS
 rw [turnAll_mem next next.length hin hb a _ _ (by simp)]
 constructor
 ·rintro (h | ⟨i, hi, rfl, h⟩)
  ·exfalso
   have h : a ∈ (List.replicate next.length ([] : List Int)).getD b.toNat [] := h
   rw [List.getD_eq_getElem?_getD, List.getElem?_replicate] at h
   split at h <;> simp at h
  ·exact h
 ·intro h
  exact .inr ⟨a.toNat, by simp; omega, by omega, by rw [Int.toNat_of_nonneg ha]; exact h⟩
theorem turnS_in (next : List (List Int)) (hin : ∀ a, ∀ b ∈ zAE next a, 0 ≤ b ∧ b < (next.length : Int)) {b : Int} (hb : 0 ≤ b) {x : Int} (h : x ∈ zAE (turnS next) b) : 0 ≤ x ∧ x < (next.length : Int) := by
 unfold turnS at h
 rw [turnAll_mem next next.length hin hb x _ _ (by simp)] at h
 rcases h with h | ⟨i, hi, rfl, h⟩
 ·exfalso
  have h : x ∈ (List.replicate next.length ([] : List Int)).getD b.toNat [] := h
  rw [List.getD_eq_getElem?_getD, List.getElem?_replicate] at h
  split at h <;> simp at h
 ·rw [List.mem_range] at hi; omega
def Leads (next : List (List Int)) (x y : Int) : Prop := Reach next (fun z => z = x) y
theorem Leads.refl (next : List (List Int)) (x : Int) : Leads next x x := .start x rfl
theorem Leads.trans {next : List (List Int)} {x y z : Int} (h : Leads next x y) (k : Leads next y z) : Leads next x z := by
 induction k with
 | start z e => exact e ▸ h
 | step a b _ hb ih => exact .step a b ih hb
theorem Leads.head {next : List (List Int)} {x y z : Int} (h : y ∈ zAE next x) (k : Leads next y z) : Leads next x z := Leads.trans (.step x y (.start x rfl) h) k
theorem leads_turn (next : List (List Int)) (hin : ∀ a, ∀ b ∈ zAE next a, 0 ≤ b ∧ b < (next.length : Int)) {x y : Int} (hx : 0 ≤ x) (hx' : x < (next.length : Int)) (hy : 0 ≤ y) (hy' : y < (next.length : Int)) : Leads (turnS next) x y ↔ Leads next y x := by
 constructor
 ·intro h
  clear hy hy'
  have key : (0 ≤ y ∧ y < (next.length : Int)) ∧ Leads next y x := by
   induction h with
   | start z e => subst e; exact ⟨⟨hx, hx'⟩, .refl _ _⟩
   | step a b _ hb ih =>
    obtain ⟨hi, hl⟩ := ih
    have hbb := turnS_in next hin hi.1 hb
    exact ⟨hbb, Leads.head ((turnS_mem next hin hbb.1 hbb.2 hi.1).1 hb) hl⟩
  exact key.2
 ·intro h
  clear hx hx'
  induction h with
  | start z e => exact e ▸ .refl _ _
  | step a b ha hb ih =>
   obtain ⟨a0, a1⟩ := reach_in next (fun z => z = y) next.length hin (fun z e => by subst e; exact ⟨hy, hy'⟩) ha
   obtain ⟨b0, b1⟩ := hin a b hb
   exact Leads.head ((turnS_mem next hin a0 a1 b0).2 hb) ih
def Mut (next : List (List Int)) (x y : Int) : Prop := Leads next x y ∧ Leads next y x
theorem Mut.refl (next : List (List Int)) (x : Int) : Mut next x x := ⟨.refl _ _, .refl _ _⟩
theorem Mut.symm {next : List (List Int)} {x y : Int} (h : Mut next x y) : Mut next y x := ⟨h.2, h.1⟩
theorem Mut.trans {next : List (List Int)} {x y z : Int} (h : Mut next x y) (k : Mut next y z) : Mut next x z := ⟨h.1.trans k.1, k.2.trans h.2⟩
def Least (next : List (List Int)) (x y : Int) : Prop := Mut next x y ∧ ∀ z, Mut next x z → y ≤ z
theorem Least.unique {next : List (List Int)} {x y z : Int} (h : Least next x y) (k : Least next x z) : y = z := Int.le_antisymm (h.2 z k.1) (k.2 y h.1)
theorem Least.same {next : List (List Int)} {x x' y : Int} (h : Least next x y) (m : Mut next x x') : Least next x' y := ⟨m.symm.trans h.1, fun z hz => h.2 z (m.trans hz)⟩
def GoodP (next : List (List Int)) (n : Nat) (p : List Int) : Prop := p.length = n ∧ ∀ x : Int, 0 ≤ x → x < (n : Int) → Least next x (rd p x)
theorem goodP_eq {next : List (List Int)} {n : Nat} {p p' : List Int} (h : GoodP next n p) (h' : GoodP next n p') : p = p' := by
 refine List.ext_getElem (h.1.trans h'.1.symm) (fun i hi hi' => ?_)
 have e1 := h.2 i (by omega) (by rw [h.1] at hi; omega)
 have e2 := h'.2 i (by omega) (by rw [h.1] at hi; omega)
 rw [rd_get p i hi] at e1
 rw [rd_get p' i hi'] at e2
 exact e1.unique e2
theorem mut_of_closed {next : List (List Int)} {x : Int} {S D : Int → Prop} (hx : S x) (hS : ∀ a, S a → ∀ b ∈ zAE next a, S b ∨ D b) (hD : ∀ a, D a → ∀ b ∈ zAE next a, D b) {y : Int} (h : Leads next x y) : S y ∨ D y := by
 induction h with
 | start z e => subst e; exact .inl hx
 | step a b _ hb ih =>
  rcases ih with h | h
  ·exact hS a h b hb
  ·exact .inr (hD a h b hb)
theorem closed_leads {next : List (List Int)} {D : Int → Prop} (hD : ∀ a, D a → ∀ b ∈ zAE next a, D b) {x y : Int} (hx : D x) (h : Leads next x y) : D y := by
 induction h with
 | start z e => subst e; exact hx
 | step a b _ hb ih => exact hD a ih b hb
theorem segment_part {next : List (List Int)} {x : Int} {S D : Int → Prop} (hx : S x) (hm : ∀ y, S y → Mut next x y) (hS : ∀ a, S a → ∀ b ∈ zAE next a, S b ∨ D b) (hD : ∀ a, D a → ∀ b ∈ zAE next a, D b) (hn : ¬ D x) {y : Int} : Mut next x y ↔ S y :=
 ⟨fun h => (mut_of_closed hx hS hD h.1).elim id (fun d => absurd (closed_leads hD d h.2) hn), hm y⟩
end Go.Proofs.Ytkcghbfmigdomaa.Pure
-- Cut by a program of this session (wip/prune.py) from a longer text: declarations that the law does not need are left out.
namespace Go.Proofs.Ytkcghbfmigdomaa.Pure
open Go.RowKit Go.Proofs.Ytkcghbfmigdomaa.Q Go.Proofs.Ytkcghbfmigdomaa.Base Go.Proofs.YtkcghbfmigdomaaW.PrintWords Go.Proofs.YtkcghbfmigdomaaW.PrintLast Go.Proofs.YtkcghbfmigdomaaW.PrintMore
set_option linter.unusedVariables false
set_option linter.unusedSectionVars false
section
variable (spots : List S63) (init : Int) (next : List (List Int)) (sets : List Int) (many : Int) (frm : Int → Prop) (n : Nat) (hN : next.length = n) (hin : ∀ a, ∀ b ∈ zAE next a, 0 ≤ b ∧ b < (n : Int)) (hf : ∀ x, frm x → 0 ≤ x ∧ x < (n : Int)) (hn : n ≤ 20000) (hl : ∀ a, (zAE next a).length ≤ 9223372036854775807)
include hN hin hf hn hl
theorem start_search (I : Nat) (hI : I ≤ n) (hfi : ∀ x : Int, frm x ↔ 0 ≤ x ∧ x < (I : Int)) (d : Nat) : ∀ (j : Nat) (s : List Bool) (t : List Int), j + d = I → SInv next frm n (fun _ => False) s t → (∀ x : Int, 0 ≤ x → x < (j : Int) → tru s x) → meas s t ≤ n → Res next frm n (fun k => zAK.l0 k s t j (I : Int) next) := by
 induction d with
 | zero =>
  intro j s t hj hS hb hm
  have c1 : ¬ (j : Int) < (I : Int) := by omega
  obtain ⟨r, hg, he⟩ := zAb next frm n hN hin hf hn hl n s t (Nat.le_refl _) hS (fun x hx => hb x ((hfi x).1 hx).1 (by have := ((hfi x).1 hx).2; omega)) hm
  refine ⟨r, hg, ev_succ ?_⟩
  simp only [zAK.l0, ↓reduceIte, c1]
  exact he
 | succ d ih =>
  intro j s t hj hS hb hm
  have c1 : (j : Int) < (I : Int) := by omega
  have c2 : (0 : Int) ≤ (j : Int) := by omega
  have c3 : (j : Int) < (s.length : Int) := by rw [hS.len]; omega
  have c4 : t.length < 17592186044416 := by unfold meas at hm; omega
  have w1 : wrap64 ((j : Int) + 1) = ((j + 1 : Nat) : Int) := by rw [wrap_id (by omega) (by omega)]; rfl
  obtain ⟨r, hg, he⟩ := ih (j + 1) _ _ (by omega) (visit_inv next frm n hin hS c2 (by omega) (.start _ ((hfi _).2 ⟨c2, c1⟩))) (fun x hx hx' => by
   by_cases e : x = (j : Int)
   ·rw [e]; exact visit_tru c2 c3
   ·exact visit_mono c2 c3 hx (hb x hx (by omega))) (by rw [visit_meas c2 c3]; exact hm)
  refine ⟨r, hg, ev_succ ?_⟩
  simp only [zAK.l0, ↓reduceIte, c1, c2, c3, c4, w1]
  exact he
end
theorem first_ev (spots : List S63) (next : List (List Int)) (sets : List Int) (many : Int) (I : Nat) (hI : I ≤ 20000) (r : List Bool) (h : Ev (fun k => zAB.f k spots (I : Int) next sets many ((List.range I).map (fun i : Nat => (i : Int)))) r) (d : Nat) : ∀ j : Nat, j + d = I → Ev (fun k => zAF.l0 k ((List.range j).map (fun i : Nat => (i : Int))) j spots (I : Int) next sets many) (r, 0) := by
 induction d with
 | zero =>
  intro j hj
  obtain rfl : j = I := by omega
  have c1 : ¬ (j : Int) < (j : Int) := by omega
  refine ev_succ ?_
  simp only [zAF.l0, ↓reduceIte, c1]
  exact ev_bind h (ev_const (fun k => rfl))
 | succ d ih =>
  intro j hj
  have c1 : (j : Int) < (I : Int) := by omega
  have c2 : ((List.range j).map (fun i : Nat => (i : Int))).length < 17592186044416 := by simp; omega
  have w1 : wrap64 ((j : Int) + 1) = ((j + 1 : Nat) : Int) := by rw [wrap_id (by omega) (by omega)]; rfl
  refine ev_succ ?_
  simp only [zAF.l0, ↓reduceIte, c1, c2, w1]
  have := ih (j + 1) (by omega)
  rw [List.range_succ, List.map_append] at this
  exact this
theorem reach_both {g : S26} (good : G26 g) (hg : graphOK g.f0.length g.f1 g.f2 g.f3 g.f4 = true) (hN : g.f2.length = g.f0.length) (hn : g.f0.length ≤ 20000) (i0 : 0 ≤ g.f1) (i1 : g.f1 ≤ (g.f0.length : Int)) (hin : ∀ a, ∀ b ∈ zAE g.f2 a, 0 ≤ b ∧ b < (g.f0.length : Int)) : ∃ r, GoodR g.f2 (fun x => 0 ≤ x ∧ x < g.f1) g.f0.length r ∧ Ev (fun k => zAK.f k g.f0 g.f1 g.f2 g.f3 g.f4) (r, 0) ∧ Ev (fun k => zAF.f k g.f0 g.f1 g.f2 g.f3 g.f4) (r, 0) := by
 have hb := graph_len good
 have HC := check_ev g.f0 g.f1 g.f2 g.f3 g.f4 hb
 have HF := fault_ev g.f0 g.f1 g.f2 g.f3 g.f4 hb
 rw [hg] at HC HF
 obtain ⟨I, hI⟩ : ∃ I : Nat, g.f1 = (I : Int) := ⟨g.f1.toNat, by omega⟩
 rw [hI] at HC HF i0 i1 ⊢
 have hIn : I ≤ g.f0.length := by omega
 have hl : ∀ a, (zAE g.f2 a).length ≤ 9223372036854775807 := fun a => rd_rows (Q := fun l => l.length ≤ 9223372036854775807) (by decide) hb a
 have hf : ∀ x : Int, (0 ≤ x ∧ x < (I : Int)) → 0 ≤ x ∧ x < (g.f0.length : Int) := fun x h => by omega
 have hsz : ∀ x : Int, ¬ tru (List.replicate g.f0.length false) x := fun x h => by
  unfold tru at h; rw [List.getD_eq_getElem?_getD, List.getElem?_replicate] at h; split at h <;> simp at h
 obtain ⟨r, g1, e1⟩ := start_search g.f2 (fun x => 0 ≤ x ∧ x < (I : Int)) g.f0.length hN hin hf hn hl I hIn (fun x => Iff.rfl) I 0 (List.replicate g.f0.length false) [] (by omega) ⟨by simp, fun x _ _ h => absurd h (hsz x), (fun x hx => by simp at hx), fun a _ _ h => absurd h (hsz a)⟩ (fun x hx hx' => by omega) (by unfold meas; simp)
 obtain ⟨r', g2, e2⟩ := reached_from g.f0 (I : Int) g.f2 g.f3 g.f4 (fun x => 0 ≤ x ∧ x < (I : Int)) g.f0.length hN hin hf hn hl rfl ((List.range I).map (fun i : Nat => (i : Int))) (fun x => by
  simp only [List.mem_map, List.mem_range]
  exact ⟨fun h => ⟨x.toNat, by omega, by omega⟩, fun ⟨i, h, e⟩ => by omega⟩) (by simp; omega)
 obtain rfl := good_eq g.f2 _ g.f0.length g1 g2
 have cap : g.f0.length ≤ 140737488355328 := by omega
 refine ⟨r, g1, ?_, ?_⟩
 ·unfold zAK.f
  refine ev_bind HC ?_
  simp only [okErr, ↓reduceIte, cap]
  exact ev_bind e1 (ev_const (fun k => rfl))
 ·unfold zAF.f
  refine ev_bind HF ?_
  simp only [okErr, ↓reduceIte]
  exact first_ev g.f0 g.f2 g.f3 g.f4 I (by omega) r e2 I 0 (by omega)
end Go.Proofs.Ytkcghbfmigdomaa.Pure
-- Cut by a program of this session (wip/prune.py) from a longer text: declarations that the law does not need are left out.
namespace Go.Proofs.Ytkcghbfmigdomaa.Pure
open Go.RowKit Go.Proofs.Ytkcghbfmigdomaa.Q Go.Proofs.Ytkcghbfmigdomaa.Base Go.Proofs.YtkcghbfmigdomaaW.PrintWords Go.Proofs.YtkcghbfmigdomaaW.PrintLast Go.Proofs.YtkcghbfmigdomaaW.PrintMore
set_option linter.unusedVariables false
set_option linter.unusedSectionVars false
def markS (i : Int) (a b : List Bool) (part : List Int) : Nat → List Int
 | 0 => part
 | t + 1 => if a.getD t false = true ∧ b.getD t false = true then (markS i a b part t).set t i else markS i a b part t
def partsOfL (back : List (List Int)) (spots : List S63) (init : Int) (next : List (List Int)) (sets : List Int) (many : Int) : Nat → List Int → Int → Option (List Int)
 | 0, _, _ => none
 | k + 1, part, i => if i < (part.length : Int) then (if 0 ≤ i then (if 0 ≤ rd part i then partsOfL back spots init next sets many k part (i + 1) else
   (zAB.f k spots init next sets many [i]).bind fun a => (zAB.f k spots 0 back [] 0 [i]).bind fun b =>
    if a.length = part.length ∧ b.length = part.length then partsOfL back spots init next sets many k (markS i a b part part.length) (i + 1) else none) else none) else some part
theorem markS_rd (i : Int) (a b : List Bool) (part : List Int) : ∀ t : Nat, t ≤ part.length → (markS i a b part t).length = part.length ∧ ∀ x : Int, 0 ≤ x → rd (markS i a b part t) x = if x < (t : Int) ∧ a.getD x.toNat false = true ∧ b.getD x.toNat false = true then i else rd part x
 | 0, _ => ⟨rfl, fun x x0 => by rw [if_neg (fun h => by omega)]; rfl⟩
 | t + 1, ht => by
  obtain ⟨h1, h2⟩ := markS_rd i a b part t (by omega)
  unfold markS
  by_cases c : a.getD t false = true ∧ b.getD t false = true
  ·rw [if_pos c]
   refine ⟨by rw [List.length_set]; exact h1, fun x x0 => ?_⟩
   have := rd_set (st := markS i a b part t) (i := (t : Int)) (v := i) (x := x) (by omega) (by rw [h1]; omega) x0
   rw [Int.toNat_natCast] at this
   rw [this]
   by_cases e : x = (t : Int)
   ·subst e
    rw [if_pos rfl, if_pos ⟨by omega, by rw [Int.toNat_natCast]; exact c.1, by rw [Int.toNat_natCast]; exact c.2⟩]
   ·rw [if_neg e, h2 x x0]
    by_cases d : x < (t : Int) ∧ a.getD x.toNat false = true ∧ b.getD x.toNat false = true
    ·rw [if_pos d, if_pos ⟨by omega, d.2⟩]
    ·rw [if_neg d, if_neg (fun q => d ⟨by omega, q.2⟩)]
  ·rw [if_neg c]
   refine ⟨h1, fun x x0 => ?_⟩
   rw [h2 x x0]
   by_cases e : x = (t : Int)
   ·subst e
    rw [if_neg (fun q => by omega), if_neg (fun q => c (by rw [Int.toNat_natCast] at q; exact q.2))]
   ·by_cases d : x < (t : Int) ∧ a.getD x.toNat false = true ∧ b.getD x.toNat false = true
    ·rw [if_pos d, if_pos ⟨by omega, d.2⟩]
    ·rw [if_neg d, if_neg (fun q => d ⟨by omega, q.2⟩)]
def tot (l : List (List Int)) : Nat := (l.map List.length).sum
theorem row_tot : ∀ (l : List (List Int)) (r : List Int), r ∈ l → r.length ≤ tot l
 | [], _, h => by cases h
 | a :: l, r, h => by
  rcases List.mem_cons.1 h with rfl | h
  ·simp [tot]
  ·have := row_tot l r h
   simp only [tot, List.map_cons, List.sum_cons] at this ⊢
   omega
theorem tot_set : ∀ (l : List (List Int)) (j : Nat) (i : Int), tot (l.set j (l.getD j [] ++ [i])) ≤ tot l + 1
 | [], _, _ => by simp [tot]
 | a :: l, 0, i => by simp [tot]; omega
 | a :: l, j + 1, i => by
  have := tot_set l j i
  simp only [tot, List.set_cons_succ, List.getD_cons_succ, List.map_cons, List.sum_cons] at this ⊢
  omega
theorem tot_row (i : Int) : ∀ (row : List Int) (acc : List (List Int)), tot (turnRow i acc row) ≤ tot acc + row.length
 | [], acc => Nat.le_refl _
 | q :: row, acc => by
  have h1 := tot_row i row (turn1 i acc q)
  have h2 : tot (turn1 i acc q) ≤ tot acc + 1 := tot_set acc q.toNat i
  simp only [List.length_cons]
  show tot (turnRow i (turn1 i acc q) row) ≤ _
  omega
theorem tot_all (next : List (List Int)) : ∀ (l : List Nat) (acc : List (List Int)), tot (turnAll next acc l) ≤ tot acc + (l.map (fun (i : Nat) => (zAE next (i : Int)).length)).sum
 | [], acc => Nat.le_refl _
 | i :: l, acc => by
  have h1 := tot_all next l (turnRow i acc (zAE next (i : Int)))
  have h2 := tot_row (i : Int) (zAE next (i : Int)) acc
  simp only [List.map_cons, List.sum_cons]
  show tot (turnAll next (turnRow i acc (zAE next (i : Int))) l) ≤ _
  omega
theorem range_sum (next : List (List Int)) : ((List.range next.length).map (fun (i : Nat) => (zAE next (i : Int)).length)).sum = tot next := by
 unfold tot
 congr 1
 apply List.ext_getElem
 ·simp
 ·intro i h1 h2
  simp only [List.getElem_map, List.getElem_range]
  show (next.getD ((i : Int)).toNat []).length = _
  rw [Int.toNat_natCast, List.getD_eq_getElem?_getD, List.getElem?_eq_getElem (by simpa using h2)]
  rfl
theorem tot_turn (next : List (List Int)) : tot (turnS next) ≤ tot next := by
 have h := tot_all next (List.range next.length) (List.replicate next.length [])
 rw [range_sum] at h
 have h0 : tot (List.replicate next.length []) = 0 := by simp [tot]
 rw [h0, Nat.zero_add] at h
 exact h
theorem leads_in {next : List (List Int)} {n : Nat} (hin : ∀ a, ∀ b ∈ zAE next a, 0 ≤ b ∧ b < (n : Int)) {x z : Int} (x0 : 0 ≤ x) (x1 : x < (n : Int)) (h : Leads next x z) : 0 ≤ z ∧ z < (n : Int) := by
 induction h with
 | start z e => subst e; exact ⟨x0, x1⟩
 | step a b _ hb _ => exact hin a b hb
def POk (next : List (List Int)) (n : Nat) (part : List Int) (i : Int) : Prop := part.length = n ∧ ∀ x : Int, 0 ≤ x → x < (n : Int) → (rd part x = -1 ∧ ∀ j : Int, 0 ≤ j → j < i → ¬ Mut next x j) ∨ (0 ≤ rd part x ∧ rd part x < i ∧ Least next x (rd part x))
section
variable (spots : List S63) (init : Int) (next : List (List Int)) (sets : List Int) (many : Int) (n : Nat) (hN : next.length = n) (hin : ∀ a, ∀ b ∈ zAE next a, 0 ≤ b ∧ b < (n : Int)) (hn : n ≤ 20000) (hl : ∀ a, (zAE next a).length ≤ 9223372036854775807) (ht : tot next ≤ 9223372036854775807) (hs : spots.length = n)
include hN hin hn hl ht hs
theorem partsOf_run (d : Nat) : ∀ (i : Nat) (part : List Int), i + d = n → POk next n part i → ∃ r, GoodP next n r ∧ Ev (fun k => partsOfL (turnS next) spots init next sets many k part (i : Int)) r := by
 induction d with
 | zero =>
  intro i part hi h
  have c1 : ¬ (i : Int) < (part.length : Int) := by rw [h.1]; omega
  refine ⟨part, ⟨h.1, fun x x0 x1 => ?_⟩, ev_succ ?_⟩
  ·rcases h.2 x x0 x1 with ⟨_, h2⟩ | h2
   ·exact absurd (Mut.refl next x) (h2 x x0 (by omega))
   ·exact h2.2.2
  ·simp only [partsOfL, c1, ↓reduceIte]
   exact ev_const (fun k => rfl)
 | succ d ih =>
  intro i part hi h
  have c1 : (i : Int) < (part.length : Int) := by rw [h.1]; omega
  have c2 : (0 : Int) ≤ (i : Int) := by omega
  by_cases c3 : 0 ≤ rd part (i : Int)
  ·obtain ⟨r, hg, he⟩ := ih (i + 1) part (by omega) ⟨h.1, fun x x0 x1 => by
    rcases h.2 x x0 x1 with ⟨e, h2⟩ | h2
    ·refine .inl ⟨e, fun j j0 j1 hm => ?_⟩
     by_cases ej : j = (i : Int)
     ·subst ej
      rcases h.2 (i : Int) c2 (by omega) with ⟨e', _⟩ | h3
      ·omega
      ·exact h2 (rd part (i : Int)) h3.1 h3.2.1 (hm.trans h3.2.2.1)
     ·exact h2 j j0 (by omega) hm
    ·exact .inr ⟨h2.1, by omega, h2.2.2⟩⟩
   refine ⟨r, hg, ev_succ ?_⟩
   simp only [partsOfL, c1, c2, c3, ↓reduceIte]
   exact he
  ·have hi1 : rd part (i : Int) = -1 ∧ ∀ j : Int, 0 ≤ j → j < (i : Int) → ¬ Mut next (i : Int) j := by
    rcases h.2 (i : Int) c2 (by omega) with h2 | h2
    ·exact h2
    ·exact absurd h2.1 c3
   have hf : ∀ x : Int, x = (i : Int) → 0 ≤ x ∧ x < (n : Int) := fun x e => by omega
   have hTn : (turnS next).length = n := by rw [turnS_len]; exact hN
   have hTin : ∀ a, ∀ b ∈ zAE (turnS next) a, 0 ≤ b ∧ b < (n : Int) := fun a b hb => by
    have e : zAE (turnS next) a = zAE (turnS next) (a.toNat : Int) := by
     show (turnS next).getD a.toNat [] = (turnS next).getD ((a.toNat : Int)).toNat []
     rw [Int.toNat_natCast]
    rw [e] at hb
    have := turnS_in next (by rw [hN]; exact hin) (b := (a.toNat : Int)) (by omega) hb
    rw [hN] at this
    exact this
   have hTl : ∀ a, (zAE (turnS next) a).length ≤ 9223372036854775807 := fun a => rd_rows (Q := fun l => l.length ≤ 9223372036854775807) (by decide) (fun l hl => Nat.le_trans (row_tot _ l hl) (Nat.le_trans (tot_turn next) ht)) a
   obtain ⟨a, ga, ea⟩ := reached_from spots init next sets many (fun x => x = (i : Int)) n hN hin hf hn hl hs [(i : Int)] (fun x => by simp) (by simp)
   obtain ⟨b, gb, eb⟩ := reached_from spots 0 (turnS next) [] 0 (fun x => x = (i : Int)) n hTn hTin hf hn hTl hs [(i : Int)] (fun x => by simp) (by simp)
   have hm : ∀ x : Int, 0 ≤ x → x < (n : Int) → ((a.getD x.toNat false = true ∧ b.getD x.toNat false = true) ↔ Mut next (i : Int) x) := fun x x0 x1 => by
    have h1 : a.getD x.toNat false = true ↔ Leads next (i : Int) x := ga.2 x x0 x1
    have h2 : b.getD x.toNat false = true ↔ Leads (turnS next) (i : Int) x := gb.2 x x0 x1
    rw [h1, h2, leads_turn next (by rw [hN]; exact hin) c2 (by omega) x0 (by omega)]
    exact Iff.rfl
   obtain ⟨hl1, hl2⟩ := markS_rd (i : Int) a b part part.length (Nat.le_refl _)
   obtain ⟨r, hg, he⟩ := ih (i + 1) (markS (i : Int) a b part part.length) (by omega) ⟨hl1.trans h.1, fun x x0 x1 => by
    rw [hl2 x x0]
    by_cases c : Mut next (i : Int) x
    ·rw [if_pos ⟨by rw [h.1]; exact x1, (hm x x0 x1).2 c⟩]
     refine .inr ⟨c2, by omega, c.symm, fun z hz => ?_⟩
     have hz0 := leads_in hin x0 x1 hz.1
     apply Classical.byContradiction
     intro hlt
     exact hi1.2 z hz0.1 (by omega) (c.trans hz)
    ·rw [if_neg (fun q => c ((hm x x0 x1).1 q.2))]
     rcases h.2 x x0 x1 with ⟨e, h2⟩ | h2
     ·refine .inl ⟨e, fun j j0 j1 hm' => ?_⟩
      by_cases ej : j = (i : Int)
      ·subst ej; exact c hm'.symm
      ·exact h2 j j0 (by omega) hm'
     ·exact .inr ⟨h2.1, by omega, h2.2.2⟩⟩
   have hal : a.length = part.length ∧ b.length = part.length := ⟨ga.1.trans h.1.symm, gb.1.trans h.1.symm⟩
   refine ⟨r, hg, ev_succ ?_⟩
   simp only [partsOfL, c1, c2, c3, ↓reduceIte]
   refine ev_bind ea (ev_bind eb ?_)
   simp only [hal, and_self, ↓reduceIte]
   exact he
theorem partsOf_all : ∃ r, GoodP next n r ∧ Ev (fun k => partsOfL (turnS next) spots init next sets many k (List.replicate n (-1)) 0) r := by
 refine partsOf_run spots init next sets many n hN hin hn hl ht hs n 0 _ (by omega) ⟨by simp, fun x x0 x1 => .inl ⟨?_, fun j j0 j1 => by omega⟩⟩
 unfold rd
 rw [List.getD_eq_getElem?_getD, List.getElem?_replicate, if_pos (by omega)]
 rfl
end
end Go.Proofs.Ytkcghbfmigdomaa.Pure
