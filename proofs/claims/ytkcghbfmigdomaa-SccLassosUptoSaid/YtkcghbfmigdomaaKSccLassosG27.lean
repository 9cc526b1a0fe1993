import Derived.Test.YtkcghbfmigdomaaKSccLassosG26
namespace Go.Proofs.Ytkcghbfmigdomaa.Pure
open Go.RowKit Go.Proofs.Ytkcghbfmigdomaa.Q Go.Proofs.Ytkcghbfmigdomaa.Base Go.Proofs.YtkcghbfmigdomaaW.PrintWords Go.Proofs.YtkcghbfmigdomaaW.PrintLast Go.Proofs.YtkcghbfmigdomaaW.PrintMore
set_option linter.unusedVariables false
def Looked (next : List (List Int)) (s : Srch) (x b : Int) : Prop := b ∈ zAE next x ∧ ∀ c ∈ s.calls, c.1 = x → b ∈ (zAE next x).take c.2.toNat
structure TInv (next : List (List Int)) (n : Nat) (s : Srch) : Prop where
 lo : s.order.length = n
 ll : s.low.length = n
 lp : s.part.length = n
 m0 : 0 ≤ s.met
 ord : ∀ x : Int, 0 ≤ x → x < (n : Int) → 0 ≤ rd s.order x ∧ rd s.order x ≤ s.met
 inj : ∀ x y : Int, 0 ≤ x → x < (n : Int) → 0 ≤ y → y < (n : Int) → rd s.order x ≠ 0 → rd s.order x = rd s.order y → x = y
 new : ∀ x : Int, 0 ≤ x → x < (n : Int) → rd s.order x = 0 → rd s.part x = -1
 opn : ∀ x : Int, x ∈ s.opn ↔ (0 ≤ x ∧ x < (n : Int) ∧ rd s.order x ≠ 0 ∧ rd s.part x = -1)
 srt : s.opn.Pairwise (fun a b => rd s.order a < rd s.order b)
 don : ∀ x : Int, 0 ≤ x → x < (n : Int) → rd s.part x ≠ -1 → Least next x (rd s.part x) ∧ ∀ b ∈ zAE next x, rd s.part b ≠ -1
 act : ∀ c ∈ s.calls, c.1 ∈ s.opn ∧ 0 ≤ c.2 ∧ c.2 ≤ ((zAE next c.1).length : Int)
 frm : s.calls.Pairwise (fun a b => rd s.order a.1 < rd s.order b.1)
 abv : ∀ x ∈ s.opn, ∃ c ∈ s.calls, rd s.order c.1 ≤ rd s.order x
 dsc : ∀ x ∈ s.opn, ∀ c ∈ s.calls, rd s.order c.1 ≤ rd s.order x → Leads next c.1 x
 low : ∀ x ∈ s.opn, rd s.low x ≤ rd s.order x ∧ ∃ y ∈ s.opn, rd s.order y = rd s.low x ∧ Leads next x y
 fin : ∀ x ∈ s.opn, (∀ c ∈ s.calls, c.1 ≠ x) → rd s.low x < rd s.order x ∧ ∀ c ∈ s.calls, rd s.order c.1 ≤ rd s.order x → (∀ c' ∈ s.calls, rd s.order c'.1 ≤ rd s.order x → rd s.order c'.1 ≤ rd s.order c.1) → rd s.low c.1 ≤ rd s.low x
 edg : ∀ x ∈ s.opn, ∀ b, Looked next s x b → rd s.order b ≠ 0 ∧ (b ∈ s.opn → rd s.low x ≤ rd s.order b)
theorem to_frame {next : List (List Int)} {n : Nat} {s : Srch} (h : TInv next n s) (L : Int) (hL : ∀ y ∈ s.opn, L ≤ rd s.order y → L ≤ rd s.low y) (d : Nat) : ∀ x ∈ s.opn, L ≤ rd s.order x → (rd s.order x).toNat ≤ d → ∃ c ∈ s.calls, L ≤ rd s.order c.1 ∧ Leads next x c.1 := by
 induction d with
 | zero =>
  intro x hx _ hd
  obtain ⟨x0, x1, x2, _⟩ := (h.opn x).1 hx
  have := (h.ord x x0 x1).1
  omega
 | succ d ih =>
  intro x hx hl hd
  obtain ⟨x0, x1, x2, _⟩ := (h.opn x).1 hx
  have hp := (h.ord x x0 x1).1
  by_cases c : ∃ c ∈ s.calls, c.1 = x
  ·obtain ⟨c, hc, e⟩ := c
   exact ⟨c, hc, by rw [e]; exact hl, by rw [e]; exact .refl _ _⟩
  ·have c' : ∀ c ∈ s.calls, c.1 ≠ x := fun k hk e => c ⟨k, hk, e⟩
   obtain ⟨y, hy, hy1, hy2⟩ := (h.low x hx).2
   have hlt := (h.fin x hx c').1
   obtain ⟨c, hc, h1, h2⟩ := ih y hy (by rw [hy1]; exact hL x hx hl) (by rw [hy1]; omega)
   exact ⟨c, hc, h1, hy2.trans h2⟩
theorem top_part {next : List (List Int)} {n : Nat} {s : Srch} (h : TInv next n s) (hin : ∀ a, ∀ b ∈ zAE next a, 0 ≤ b ∧ b < (n : Int)) (i : Int) (hi : ∃ c ∈ s.calls, c.1 = i) (hall : ∀ c ∈ s.calls, c.1 = i → c.2 = ((zAE next i).length : Int)) (hlast : ∀ c ∈ s.calls, rd s.order c.1 ≤ rd s.order i) (hlow : rd s.low i = rd s.order i) (y : Int) :
  Mut next i y ↔ y ∈ s.opn ∧ rd s.order i ≤ rd s.order y := by
 obtain ⟨ci, hci, rfl⟩ := hi
 have hio := (h.act ci hci).1
 have frame_eq : ∀ x ∈ s.opn, (∃ c ∈ s.calls, c.1 = x) → rd s.order ci.1 ≤ rd s.order x → x = ci.1 := by
  rintro x hx ⟨c, hc, rfl⟩ hle
  obtain ⟨x0, x1, x2, _⟩ := (h.opn c.1).1 hx
  obtain ⟨y0, y1, _, _⟩ := (h.opn ci.1).1 hio
  exact h.inj c.1 ci.1 x0 x1 y0 y1 x2 (Int.le_antisymm (hlast c hc) hle)
 have hL : ∀ x ∈ s.opn, rd s.order ci.1 ≤ rd s.order x → rd s.order ci.1 ≤ rd s.low x := by
  intro x hx hle
  by_cases c : ∃ c ∈ s.calls, c.1 = x
  ·rw [frame_eq x hx c hle, hlow]; exact Int.le_refl _
  ·have := (h.fin x hx (fun k hk e => c ⟨k, hk, e⟩)).2 ci hci hle (fun c' hc' _ => hlast c' hc')
   omega
 refine segment_part (S := fun z => z ∈ s.opn ∧ rd s.order ci.1 ≤ rd s.order z) (D := fun z => 0 ≤ z ∧ z < (n : Int) ∧ rd s.part z ≠ -1) ⟨hio, Int.le_refl _⟩ ?_ ?_ ?_ ?_
 ·rintro z ⟨hz, hle⟩
  obtain ⟨c, hc, h1, h2⟩ := to_frame h (rd s.order ci.1) hL _ z hz hle (Nat.le_refl _)
  rw [frame_eq c.1 (h.act c hc).1 ⟨c, hc, rfl⟩ h1] at h2
  exact ⟨h.dsc z hz ci hci hle, h2⟩
 ·rintro a ⟨ha, hle⟩ b hb
  have hlk : Looked next s a b := ⟨hb, fun c hc e => by
   have e' : a = ci.1 := frame_eq a ha ⟨c, hc, e⟩ hle
   rw [e'] at hb e ⊢
   rw [hall c hc e, Int.toNat_natCast, List.take_length]
   exact hb⟩
  obtain ⟨b0, b1⟩ := hin a b hb
  obtain ⟨h1, h2⟩ := h.edg a ha b hlk
  by_cases hbo : b ∈ s.opn
  ·have := hL a ha hle
   have := h2 hbo
   exact .inl ⟨hbo, by omega⟩
  ·exact .inr ⟨b0, b1, fun e => hbo ((h.opn b).2 ⟨b0, b1, h1, e⟩)⟩
 ·rintro a ⟨a0, a1, ha⟩ b hb
  exact ⟨(hin a b hb).1, (hin a b hb).2, (h.don a a0 a1 ha).2 b hb⟩
 ·rintro ⟨_, _, hp⟩
  exact hp ((h.opn ci.1).1 hio).2.2.2
theorem enter_inv {next : List (List Int)} {n : Nat} {s : Srch} (h : TInv next n s) (hin : ∀ a, ∀ b ∈ zAE next a, 0 ≤ b ∧ b < (n : Int)) (i : Int) (i0 : 0 ≤ i) (i1 : i < (n : Int)) (hu : rd s.order i = 0) (cl : List (Int × Int)) (hfst : cl.map Prod.fst = s.calls.map Prod.fst) (hb : ∀ c ∈ cl, 0 ≤ c.2 ∧ c.2 ≤ ((zAE next c.1).length : Int))
  (hlk : ∀ x ∈ s.opn, ∀ b, Looked next { s with calls := cl } x b → Looked next s x b ∨ b = i) (hld : ∀ c ∈ cl, Leads next c.1 i) : TInv next n (enterS { s with calls := cl } i) := by
 have hO : ∀ x : Int, 0 ≤ x → rd (s.order.set i.toNat (s.met + 1)) x = if x = i then s.met + 1 else rd s.order x := fun x hx => rd_set i0 (by rw [h.lo]; exact i1) hx
 have hLw : ∀ x : Int, 0 ≤ x → rd (s.low.set i.toNat (s.met + 1)) x = if x = i then s.met + 1 else rd s.low x := fun x hx => rd_set i0 (by rw [h.ll]; exact i1) hx
 have hni : ∀ x ∈ s.opn, 0 ≤ x ∧ x < (n : Int) ∧ x ≠ i := fun x hx => by
  obtain ⟨a, b, c, _⟩ := (h.opn x).1 hx
  exact ⟨a, b, fun e => c (by rw [e]; exact hu)⟩
 have hOo : ∀ x ∈ s.opn, rd (s.order.set i.toNat (s.met + 1)) x = rd s.order x := fun x hx => by
  obtain ⟨a, _, c⟩ := hni x hx
  rw [hO x a, if_neg c]
 have hLo : ∀ x ∈ s.opn, rd (s.low.set i.toNat (s.met + 1)) x = rd s.low x := fun x hx => by
  obtain ⟨a, _, c⟩ := hni x hx
  rw [hLw x a, if_neg c]
 have hOi : rd (s.order.set i.toNat (s.met + 1)) i = s.met + 1 := by rw [hO i i0, if_pos rfl]
 have hLi : rd (s.low.set i.toNat (s.met + 1)) i = s.met + 1 := by rw [hLw i i0, if_pos rfl]
 have hle : ∀ x ∈ s.opn, rd s.order x ≤ s.met := fun x hx => (h.ord x (hni x hx).1 (hni x hx).2.1).2
 have hc1 : ∀ c ∈ cl, ∃ k ∈ s.calls, k.1 = c.1 := fun c hc => by
  have := List.mem_map_of_mem (f := Prod.fst) hc
  rw [hfst] at this
  exact List.mem_map.1 this
 have hc2 : ∀ k ∈ s.calls, ∃ c ∈ cl, c.1 = k.1 := fun k hk => by
  have := List.mem_map_of_mem (f := Prod.fst) hk
  rw [← hfst] at this
  exact List.mem_map.1 this
 have hco : ∀ c ∈ cl, c.1 ∈ s.opn := fun c hc => by
  obtain ⟨k, hk, e⟩ := hc1 c hc
  rw [← e]; exact (h.act k hk).1
 have hm0 := h.m0
 refine ⟨?_, ?_, h.lp, ?_, ?_, ?_, ?_, ?_, ?_, ?_, ?_, ?_, ?_, ?_, ?_, ?_, ?_⟩
 ·show (s.order.set _ _).length = n
  rw [List.length_set]; exact h.lo
 ·show (s.low.set _ _).length = n
  rw [List.length_set]; exact h.ll
 ·show 0 ≤ s.met + 1
  omega
 ·intro x hx hx'
  show 0 ≤ rd (s.order.set i.toNat (s.met + 1)) x ∧ rd (s.order.set i.toNat (s.met + 1)) x ≤ s.met + 1
  have := h.ord x hx hx'
  rw [hO x hx]; split <;> omega
 ·intro x y hx hx' hy hy' h1 h2
  change rd (s.order.set i.toNat (s.met + 1)) x ≠ 0 at h1
  change rd (s.order.set i.toNat (s.met + 1)) x = rd (s.order.set i.toNat (s.met + 1)) y at h2
  have ox := h.ord x hx hx'
  have oy := h.ord y hy hy'
  rw [hO x hx] at h1 h2
  rw [hO y hy] at h2
  split at h2 <;> split at h2
  ·omega
  ·omega
  ·omega
  ·rename_i c1 c2
   rw [if_neg c1] at h1
   exact h.inj x y hx hx' hy hy' h1 h2
 ·intro x hx hx' hz
  change rd (s.order.set i.toNat (s.met + 1)) x = 0 at hz
  rw [hO x hx] at hz
  split at hz
  ·omega
  ·exact h.new x hx hx' hz
 ·intro x
  show x ∈ s.opn ++ [i] ↔ (0 ≤ x ∧ x < (n : Int) ∧ rd (s.order.set i.toNat (s.met + 1)) x ≠ 0 ∧ rd s.part x = -1)
  rw [List.mem_append, List.mem_singleton]
  constructor
  ·rintro (hx | rfl)
   ·obtain ⟨a, b, c, d⟩ := (h.opn x).1 hx
    exact ⟨a, b, by rw [hOo x hx]; exact c, d⟩
   ·exact ⟨i0, i1, by rw [hOi]; omega, h.new _ i0 i1 hu⟩
  ·rintro ⟨a, b, c, d⟩
   by_cases e : x = i
   ·exact .inr e
   ·rw [hO x a, if_neg e] at c
    exact .inl ((h.opn x).2 ⟨a, b, c, d⟩)
 ·show (s.opn ++ [i]).Pairwise (fun a b => rd (s.order.set i.toNat (s.met + 1)) a < rd (s.order.set i.toNat (s.met + 1)) b)
  rw [List.pairwise_append]
  refine ⟨h.srt.imp_of_mem (fun ha hb hh => by rw [hOo _ ha, hOo _ hb]; exact hh), List.pairwise_singleton _ _, fun a ha b hb => ?_⟩
  rw [List.mem_singleton.1 hb, hOi, hOo a ha]
  have := hle a ha
  omega
 ·exact h.don
 ·intro c hc
  rcases List.mem_append.1 hc with hc | hc
  ·exact ⟨List.mem_append_left _ (hco c hc), hb c hc⟩
  ·rw [List.mem_singleton.1 hc]
   exact ⟨List.mem_append_right _ (by simp), Int.le_refl _, by simp⟩
 ·show (cl ++ [(i, (0 : Int))]).Pairwise (fun a b => rd (s.order.set i.toNat (s.met + 1)) a.1 < rd (s.order.set i.toNat (s.met + 1)) b.1)
  have h1 : (s.calls.map Prod.fst).Pairwise (fun a b => rd s.order a < rd s.order b) := List.pairwise_map.2 h.frm
  rw [← hfst] at h1
  have h2 := List.pairwise_map.1 h1
  rw [List.pairwise_append]
  refine ⟨h2.imp_of_mem (fun ha hb hh => by rw [hOo _ (hco _ ha), hOo _ (hco _ hb)]; exact hh), List.pairwise_singleton _ _, fun a ha b hb => ?_⟩
  rw [List.mem_singleton.1 hb, hOo _ (hco a ha)]
  have := hle _ (hco a ha)
  show rd s.order a.1 < rd (s.order.set i.toNat (s.met + 1)) i
  rw [hOi]
  omega
 ·intro x hx
  rcases List.mem_append.1 hx with hx | hx
  ·obtain ⟨k, hk, e⟩ := h.abv x hx
   obtain ⟨c, hc, e'⟩ := hc2 k hk
   refine ⟨c, List.mem_append_left _ hc, ?_⟩
   show rd (s.order.set i.toNat (s.met + 1)) c.1 ≤ rd (s.order.set i.toNat (s.met + 1)) x
   rw [hOo x hx, hOo _ (hco c hc), e']
   exact e
  ·exact ⟨(i, 0), List.mem_append_right _ (by simp), by rw [List.mem_singleton.1 hx]; exact Int.le_refl _⟩
 ·intro x hx c hc hle'
  change rd (s.order.set i.toNat (s.met + 1)) c.1 ≤ rd (s.order.set i.toNat (s.met + 1)) x at hle'
  rcases List.mem_append.1 hx with hx | hx
  ·rcases List.mem_append.1 hc with hc | hc
   ·obtain ⟨k, hk, e⟩ := hc1 c hc
    rw [hOo x hx, hOo _ (hco c hc)] at hle'
    rw [← e] at hle' ⊢
    exact h.dsc x hx k hk hle'
   ·rw [List.mem_singleton.1 hc, hOi, hOo x hx] at hle'
    have := hle x hx
    omega
  ·rw [List.mem_singleton.1 hx]
   rcases List.mem_append.1 hc with hc | hc
   ·exact hld c hc
   ·rw [List.mem_singleton.1 hc]; exact .refl _ _
 ·intro x hx
  show rd (s.low.set i.toNat (s.met + 1)) x ≤ rd (s.order.set i.toNat (s.met + 1)) x ∧ ∃ y ∈ s.opn ++ [i], rd (s.order.set i.toNat (s.met + 1)) y = rd (s.low.set i.toNat (s.met + 1)) x ∧ Leads next x y
  rcases List.mem_append.1 hx with hx | hx
  ·obtain ⟨h1, y, hy, h2, h3⟩ := h.low x hx
   rw [hOo x hx, hLo x hx]
   exact ⟨h1, y, List.mem_append_left _ hy, by rw [hOo y hy]; exact h2, h3⟩
  ·rw [List.mem_singleton.1 hx, hOi, hLi]
   exact ⟨Int.le_refl _, i, List.mem_append_right _ (by simp), hOi, .refl _ _⟩
 ·intro x hx hnf
  rcases List.mem_append.1 hx with hx | hx
  ·obtain ⟨h1, h2⟩ := h.fin x hx (fun k hk e => by
    obtain ⟨c, hc, e'⟩ := hc2 k hk
    exact hnf c (List.mem_append_left _ hc) (e'.trans e))
   show rd (s.low.set i.toNat (s.met + 1)) x < rd (s.order.set i.toNat (s.met + 1)) x ∧ ∀ c ∈ cl ++ [(i, (0 : Int))], rd (s.order.set i.toNat (s.met + 1)) c.1 ≤ rd (s.order.set i.toNat (s.met + 1)) x → (∀ c' ∈ cl ++ [(i, (0 : Int))], rd (s.order.set i.toNat (s.met + 1)) c'.1 ≤ rd (s.order.set i.toNat (s.met + 1)) x → rd (s.order.set i.toNat (s.met + 1)) c'.1 ≤ rd (s.order.set i.toNat (s.met + 1)) c.1) → rd (s.low.set i.toNat (s.met + 1)) c.1 ≤ rd (s.low.set i.toNat (s.met + 1)) x
   rw [hOo x hx, hLo x hx]
   refine ⟨h1, fun c hc hcx hmax => ?_⟩
   rcases List.mem_append.1 hc with hc | hc
   ·obtain ⟨k, hk, e⟩ := hc1 c hc
    rw [hOo _ (hco c hc)] at hcx hmax
    rw [hLo _ (hco c hc), ← e]
    rw [← e] at hcx hmax
    refine h2 k hk hcx (fun k' hk' hle' => ?_)
    obtain ⟨c', hc', e'⟩ := hc2 k' hk'
    have := hmax c' (List.mem_append_left _ hc')
    rw [hOo _ (hco c' hc'), e'] at this
    exact this hle'
   ·rw [List.mem_singleton.1 hc, hOi] at hcx
    have := hle x hx
    omega
  ·exact absurd (List.mem_singleton.1 hx).symm (hnf (i, 0) (List.mem_append_right _ (by simp)))
 ·intro x hx b hlb
  obtain ⟨hb1, hb2⟩ := hlb
  show rd (s.order.set i.toNat (s.met + 1)) b ≠ 0 ∧ (b ∈ s.opn ++ [i] → rd (s.low.set i.toNat (s.met + 1)) x ≤ rd (s.order.set i.toNat (s.met + 1)) b)
  rcases List.mem_append.1 hx with hx | hx
  ·rw [hLo x hx]
   have hlx := (h.low x hx).1
   have hox := hle x hx
   rcases hlk x hx b ⟨hb1, fun c hc => hb2 c (List.mem_append_left _ hc)⟩ with hs | rfl
   ·obtain ⟨e1, e2⟩ := h.edg x hx b hs
    have hbi : b ≠ i := fun e => e1 (by rw [e]; exact hu)
    rw [hO b (hin x b hb1).1, if_neg hbi]
    exact ⟨e1, fun hm => e2 ((List.mem_append.1 hm).resolve_right (fun e => hbi (List.mem_singleton.1 e)))⟩
   ·rw [hOi]
    exact ⟨by omega, fun _ => by omega⟩
  ·have := hb2 (i, 0) (List.mem_append_right _ (by simp)) (List.mem_singleton.1 hx).symm
   simp at this
theorem look_inv {next : List (List Int)} {n : Nat} {s : Srch} (h : TInv next n s) (a k : Int) (cl : List (Int × Int)) (low' : List Int) (hfst : cl.map Prod.fst = s.calls.map Prod.fst) (hb : ∀ c ∈ cl, 0 ≤ c.2 ∧ c.2 ≤ ((zAE next c.1).length : Int))
  (hlk : ∀ x ∈ s.opn, ∀ b, Looked next { s with calls := cl, low := low' } x b → Looked next s x b ∨ (x = a ∧ b = k)) (ha : ∃ c ∈ s.calls, c.1 = a) (hll : low'.length = n) (hsame : ∀ x ∈ s.opn, x ≠ a → rd low' x = rd s.low x) (hlow : rd low' a ≤ rd s.low a) (hto : ∃ y ∈ s.opn, rd s.order y = rd low' a ∧ Leads next a y) (hk : rd s.order k ≠ 0 ∧ (k ∈ s.opn → rd low' a ≤ rd s.order k)) :
  TInv next n { s with calls := cl, low := low' } := by
 have hc1 : ∀ c ∈ cl, ∃ k ∈ s.calls, k.1 = c.1 := fun c hc => by
  have := List.mem_map_of_mem (f := Prod.fst) hc
  rw [hfst] at this
  exact List.mem_map.1 this
 have hc2 : ∀ k ∈ s.calls, ∃ c ∈ cl, c.1 = k.1 := fun k hk => by
  have := List.mem_map_of_mem (f := Prod.fst) hk
  rw [← hfst] at this
  exact List.mem_map.1 this
 have hco : ∀ c ∈ cl, c.1 ∈ s.opn := fun c hc => by
  obtain ⟨k, hk, e⟩ := hc1 c hc
  rw [← e]; exact (h.act k hk).1
 have hle : ∀ x ∈ s.opn, rd low' x ≤ rd s.low x := fun x hx => by
  by_cases e : x = a
  ·rw [e]; exact hlow
  ·rw [hsame x hx e]; exact Int.le_refl _
 refine ⟨h.lo, hll, h.lp, h.m0, h.ord, h.inj, h.new, h.opn, h.srt, h.don, fun c hc => ⟨hco c hc, hb c hc⟩, ?_, ?_, ?_, ?_, ?_, ?_⟩
 ·have h1 : (s.calls.map Prod.fst).Pairwise (fun a b => rd s.order a < rd s.order b) := List.pairwise_map.2 h.frm
  rw [← hfst] at h1
  have h2 := List.pairwise_map.1 h1
  exact h2
 ·intro x hx
  obtain ⟨k, hk, e⟩ := h.abv x hx
  obtain ⟨c, hc, e'⟩ := hc2 k hk
  exact ⟨c, hc, by rw [e']; exact e⟩
 ·intro x hx c hc hle'
  obtain ⟨k, hk, e⟩ := hc1 c hc
  rw [← e] at hle' ⊢
  exact h.dsc x hx k hk hle'
 ·intro x hx
  refine ⟨Int.le_trans (hle x hx) (h.low x hx).1, ?_⟩
  by_cases e : x = a
  ·rw [e]; exact hto
  ·show ∃ y ∈ s.opn, rd s.order y = rd low' x ∧ Leads next x y
   rw [hsame x hx e]; exact (h.low x hx).2
 ·intro x hx hnf
  obtain ⟨h1, h2⟩ := h.fin x hx (fun k hk e => by
   obtain ⟨c, hc, e'⟩ := hc2 k hk
   exact hnf c hc (e'.trans e))
  have hxa : x ≠ a := fun e => by
   obtain ⟨k, hk, e'⟩ := ha
   obtain ⟨c, hc, e''⟩ := hc2 k hk
   exact hnf c hc (e''.trans (e'.trans e.symm))
  show rd low' x < rd s.order x ∧ ∀ c ∈ cl, rd s.order c.1 ≤ rd s.order x → (∀ c' ∈ cl, rd s.order c'.1 ≤ rd s.order x → rd s.order c'.1 ≤ rd s.order c.1) → rd low' c.1 ≤ rd low' x
  rw [hsame x hx hxa]
  refine ⟨h1, fun c hc hcx hmax => Int.le_trans (hle c.1 (hco c hc)) ?_⟩
  obtain ⟨k, hk, e⟩ := hc1 c hc
  rw [← e] at hcx hmax ⊢
  refine h2 k hk hcx (fun k' hk' hle' => ?_)
  obtain ⟨c', hc', e'⟩ := hc2 k' hk'
  have := hmax c' hc'
  rw [e'] at this
  exact this hle'
 ·intro x hx b hlb
  show rd s.order b ≠ 0 ∧ (b ∈ s.opn → rd low' x ≤ rd s.order b)
  rcases hlk x hx b hlb with hs | ⟨rfl, rfl⟩
  ·obtain ⟨e1, e2⟩ := h.edg x hx b hs
   exact ⟨e1, fun hm => Int.le_trans (hle x hx) (e2 hm)⟩
  ·exact hk
theorem leave_inv {next : List (List Int)} {n : Nat} {s : Srch} (h : TInv next n s) (a u j : Int) (ju : Int) (cl : List (Int × Int)) (low' : List Int) (hcl : s.calls = cl ++ [(u, ju)] ++ [(a, j)]) (hj : j = ((zAE next a).length : Int)) (hlt : rd s.low a < rd s.order a) (hll : low'.length = n) (hsame : ∀ x ∈ s.opn, x ≠ u → rd low' x = rd s.low x) (hu : rd low' u = min (rd s.low u) (rd s.low a)) :
  TInv next n { s with calls := cl ++ [(u, ju)], low := low' } := by
 have hsub : ∀ c ∈ cl ++ [(u, ju)], c ∈ s.calls := fun c hc => by rw [hcl]; exact List.mem_append_left _ hc
 have hac : (a, j) ∈ s.calls := by rw [hcl]; simp
 have huc : (u, ju) ∈ s.calls := hsub _ (by simp)
 have hao := (h.act _ hac).1
 have huo := (h.act _ huc).1
 have hf := h.frm
 rw [hcl, List.pairwise_append] at hf
 obtain ⟨hf1, _, hf2⟩ := hf
 have hua : rd s.order u < rd s.order a := hf2 (u, ju) (by simp) (a, j) (by simp)
 have hle : ∀ x ∈ s.opn, rd low' x ≤ rd s.low x := fun x hx => by
  by_cases e : x = u
  ·rw [e, hu]; exact Int.min_le_left _ _
  ·rw [hsame x hx e]; exact Int.le_refl _
 have hula : rd low' u ≤ rd s.low a := by rw [hu]; exact Int.min_le_right _ _
 have hau : a ≠ u := fun e => by rw [e] at hua; omega
 have hlast : ∀ c ∈ cl ++ [(u, ju)], rd s.order c.1 ≤ rd s.order u := fun c hc => by
  rcases List.mem_append.1 hc with hc | hc
  ·rw [List.pairwise_append] at hf1
   exact Int.le_of_lt (hf1.2.2 c hc (u, ju) (by simp))
  ·rw [List.mem_singleton.1 hc]; exact Int.le_refl _
 have hsplit : ∀ c ∈ s.calls, c ∈ cl ++ [(u, ju)] ∨ c = (a, j) := fun c hc => by
  rw [hcl] at hc
  exact (List.mem_append.1 hc).imp id List.mem_singleton.1
 refine ⟨h.lo, hll, h.lp, h.m0, h.ord, h.inj, h.new, h.opn, h.srt, h.don, fun c hc => h.act c (hsub c hc), hf1, ?_, fun x hx c hc => h.dsc x hx c (hsub c hc), ?_, ?_, ?_⟩
 ·intro x hx
  obtain ⟨c, hc, e⟩ := h.abv x hx
  rcases hsplit c hc with h1 | rfl
  ·exact ⟨c, h1, e⟩
  ·exact ⟨(u, ju), by simp, by show rd s.order u ≤ rd s.order x; have e : rd s.order a ≤ rd s.order x := e; omega⟩
 ·intro x hx
  refine ⟨Int.le_trans (hle x hx) (h.low x hx).1, ?_⟩
  show ∃ y ∈ s.opn, rd s.order y = rd low' x ∧ Leads next x y
  by_cases e : x = u
  ·subst e
   rw [hu]
   by_cases c : rd s.low x ≤ rd s.low a
   ·rw [Int.min_eq_left c]; exact (h.low x hx).2
   ·rw [Int.min_eq_right (by omega)]
    obtain ⟨y, hy, h1, h2⟩ := (h.low a hao).2
    exact ⟨y, hy, h1, (h.dsc a hao _ huc (Int.le_of_lt hua)).trans h2⟩
  ·rw [hsame x hx e]; exact (h.low x hx).2
 ·intro x hx hnf
  have hxu : x ≠ u := fun e => hnf (u, ju) (by simp) e.symm
  show rd low' x < rd s.order x ∧ ∀ c ∈ cl ++ [(u, ju)], rd s.order c.1 ≤ rd s.order x → (∀ c' ∈ cl ++ [(u, ju)], rd s.order c'.1 ≤ rd s.order x → rd s.order c'.1 ≤ rd s.order c.1) → rd low' c.1 ≤ rd low' x
  rw [hsame x hx hxu]
  have isu : ∀ c ∈ cl ++ [(u, ju)], rd s.order u ≤ rd s.order c.1 → c.1 = u := fun c hc hh => by
   obtain ⟨x0, x1, x2, _⟩ := (h.opn c.1).1 (h.act c (hsub c hc)).1
   obtain ⟨y0, y1, _, _⟩ := (h.opn u).1 huo
   exact h.inj c.1 u x0 x1 y0 y1 x2 (Int.le_antisymm (hlast c hc) hh)
  by_cases e : x = a
  ·subst e
   refine ⟨hlt, fun c hc hcx hmax => ?_⟩
   rw [isu c hc (hmax (u, ju) (by simp) (Int.le_of_lt hua))]
   exact hula
  ·obtain ⟨h1, h2⟩ := h.fin x hx (fun c hc e' => (hsplit c hc).elim (fun hc' => hnf c hc' e') (fun hc' => e (by rw [← e', hc'])))
   refine ⟨h1, fun c hc hcx hmax => ?_⟩
   by_cases g : rd s.order a ≤ rd s.order x
   ·rw [isu c hc (hmax (u, ju) (by simp) (by show rd s.order u ≤ rd s.order x; omega))]
    refine Int.le_trans hula (h2 (a, j) hac g (fun c' hc' _ => (hsplit c' hc').elim (fun hh => Int.le_trans (hlast c' hh) (Int.le_of_lt hua)) (fun hh => by rw [hh]; exact Int.le_refl _)))
   ·refine Int.le_trans (hle c.1 (h.act c (hsub c hc)).1) (h2 c (hsub c hc) hcx (fun c' hc' hle' => (hsplit c' hc').elim (fun hh => hmax c' hh hle') (fun hh => ?_)))
    rw [hh] at hle'
    exact absurd hle' g
 ·intro x hx b hlb
  obtain ⟨e1, e2⟩ := h.edg x hx b ⟨hlb.1, fun c hc e => (hsplit c hc).elim (fun hh => hlb.2 c hh e) (fun hh => by
   rw [hh] at e ⊢
   have e : a = x := e
   subst e
   show b ∈ (zAE next a).take j.toNat
   rw [hj, Int.toNat_natCast, List.take_length]
   exact hlb.1)⟩
  exact ⟨e1, fun hm => Int.le_trans (hle x hx) (e2 hm)⟩
theorem whole_inv {next : List (List Int)} {n : Nat} {s : Srch} (h : TInv next n s) (hin : ∀ a, ∀ b ∈ zAE next a, 0 ≤ b ∧ b < (n : Int)) (a j m : Int) (cl : List (Int × Int)) (o1 seg : List Int) (part' : List Int) (hcl : s.calls = cl ++ [(a, j)]) (hj : j = ((zAE next a).length : Int)) (hlow : rd s.low a = rd s.order a) (ho : s.opn = o1 ++ seg) (h1 : ∀ x ∈ o1, rd s.order x < rd s.order a) (h2 : ∀ x ∈ seg, rd s.order a ≤ rd s.order x)
  (hpl : part'.length = n) (hps : ∀ x ∈ seg, rd part' x = m) (hpo : ∀ x : Int, 0 ≤ x → x < (n : Int) → x ∉ seg → rd part' x = rd s.part x) (hm0 : 0 ≤ m) (hm : m ∈ seg) (hmin : ∀ x ∈ seg, m ≤ x) : TInv next n { s with calls := cl, part := part', opn := o1 } := by
 have hsub : ∀ c ∈ cl, c ∈ s.calls := fun c hc => by rw [hcl]; exact List.mem_append_left _ hc
 have hac : (a, j) ∈ s.calls := by rw [hcl]; simp
 have hsplit : ∀ c ∈ s.calls, c ∈ cl ∨ c = (a, j) := fun c hc => by
  rw [hcl] at hc
  exact (List.mem_append.1 hc).imp id List.mem_singleton.1
 have hf := h.frm
 rw [hcl, List.pairwise_append] at hf
 have hlt : ∀ c ∈ cl, rd s.order c.1 < rd s.order a := fun c hc => hf.2.2 c hc (a, j) (by simp)
 have hoo : ∀ x ∈ o1, x ∈ s.opn := fun x hx => by rw [ho]; exact List.mem_append_left _ hx
 have hso : ∀ x ∈ seg, x ∈ s.opn := fun x hx => by rw [ho]; exact List.mem_append_right _ hx
 have hin1 : ∀ x ∈ s.opn, rd s.order x < rd s.order a → x ∈ o1 := fun x hx hl => by
  rw [ho] at hx
  exact (List.mem_append.1 hx).resolve_right (fun hh => by have := h2 x hh; omega)
 have hin2 : ∀ x ∈ s.opn, rd s.order a ≤ rd s.order x → x ∈ seg := fun x hx hl => by
  rw [ho] at hx
  exact (List.mem_append.1 hx).resolve_left (fun hh => by have := h1 x hh; omega)
 have hno : ∀ x ∈ o1, x ∉ seg := fun x hx hh => by have := h1 x hx; have := h2 x hh; omega
 have htop := fun y => top_part h hin a ⟨_, hac, rfl⟩ (fun c hc e => (hsplit c hc).elim (fun hh => absurd (hlt c hh) (by rw [e]; omega)) (fun hh => by rw [hh]; exact hj)) (fun c hc => (hsplit c hc).elim (fun hh => Int.le_of_lt (hlt c hh)) (fun hh => by rw [hh]; exact Int.le_refl _)) hlow y
 have hleast : Least next a m := ⟨(htop m).2 ⟨hso m hm, h2 m hm⟩, fun z hz => hmin z (hin2 z ((htop z).1 hz).1 ((htop z).1 hz).2)⟩
 refine ⟨h.lo, h.ll, hpl, h.m0, h.ord, h.inj, ?_, ?_, ?_, ?_, ?_, hf.1, ?_, fun x hx c hc => h.dsc x (hoo x hx) c (hsub c hc), ?_, ?_, ?_⟩
 ·intro x hx hx' hz
  show rd part' x = -1
  rw [hpo x hx hx' (fun hh => ((h.opn x).1 (hso x hh)).2.2.1 hz)]
  exact h.new x hx hx' hz
 ·intro x
  show x ∈ o1 ↔ (0 ≤ x ∧ x < (n : Int) ∧ rd s.order x ≠ 0 ∧ rd part' x = -1)
  constructor
  ·intro hx
   obtain ⟨a1, a2, a3, a4⟩ := (h.opn x).1 (hoo x hx)
   exact ⟨a1, a2, a3, by rw [hpo x a1 a2 (hno x hx)]; exact a4⟩
  ·rintro ⟨a1, a2, a3, a4⟩
   have hns : x ∉ seg := fun hh => by rw [hps x hh] at a4; omega
   rw [hpo x a1 a2 hns] at a4
   have := (h.opn x).2 ⟨a1, a2, a3, a4⟩
   rw [ho] at this
   exact (List.mem_append.1 this).resolve_right hns
 ·have := h.srt
  rw [ho, List.pairwise_append] at this
  exact this.1
 ·intro x hx hx' hp
  show Least next x (rd part' x) ∧ ∀ b ∈ zAE next x, rd part' b ≠ -1
  have keep : ∀ b : Int, 0 ≤ b → b < (n : Int) → rd s.part b ≠ -1 → rd part' b ≠ -1 := fun b b0 b1 hb => by
   by_cases e : b ∈ seg
   ·rw [hps b e]; omega
   ·rw [hpo b b0 b1 e]; exact hb
  change rd part' x ≠ -1 at hp
  by_cases e : x ∈ seg
  ·rw [hps x e]
   refine ⟨hleast.same ((htop x).2 ⟨hso x e, h2 x e⟩), fun b hb => ?_⟩
   obtain ⟨b0, b1⟩ := hin x b hb
   by_cases eb : b ∈ seg
   ·rw [hps b eb]; omega
   ·refine keep b b0 b1 (fun hpb => ?_)
    have hxo := hso x e
    have hxa := h2 x e
    have hnf : x ≠ a → ∀ c ∈ s.calls, c.1 ≠ x := fun hne c hc ee => (hsplit c hc).elim (fun hh => by have := hlt c hh; rw [ee] at this; omega) (fun hh => hne (by rw [← ee, hh]))
    have hlx : rd s.order a ≤ rd s.low x := by
     by_cases ex : x = a
     ·rw [ex, hlow]; exact Int.le_refl _
     ·have := (h.fin x hxo (hnf ex)).2 (a, j) hac hxa (fun c' hc' _ => (hsplit c' hc').elim (fun hh => Int.le_of_lt (hlt c' hh)) (fun hh => by rw [hh]; exact Int.le_refl _))
      have this : rd s.low a ≤ rd s.low x := this
      omega
    obtain ⟨q1, q2⟩ := h.edg x hxo b ⟨hb, fun c hc ee => (hsplit c hc).elim (fun hh => by have := hlt c hh; rw [ee] at this; omega) (fun hh => by
     rw [hh] at ee ⊢
     have ee : a = x := ee
     subst ee
     show b ∈ (zAE next a).take j.toNat
     rw [hj, Int.toNat_natCast, List.take_length]
     exact hb)⟩
    have hbo := (h.opn b).2 ⟨b0, b1, q1, hpb⟩
    have := q2 hbo
    exact eb (hin2 b hbo (by omega))
  ·rw [hpo x hx hx' e] at hp ⊢
   obtain ⟨g1, g2⟩ := h.don x hx hx' hp
   exact ⟨g1, fun b hb => keep b (hin x b hb).1 (hin x b hb).2 (g2 b hb)⟩
 ·exact fun c hc => ⟨hin1 c.1 (h.act c (hsub c hc)).1 (hlt c hc), (h.act c (hsub c hc)).2⟩
 ·intro x hx
  obtain ⟨c, hc, e⟩ := h.abv x (hoo x hx)
  rcases hsplit c hc with hh | rfl
  ·exact ⟨c, hh, e⟩
  ·have := h1 x hx
   have e : rd s.order a ≤ rd s.order x := e
   omega
 ·intro x hx
  obtain ⟨g1, y, hy, g2, g3⟩ := h.low x (hoo x hx)
  have := h1 x hx
  exact ⟨g1, y, hin1 y hy (by omega), g2, g3⟩
 ·intro x hx hnf
  have hxa := h1 x hx
  obtain ⟨g1, g2⟩ := h.fin x (hoo x hx) (fun c hc e => (hsplit c hc).elim (fun hh => hnf c hh e) (fun hh => by rw [hh] at e; have e : a = x := e; rw [e] at hxa; omega))
  exact ⟨g1, fun c hc hcx hmax => g2 c (hsub c hc) hcx (fun c' hc' hle' => (hsplit c' hc').elim (fun hh => hmax c' hh hle') (fun hh => by rw [hh] at hle'; have hle' : rd s.order a ≤ rd s.order x := hle'; omega))⟩
 ·intro x hx b hlb
  have hxa := h1 x hx
  obtain ⟨e1, e2⟩ := h.edg x (hoo x hx) b ⟨hlb.1, fun c hc e => (hsplit c hc).elim (fun hh => hlb.2 c hh e) (fun hh => by rw [hh] at e; have e : a = x := e; rw [e] at hxa; omega)⟩
  exact ⟨e1, fun hm => e2 (hoo b hm)⟩
end Go.Proofs.Ytkcghbfmigdomaa.Pure
