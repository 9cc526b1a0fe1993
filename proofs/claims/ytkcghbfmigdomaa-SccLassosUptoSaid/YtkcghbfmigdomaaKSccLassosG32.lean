import Derived.Test.YtkcghbfmigdomaaKSccLassosG30
import Derived.Test.YtkcghbfmigdomaaKSccLassosG29
-- Cut by a program of this session (wip/prune.py) from a longer text: declarations that the law does not need are left out.
namespace Go.Proofs.Ytkcghbfmigdomaa.Pure
open Go.RowKit Go.Proofs.Ytkcghbfmigdomaa.Q Go.Proofs.Ytkcghbfmigdomaa.Base Go.Proofs.YtkcghbfmigdomaaW.PrintWords Go.Proofs.YtkcghbfmigdomaaW.PrintLast Go.Proofs.YtkcghbfmigdomaaW.PrintMore
set_option linter.unusedVariables false
set_option linter.unusedSectionVars false
set_option maxRecDepth 100000 in
theorem or_bits : ∀ a b : Fin 64, (0 ≤ Go.bits .or .i64 (a.val : Int) (b.val : Int) ∧ Go.bits .or .i64 (a.val : Int) (b.val : Int) < 64) ∧ ∀ s : Fin 6, (Go.bits .or .i64 (a.val : Int) (b.val : Int) / 2 ^ s.val % 2 = 1 ↔ ((a.val : Int) / 2 ^ s.val % 2 = 1 ∨ (b.val : Int) / 2 ^ s.val % 2 = 1)) := by decide +kernel
set_option maxRecDepth 100000 in
theorem full_bits : ∀ m : Fin 7, ∀ v : Fin 64, (v.val : Int) < 2 ^ m.val → ((v.val : Int) = 2 ^ m.val - 1 ↔ ∀ s : Fin 6, s.val < m.val → (v.val : Int) / 2 ^ s.val % 2 = 1) := by decide +kernel
set_option maxRecDepth 100000 in
theorem small_bits : ∀ m : Fin 7, ∀ v : Fin 64, (v.val : Int) < 2 ^ m.val ↔ ∀ s : Fin 6, m.val ≤ s.val → ¬ (v.val : Int) / 2 ^ s.val % 2 = 1 := by decide +kernel
def bitP (v : Int) (s : Nat) : Prop := v / 2 ^ s % 2 = 1
theorem or_ok {a b : Int} (a0 : 0 ≤ a) (a1 : a < 64) (b0 : 0 ≤ b) (b1 : b < 64) : (0 ≤ Go.bits .or .i64 a b ∧ Go.bits .or .i64 a b < 64) ∧ ∀ s, s < 6 → (bitP (Go.bits .or .i64 a b) s ↔ (bitP a s ∨ bitP b s)) := by
 obtain ⟨h1, h2⟩ := or_bits ⟨a.toNat, by omega⟩ ⟨b.toNat, by omega⟩
 simp only [Int.toNat_of_nonneg a0, Int.toNat_of_nonneg b0] at h1 h2
 exact ⟨h1, fun s hs => h2 ⟨s, hs⟩⟩
theorem or_small {a b m : Int} (m0 : 0 ≤ m) (m1 : m ≤ 6) (a0 : 0 ≤ a) (a1 : a < pow2 m) (b0 : 0 ≤ b) (b1 : b < pow2 m) : 0 ≤ Go.bits .or .i64 a b ∧ Go.bits .or .i64 a b < pow2 m := by
 have hp := pow2_bd m0 m1
 obtain ⟨⟨h1, h2⟩, h3⟩ := or_ok a0 (show a < 64 by omega) b0 (show b < 64 by omega)
 have sa := (small_bits ⟨m.toNat, by omega⟩ ⟨a.toNat, by omega⟩).1 (by simp only [Int.toNat_of_nonneg a0]; exact a1)
 have sb := (small_bits ⟨m.toNat, by omega⟩ ⟨b.toNat, by omega⟩).1 (by simp only [Int.toNat_of_nonneg b0]; exact b1)
 simp only [Int.toNat_of_nonneg a0] at sa
 simp only [Int.toNat_of_nonneg b0] at sb
 refine ⟨h1, ?_⟩
 have := (small_bits ⟨m.toNat, by omega⟩ ⟨(Go.bits .or .i64 a b).toNat, by omega⟩).2 (fun s hs h => by
  simp only [Int.toNat_of_nonneg h1] at h
  rcases (h3 s.val s.isLt).1 h with h | h
  ·exact sa s hs h
  ·exact sb s hs h)
 simp only [Int.toNat_of_nonneg h1] at this
 exact this
theorem full_ok {v m : Int} (m0 : 0 ≤ m) (m1 : m ≤ 6) (v0 : 0 ≤ v) (v1 : v < pow2 m) : v = pow2 m - 1 ↔ ∀ s : Nat, (s : Int) < m → bitP v s := by
 have hp := pow2_bd m0 m1
 have := full_bits ⟨m.toNat, by omega⟩ ⟨v.toNat, by omega⟩ (by simp only [Int.toNat_of_nonneg v0]; exact v1)
 simp only [Int.toNat_of_nonneg v0] at this
 refine this.trans ⟨fun h s hs => h ⟨s, by omega⟩ (by simp only; omega), fun h s hs => h s.val (by omega)⟩
theorem wrap_pow {many : Int} (m0 : 0 ≤ many) (m1 : many ≤ 6) : wrap64 (shl .i64 1 many - 1) = pow2 many - 1 := by
 have hb := pow2_bd m0 m1
 rw [shl_pow2 m0 m1, wrap_id (by omega) (by omega)]
section
variable (spots : List S63) (init : Int) (next : List (List Int)) (sets : List Int) (many : Int) (part : List Int) (n : Nat)
theorem tru_put {s : List Bool} {i : Int} {v : Bool} (h0 : 0 ≤ i) (h1 : i < (s.length : Int)) {x : Int} (hx : 0 ≤ x) : tru (s.set i.toNat v) x ↔ if x = i then v = true else tru s x := by
 unfold tru
 rw [List.getD_eq_getElem?_getD, List.getD_eq_getElem?_getD, List.getElem?_set]
 by_cases c : x = i
 ·subst c
  have hlt : x.toNat < s.length := by omega
  simp only [↓reduceIte, hlt, Option.getD_some]
 ·have c' : ¬ i.toNat = x.toNat := by omega
  simp only [c, c', ↓reduceIte]
def LoopAt (p t : Int) : Prop := ∃ k : Int, 0 ≤ k ∧ k < t ∧ rd part k = p ∧ ∃ b ∈ zAE next k, rd part b = p
def BitAt (p t : Int) (s : Nat) : Prop := ∃ k : Int, 0 ≤ k ∧ k < t ∧ rd part k = p ∧ bitP (rd sets k) s
def FairP (p : Int) : Prop := rd part p = p ∧ LoopAt next part p n ∧ ∀ s : Nat, (s : Int) < many → BitAt sets part p n s
theorem loopAt_succ (p : Int) (t : Nat) : LoopAt next part p ((t + 1 : Nat) : Int) ↔ LoopAt next part p t ∨ (p = rd part t ∧ ∃ b ∈ zAE next t, rd part b = rd part t) := by
 constructor
 ·rintro ⟨k, k0, k1, e, h⟩
  by_cases c : k < (t : Int)
  ·exact .inl ⟨k, k0, c, e, h⟩
  ·obtain rfl : k = (t : Int) := by omega
   exact .inr ⟨e.symm, by rw [e]; exact h⟩
 ·rintro (⟨k, k0, k1, e, h⟩ | ⟨e, h⟩)
  ·exact ⟨k, k0, by omega, e, h⟩
  ·exact ⟨t, by omega, by omega, e.symm, by rw [e]; exact h⟩
theorem bitAt_succ (p : Int) (t s : Nat) : BitAt sets part p ((t + 1 : Nat) : Int) s ↔ BitAt sets part p t s ∨ (p = rd part t ∧ bitP (rd sets t) s) := by
 constructor
 ·rintro ⟨k, k0, k1, e, h⟩
  by_cases c : k < (t : Int)
  ·exact .inl ⟨k, k0, c, e, h⟩
  ·obtain rfl : k = (t : Int) := by omega
   exact .inr ⟨e.symm, h⟩
 ·rintro (⟨k, k0, k1, e, h⟩ | ⟨e, h⟩)
  ·exact ⟨k, k0, by omega, e, h⟩
  ·exact ⟨t, by omega, by omega, e.symm, h⟩
variable (hN : next.length = n) (hP : part.length = n) (hp : ∀ x : Int, 0 ≤ x → x < (n : Int) → 0 ≤ rd part x ∧ rd part x < (n : Int)) (hS : sets.length = n) (hs : ∀ x : Int, 0 ≤ x → x < (n : Int) → 0 ≤ rd sets x ∧ rd sets x < pow2 many) (m0 : 0 ≤ many) (m1 : many ≤ 6) (hin : ∀ a, ∀ b ∈ zAE next a, 0 ≤ b ∧ b < (n : Int)) (hn : n ≤ 20000) (hl : ∀ a, (zAE next a).length ≤ 9223372036854775806)
include hN hP hp hS hs m0 m1 hin hn hl
theorem fair_row (P : List Bool → Prop) (i : Nat) (hi : i < n) (x7 : List Int) (L0 : List Bool)
  (hq : ∀ L : List Bool, L.length = n → (∀ p : Int, 0 ≤ p → p < (n : Int) → (tru L p ↔ tru L0 p ∨ (p = rd part i ∧ ∃ b ∈ zAE next i, rd part b = rd part i))) → ∃ o, P o ∧ Ev (fun k => zAJ.l0 k part n L x7 next n ((i + 1 : Nat) : Int) spots init next sets many) o) (d : Nat) :
  ∀ (j : Nat) (L : List Bool), j + d = (zAE next i).length → L.length = n → (∀ p : Int, 0 ≤ p → p < (n : Int) → (tru L p ↔ tru L0 p ∨ (p = rd part i ∧ ∃ b ∈ (zAE next i).take j, rd part b = rd part i))) → ∃ o, P o ∧ Ev (fun k => zAJ.l1 k part n L x7 i next n i (zAE next i) ((zAE next i).length : Int) j spots init next sets many) o := by
 have hli := hl (i : Int)
 induction d with
 | zero =>
  intro j L hj hL hh
  have c1 : ¬ (j : Int) < ((zAE next i).length : Int) := by omega
  have w1 : wrap64 ((i : Int) + 1) = ((i + 1 : Nat) : Int) := by rw [wrap_id (by omega) (by omega)]; rfl
  rw [List.take_of_length_le (by omega)] at hh
  obtain ⟨o, ho, he⟩ := hq L hL hh
  refine ⟨o, ho, ev_succ ?_⟩
  simp only [zAJ.l1, ↓reduceIte, c1, w1]
  exact he
 | succ d ih =>
  intro j L hj hL hh
  have hlt : j < (zAE next i).length := by omega
  have hmem : rd (zAE next i) j ∈ zAE next i := by rw [rd_get _ _ hlt]; exact List.getElem_mem hlt
  obtain ⟨b0, b1⟩ := hin i _ hmem
  obtain ⟨p0, p1⟩ := hp i (by omega) (by omega)
  have c1 : (j : Int) < ((zAE next i).length : Int) := by omega
  have c2 : (0 : Int) ≤ (j : Int) := by omega
  have c3 : rd (zAE next i) j < (part.length : Int) := by omega
  have c4 : (0 : Int) ≤ (i : Int) := by omega
  have c5 : (i : Int) < (part.length : Int) := by omega
  have c6 : rd part i < (L.length : Int) := by omega
  have w1 : wrap64 ((j : Int) + 1) = ((j + 1 : Nat) : Int) := by rw [wrap_id (by omega) (by omega)]; rfl
  have ht : (zAE next i).take (j + 1) = (zAE next i).take j ++ [rd (zAE next i) j] := by rw [List.take_succ_eq_append_getElem hlt, rd_get _ _ hlt]
  by_cases c : rd part (rd (zAE next i) j) = rd part i
  ·obtain ⟨o, ho, he⟩ := ih (j + 1) (L.set (rd part i).toNat true) (by omega) (by rw [List.length_set]; exact hL) (fun p q0 q1 => by
    rw [tru_set p0 c6 q0, hh p q0 q1, ht]
    simp only [List.mem_append, List.mem_singleton]
    constructor
    ·rintro (e | e | ⟨e, b, hb, e2⟩)
     ·exact .inr ⟨e, _, .inr rfl, c⟩
     ·exact .inl e
     ·exact .inr ⟨e, b, .inl hb, e2⟩
    ·rintro (e | ⟨e, _⟩)
     ·exact .inr (.inl e)
     ·exact .inl e)
   refine ⟨o, ho, ev_succ ?_⟩
   simp only [zAJ.l1, ↓reduceIte, c1, c2, b0, c3, c4, c5, c, p0, c6, w1]
   exact he
  ·obtain ⟨o, ho, he⟩ := ih (j + 1) L (by omega) hL (fun p q0 q1 => by
    rw [hh p q0 q1, ht]
    simp only [List.mem_append, List.mem_singleton]
    constructor
    ·rintro (e | ⟨e, b, hb, e2⟩)
     ·exact .inl e
     ·exact .inr ⟨e, b, .inl hb, e2⟩
    ·rintro (e | ⟨e, b, hb | hb, e2⟩)
     ·exact .inl e
     ·exact .inr ⟨e, b, hb, e2⟩
     ·exact absurd (hb ▸ e2) c)
   refine ⟨o, ho, ev_succ ?_⟩
   simp only [zAJ.l1, ↓reduceIte, c1, c2, b0, c3, c4, c5, c, w1]
   exact he
theorem fair_out (L : List Bool) (hL : L.length = n) (x7 : List Int) (h7 : x7.length = n) (d : Nat) : ∀ (j : Nat) (o : List Bool), j + d = n → o.length = n → (∀ p : Int, 0 ≤ p → p < (j : Int) → (tru o p ↔ rd part p = p ∧ tru L p ∧ rd x7 p = pow2 many - 1)) →
  ∃ q, (q.length = n ∧ ∀ p : Int, 0 ≤ p → p < (n : Int) → (tru q p ↔ rd part p = p ∧ tru L p ∧ rd x7 p = pow2 many - 1)) ∧ Ev (fun k => zAJ.l2 k part L x7 o (n : Int) j spots init next sets many) q := by
 have hw := wrap_pow m0 m1
 induction d with
 | zero =>
  intro j o hj ho hh
  have c1 : ¬ (j : Int) < (n : Int) := by omega
  refine ⟨o, ⟨ho, fun p q0 q1 => hh p q0 (by omega)⟩, ev_succ ?_⟩
  simp only [zAJ.l2, ↓reduceIte, c1]
  exact Ev.now _
 | succ d ih =>
  intro j o hj ho hh
  have c1 : (j : Int) < (n : Int) := by omega
  have c2 : (0 : Int) ≤ (j : Int) := by omega
  have c3 : (j : Int) < (part.length : Int) := by omega
  have c4 : (j : Int) < (L.length : Int) := by omega
  have c5 : (j : Int) < (x7.length : Int) := by omega
  have c6 : (j : Int) < (o.length : Int) := by omega
  have w1 : wrap64 ((j : Int) + 1) = ((j + 1 : Nat) : Int) := by rw [wrap_id (by omega) (by omega)]; rfl
  have step : ∀ v : Bool, (v = true ↔ rd part j = j ∧ tru L j ∧ rd x7 j = pow2 many - 1) → ∃ o', (o'.length = n ∧ ∀ p : Int, 0 ≤ p → p < (n : Int) → (tru o' p ↔ rd part p = p ∧ tru L p ∧ rd x7 p = pow2 many - 1)) ∧ Ev (fun k => zAJ.l2 k part L x7 (o.set (j : Int).toNat v) (n : Int) ((j + 1 : Nat) : Int) spots init next sets many) o' := fun v hv => ih (j + 1) (o.set (j : Int).toNat v) (by omega) (by rw [List.length_set]; exact ho) (fun p q0 q1 => by
   rw [tru_put c2 c6 q0]
   by_cases e : p = (j : Int)
   ·rw [if_pos e, hv, e]
   ·rw [if_neg e]; exact hh p q0 (Int.lt_iff_le_and_ne.2 ⟨Int.le_of_lt_add_one q1, e⟩))
  by_cases g1 : rd part j = j
  ·by_cases g2 : tru L j
   ·have g2' : rdOf false L j = true := g2
    obtain ⟨o', ho', he⟩ := step (rd x7 j == pow2 many - 1) (by rw [beq_iff_eq]; exact ⟨fun h => ⟨g1, g2, h⟩, fun h => h.2.2⟩)
    refine ⟨o', ho', ev_succ ?_⟩
    simp only [zAJ.l2, ↓reduceIte, c1, c2, c3, g1, c4, g2', c5, m0, c6, hw, w1]
    exact he
   ·have g2' : ¬ rdOf false L j = true := g2
    obtain ⟨o', ho', he⟩ := step false ⟨fun h => absurd h Bool.false_ne_true, fun h => absurd h.2.1 g2⟩
    refine ⟨o', ho', ev_succ ?_⟩
    simp only [zAJ.l2, ↓reduceIte, c1, c2, c3, g1, c4, g2', c6, w1, Bool.false_eq_true]
    exact he
  ·obtain ⟨o', ho', he⟩ := step false ⟨fun h => absurd h Bool.false_ne_true, fun h => absurd h.1 g1⟩
   refine ⟨o', ho', ev_succ ?_⟩
   simp only [zAJ.l2, ↓reduceIte, c1, c2, c3, g1, c6, w1]
   exact he
theorem fair_rows (d : Nat) : ∀ (i : Nat) (L : List Bool) (x7 : List Int), i + d = n → L.length = n → x7.length = n → (∀ p : Int, 0 ≤ p → p < (n : Int) → (tru L p ↔ LoopAt next part p i)) → (∀ p : Int, 0 ≤ p → p < (n : Int) → (0 ≤ rd x7 p ∧ rd x7 p < pow2 many) ∧ ∀ s : Nat, s < 6 → (bitP (rd x7 p) s ↔ BitAt sets part p i s)) →
  ∃ o, (o.length = n ∧ ∀ p : Int, 0 ≤ p → p < (n : Int) → (tru o p ↔ FairP next sets many part n p)) ∧ Ev (fun k => zAJ.l0 k part n L x7 next n i spots init next sets many) o := by
 induction d with
 | zero =>
  intro i L x7 hi hL h7 hh h8
  obtain rfl : i = n := by omega
  have c1 : ¬ (i : Int) < (i : Int) := by omega
  have c2 : (0 : Int) ≤ (i : Int) := by omega
  have c3 : i ≤ 281474976710656 := by omega
  obtain ⟨o, ⟨h1, h2⟩, he⟩ := fair_out spots init next sets many part i hN hP hp hS hs m0 m1 hin hn hl L hL x7 h7 i 0 (List.replicate i false) (by omega) (by simp) (fun p q0 q1 => by omega)
  refine ⟨o, ⟨h1, fun p q0 q1 => ?_⟩, ev_succ ?_⟩
  ·rw [h2 p q0 q1, hh p q0 q1, full_ok m0 m1 (h8 p q0 q1).1.1 (h8 p q0 q1).1.2]
   unfold FairP
   refine and_congr Iff.rfl (and_congr Iff.rfl ⟨fun h s hs => ((h8 p q0 q1).2 s (by omega)).1 (h s hs), fun h s hs => ((h8 p q0 q1).2 s (by omega)).2 (h s hs)⟩)
  ·simp only [zAJ.l0, ↓reduceIte, c1, c2, c3, Option.bind_some, List.length_replicate, Int.toNat_natCast]
   exact he
 | succ d ih =>
  intro i L x7 hi hL h7 hh h8
  obtain ⟨p0, p1⟩ := hp i (by omega) (by omega)
  have c1 : (i : Int) < (n : Int) := by omega
  have c2 : (0 : Int) ≤ (i : Int) := by omega
  have c3 : (i : Int) < (next.length : Int) := by omega
  have c4 : (i : Int) < (part.length : Int) := by omega
  have c5 : rd part i < (x7.length : Int) := by omega
  have c6 : (i : Int) < (sets.length : Int) := by omega
  have hb := pow2_bd m0 m1
  have hor := or_ok (h8 _ p0 p1).1.1 (show rd x7 (rd part i) < 64 by have := (h8 _ p0 p1).1.2; omega) (hs i (by omega) (by omega)).1 (show rd sets i < 64 by have := (hs i (by omega) (by omega)).2; omega)
  have hos := or_small m0 m1 (h8 _ p0 p1).1.1 (h8 _ p0 p1).1.2 (hs i (by omega) (by omega)).1 (hs i (by omega) (by omega)).2
  obtain ⟨o, ho, he⟩ := fair_row spots init next sets many part n hN hP hp hS hs m0 m1 hin hn hl (fun o => o.length = n ∧ ∀ p : Int, 0 ≤ p → p < (n : Int) → (tru o p ↔ FairP next sets many part n p)) i (by omega) (x7.set (rd part i).toNat (Go.bits .or .i64 (rd x7 (rd part i)) (rd sets i))) L
   (fun L' hL' hh' => ih (i + 1) L' _ (by omega) hL' (by rw [List.length_set]; exact h7) (fun p q0 q1 => by
    rw [hh' p q0 q1, hh p q0 q1, loopAt_succ]) (fun p q0 q1 => by
    rw [rd_set p0 c5 q0]
    by_cases e : p = rd part i
    ·rw [if_pos e]
     refine ⟨hos, fun s hs => ?_⟩
     rw [hor.2 s hs, (h8 _ p0 p1).2 s hs, bitAt_succ, e]
     exact ⟨fun h => h.imp id (fun h => ⟨rfl, h⟩), fun h => h.imp id (fun h => h.2)⟩
    ·rw [if_neg e]
     refine ⟨(h8 p q0 q1).1, fun s hs => ?_⟩
     rw [(h8 p q0 q1).2 s hs, bitAt_succ]
     exact ⟨.inl, fun h => h.elim id (fun h => absurd h.1 e)⟩)) (zAE next i).length 0 L (by omega) hL (fun p q0 q1 => ⟨.inl, fun h => h.elim id (fun h => by obtain ⟨_, b, hb, _⟩ := h; simp at hb)⟩)
  refine ⟨o, ho, ev_succ ?_⟩
  simp only [zAJ.l0, ↓reduceIte, c1, c2, c3, c4, p0, c5, c6]
  exact he
theorem fair_all (hsp : spots.length = n) : ∃ o, (o.length = n ∧ ∀ p : Int, 0 ≤ p → p < (n : Int) → (tru o p ↔ FairP next sets many part n p)) ∧ Ev (fun k => zAJ.f k spots init next sets many part) o := by
 have hb := pow2_bd m0 m1
 have hf : ∀ p : Int, ¬ tru (List.replicate n false) p := fun p h => by
  unfold tru at h; rw [List.getD_eq_getElem?_getD, List.getElem?_replicate] at h; split at h <;> simp at h
 have hz : ∀ p : Int, rd (List.replicate n (0 : Int)) p = 0 := fun p => by
  unfold rd; rw [List.getD_eq_getElem?_getD, List.getElem?_replicate]; split <;> rfl
 have hb0 : ∀ s : Nat, s < 6 → ¬ bitP 0 s := fun s _ h => by unfold bitP at h; simp at h
 obtain ⟨o, ho, he⟩ := fair_rows spots init next sets many part n hN hP hp hS hs m0 m1 hin hn hl n 0 (List.replicate n false) (List.replicate n 0) (by omega) (by simp) (by simp) (fun p q0 q1 => ⟨fun h => absurd h (hf p), fun ⟨k, k0, k1, _⟩ => by omega⟩) (fun p q0 q1 => by
  rw [hz]
  exact ⟨by omega, fun s hs => ⟨fun h => absurd h (hb0 s hs), fun ⟨k, k0, k1, _⟩ => by omega⟩⟩)
 refine ⟨o, ho, ?_⟩
 unfold zAJ.f
 have c1 : (0 : Int) ≤ (n : Int) := by omega
 have c2 : n ≤ 281474976710656 := by omega
 have c3 : n ≤ 35184372088832 := by omega
 simp only [hsp, c1, c2, c3, ↓reduceIte, Int.toNat_natCast, hN]
 exact he
end
end Go.Proofs.Ytkcghbfmigdomaa.Pure
-- Cut by a program of this session (wip/prune.py) from a longer text: declarations that the law does not need are left out.
namespace Go.Proofs.Ytkcghbfmigdomaa.Pure
open Go.RowKit Go.Proofs.Ytkcghbfmigdomaa.Q Go.Proofs.Ytkcghbfmigdomaa.Base Go.Proofs.YtkcghbfmigdomaaW.PrintWords Go.Proofs.YtkcghbfmigdomaaW.PrintLast Go.Proofs.YtkcghbfmigdomaaW.PrintMore
set_option linter.unusedVariables false
set_option linter.unusedSectionVars false
set_option linter.unusedSimpArgs false
theorem succ_le {x : Nat} {y : Int} (h : (x : Int) ≤ y) (c : ¬ y = (x : Int)) : ((x + 1 : Nat) : Int) ≤ y := by omega
theorem of_succ_le {x : Nat} {y : Int} (h : ((x + 1 : Nat) : Int) ≤ y) : (x : Int) ≤ y := by omega
theorem bit_test {a : Int} {s : Nat} (a0 : 0 ≤ a) (a1 : a < 64) (hp : 1 ≤ pow2 (s : Int)) : ((Int.tmod (wrap64 (Int.tdiv a (pow2 (s : Int)))) 2) == 1) = true ↔ bitP a s := by
 have hq : 0 ≤ a / pow2 (s : Int) := Int.ediv_nonneg a0 (by omega)
 have hq1 : a / pow2 (s : Int) ≤ a := Int.ediv_le_self _ a0
 have hw : wrap64 (a / pow2 (s : Int)) = a / pow2 (s : Int) := by
  generalize a / pow2 (s : Int) = q at hq hq1
  exact wrap_id (by omega) (by omega)
 rw [tdiv_of a0, hw, tmod_of hq, beq_iff_eq]
 unfold bitP pow2
 rw [Int.toNat_natCast]
section
variable (spots : List S63) (init : Int) (next : List (List Int)) (sets : List Int) (many : Int) (part : List Int) (n : Nat) (seen : List Bool)
variable (hN : next.length = n) (hP : part.length = n) (hp : ∀ x : Int, 0 ≤ x → x < (n : Int) → 0 ≤ rd part x ∧ rd part x < (n : Int)) (hS : sets.length = n) (hs : ∀ x : Int, 0 ≤ x → x < (n : Int) → 0 ≤ rd sets x ∧ rd sets x < pow2 many) (m0 : 0 ≤ many) (m1 : many ≤ 6) (hin : ∀ a, ∀ b ∈ zAE next a, 0 ≤ b ∧ b < (n : Int)) (hn : n ≤ 20000) (hl : ∀ a, (zAE next a).length ≤ 9223372036854775806) (hsn : seen.length = n) (i : Nat) (hi : i < n)
include hN hP hp hS hs m0 m1 hin hn hl hsn hi
theorem ref_row (x : Nat) (hx : x < n) (d : Nat) : ∀ (j : Nat) (b : Bool), j + d = (zAE next x).length → ∃ β : Bool, (β = true ↔ b = true ∨ (rd part x = i ∧ ∃ y ∈ (zAE next x).drop j, rd part y = i)) ∧ ∀ r, Ev (fun k => zAC.l1 k part seen i β ((x + 1 : Nat) : Int) spots init next sets many) r → Ev (fun k => zAC.l2 k part seen i b x j spots init next sets many) r := by
 have hlx := hl (x : Int)
 have c1 : (0 : Int) ≤ (x : Int) := by omega
 have c2 : (x : Int) < (next.length : Int) := by omega
 have c4 : (x : Int) < (part.length : Int) := by omega
 induction d with
 | zero =>
  intro j b hj
  have c3 : ¬ (j : Int) < ((zAE next x).length : Int) := by omega
  have w1 : wrap64 ((x : Int) + 1) = ((x + 1 : Nat) : Int) := by rw [wrap_id (by omega) (by omega)]; rfl
  refine ⟨b, ⟨.inl, fun h => h.elim id (fun h => by rw [List.drop_of_length_le (by omega)] at h; obtain ⟨_, y, hy, _⟩ := h; cases hy)⟩, fun r hr => ev_succ ?_⟩
  simp only [zAC.l2, ↓reduceIte, c1, c2, c3, w1]
  exact hr
 | succ d ih =>
  intro j b hj
  have hlt : j < (zAE next x).length := by omega
  have hmem : rd (zAE next x) j ∈ zAE next x := by rw [rd_get _ _ hlt]; exact List.getElem_mem hlt
  obtain ⟨b0, b1⟩ := hin x _ hmem
  have c3 : (j : Int) < ((zAE next x).length : Int) := by omega
  have c5 : (0 : Int) ≤ (j : Int) := by omega
  have c6 : rd (zAE next x) j < (part.length : Int) := by omega
  have w1 : wrap64 ((j : Int) + 1) = ((j + 1 : Nat) : Int) := by rw [wrap_id (by omega) (by omega)]; rfl
  have hd : (zAE next x).drop j = rd (zAE next x) j :: (zAE next x).drop (j + 1) := by rw [List.drop_eq_getElem_cons hlt, rd_get _ _ hlt]
  by_cases hb : b = true
  ·obtain ⟨β, h1, h2⟩ := ih (j + 1) true (by omega)
   refine ⟨β, h1.trans ⟨fun _ => .inl hb, fun _ => .inl rfl⟩, fun r hr => ev_succ ?_⟩
   simp only [zAC.l2, ↓reduceIte, c1, c2, c3, hb, w1]
   exact h2 r hr
  ·by_cases hq : rd part x = i
   ·obtain ⟨β, h1, h2⟩ := ih (j + 1) (rd part (rd (zAE next x) j) == (i : Int)) (by omega)
    refine ⟨β, ?_, fun r hr => ev_succ ?_⟩
    ·rw [h1, hd, beq_iff_eq]
     simp only [hb, Bool.false_eq_true, hq, true_and, false_or, List.mem_cons, exists_eq_or_imp]
    ·simp only [zAC.l2, ↓reduceIte, c1, c2, c3, hb, c4, hq, c5, b0, c6, w1]
     exact h2 r hr
   ·obtain ⟨β, h1, h2⟩ := ih (j + 1) false (by omega)
    refine ⟨β, ?_, fun r hr => ev_succ ?_⟩
    ·rw [h1]
     simp only [hb, hq, false_and, or_false, Bool.false_eq_true]
    ·simp only [zAC.l2, ↓reduceIte, c1, c2, c3, hb, c4, hq, w1]
     exact h2 r hr
theorem ref_rows (d : Nat) : ∀ (x : Nat) (b : Bool), x + d = n → ∃ β : Bool, (β = true ↔ b = true ∨ ∃ y : Int, (x : Int) ≤ y ∧ y < (n : Int) ∧ rd part y = i ∧ ∃ z ∈ zAE next y, rd part z = i) ∧ ∀ r, Ev (fun k => zAC.l3 k part seen i β 1 0 spots init next sets many) r → Ev (fun k => zAC.l1 k part seen i b x spots init next sets many) r := by
 induction d with
 | zero =>
  intro x b hx
  have c1 : ¬ (x : Int) < (part.length : Int) := by omega
  refine ⟨b, ⟨.inl, fun h => h.elim id (fun ⟨y, y0, y1, _⟩ => by omega)⟩, fun r hr => ev_succ ?_⟩
  simp only [zAC.l1, ↓reduceIte, c1]
  exact hr
 | succ d ih =>
  intro x b hx
  have c1 : (x : Int) < (part.length : Int) := by omega
  obtain ⟨β1, g1, g2⟩ := ref_row spots init next sets many part n seen hN hP hp hS hs m0 m1 hin hn hl hsn i hi x (by omega) (zAE next x).length 0 b (by omega)
  obtain ⟨β, h1, h2⟩ := ih (x + 1) β1 (by omega)
  refine ⟨β, ?_, fun r hr => ev_succ ?_⟩
  ·rw [h1, g1, List.drop_zero]
   constructor
   ·rintro ((h | ⟨h, h'⟩) | ⟨y, y0, y1, h⟩)
    ·exact .inl h
    ·exact .inr ⟨x, by omega, by omega, h, h'⟩
    ·exact .inr ⟨y, by omega, y1, h⟩
   ·rintro (h | ⟨y, y0, y1, h, h'⟩)
    ·exact .inl (.inl h)
    ·by_cases c : y = (x : Int)
     ·subst c; exact .inl (.inr ⟨h, h'⟩)
     ·exact .inr ⟨y, by omega, y1, h, h'⟩
  ·simp only [zAC.l1, ↓reduceIte, c1]
   exact g2 _ (h2 r hr)
theorem ref_bit (s : Nat) (hs6 : (s : Int) < many) (x9 : Bool) (d : Nat) : ∀ (x : Nat) (b : Bool), x + d = n → ∃ β : Bool, (β = true ↔ b = true ∨ ∃ y : Int, (x : Int) ≤ y ∧ y < (n : Int) ∧ rd part y = i ∧ bitP (rd sets y) s) ∧ ∀ r, Ev (fun k => zAC.l3 k part seen i (if x9 = true then β else false) (pow2 ((s + 1 : Nat) : Int)) ((s + 1 : Nat) : Int) spots init next sets many) r → Ev (fun k => zAC.l4 k part seen i x9 (pow2 s) s b x spots init next sets many) r := by
 have HPM := Aside0.mk (pow2_bd m0 m1)
 have HPS := Aside0.mk (pow2_bd (m := (s : Int)) (by omega) (by omega))
 have HC6 := Aside0.mk (show ¬ pow2 (s : Int) = 0 by have := HPS.out; omega)
 induction d with
 | zero =>
  intro x b hx
  have c1 : ¬ (x : Int) < (part.length : Int) := by omega
  have w1 : wrap64 ((s : Int) + 1) = ((s + 1 : Nat) : Int) := by rw [wrap_id (by omega) (by omega)]; rfl
  have w2 : wrap64 (pow2 (s : Int) * 2) = pow2 ((s + 1 : Nat) : Int) := by
   rw [wrap_id (by have := HPS.out; omega) (by have := HPS.out; omega)]
   unfold pow2
   rw [Int.toNat_natCast, Int.toNat_natCast, Int.pow_succ]
  refine ⟨b, ⟨.inl, fun h => h.elim id (fun ⟨y, y0, y1, _⟩ => by omega)⟩, fun r hr => ev_succ ?_⟩
  simp only [zAC.l4, ↓reduceIte, c1, w1, w2]
  by_cases h9 : x9 = true
  ·simp only [h9, ↓reduceIte] at hr ⊢; exact hr
  ·simp only [h9, ↓reduceIte] at hr ⊢; exact hr
 | succ d ih =>
  intro x b hx
  have c1 : (x : Int) < (part.length : Int) := by omega
  have c2 : (0 : Int) ≤ (x : Int) := by omega
  have c3 : (x : Int) < (sets.length : Int) := by omega
  have w1 : wrap64 ((x : Int) + 1) = ((x + 1 : Nat) : Int) := by rw [wrap_id (by omega) (by omega)]; rfl
  have v0 := (hs x (by omega) (by omega)).1
  have h64 : rd sets x < 64 := Int.lt_of_lt_of_le (hs x (by omega) (by omega)).2 HPM.out.2
  by_cases hb : b = true
  ·obtain ⟨β, h1, h2⟩ := ih (x + 1) true (by omega)
   refine ⟨β, h1.trans ⟨fun _ => .inl hb, fun _ => .inl rfl⟩, fun r hr => ev_succ ?_⟩
   simp only [zAC.l4, ↓reduceIte, c1, hb, w1]
   exact h2 r hr
  ·have hxn : (x : Int) < (n : Int) := by omega
   have split : (∃ y : Int, (x : Int) ≤ y ∧ y < (n : Int) ∧ rd part y = i ∧ bitP (rd sets y) s) ↔ (rd part x = i ∧ bitP (rd sets x) s) ∨ ∃ y : Int, ((x + 1 : Nat) : Int) ≤ y ∧ y < (n : Int) ∧ rd part y = i ∧ bitP (rd sets y) s := by
    constructor
    ·rintro ⟨y, y0, y1, h⟩
     by_cases c : y = (x : Int)
     ·subst c; exact .inl h
     ·exact .inr ⟨y, succ_le y0 c, y1, h⟩
    ·rintro (h | ⟨y, y0, y1, h⟩)
     ·exact ⟨x, Int.le_refl _, hxn, h⟩
     ·exact ⟨y, of_succ_le y0, y1, h⟩
   by_cases hq : rd part x = i
   ·obtain ⟨β, h1, h2⟩ := ih (x + 1) ((Int.tmod (wrap64 (Int.tdiv (rd sets x) (pow2 (s : Int)))) 2) == 1) (by omega)
    refine ⟨β, ?_, fun r hr => ev_succ ?_⟩
    ·rw [h1, split, bit_test v0 h64 HPS.out.1]
     simp only [hb, Bool.false_eq_true, hq, true_and, false_or]
    ·have c6 := HC6.out
     simp only [zAC.l4, ↓reduceIte, c1, hb, c2, hq, c3, c6, w1]
     exact h2 r hr
   ·obtain ⟨β, h1, h2⟩ := ih (x + 1) false (by omega)
    refine ⟨β, ?_, fun r hr => ev_succ ?_⟩
    ·rw [h1, split]
     simp only [hb, hq, false_and, false_or, Bool.false_eq_true]
    ·simp only [zAC.l4, ↓reduceIte, c1, hb, c2, hq, w1]
     exact h2 r hr
theorem ref_bits (d : Nat) : ∀ (s : Nat) (x9 : Bool), (s : Int) + d = many → ∃ β : Bool, (β = true ↔ x9 = true ∧ ∀ s' : Nat, s ≤ s' → (s' : Int) < many → BitAt sets part i n s') ∧ ∀ r, (β = true → r = ((i : Int), (0 : Int))) → (β = false → Ev (fun k => zAC.l0 k part seen ((i + 1 : Nat) : Int) spots init next sets many) r) → Ev (fun k => zAC.l3 k part seen i x9 (pow2 s) s spots init next sets many) r := by
 induction d with
 | zero =>
  intro s x9 hs0
  have c1 : ¬ (s : Int) < many := by omega
  have w1 : wrap64 ((i : Int) + 1) = ((i + 1 : Nat) : Int) := by rw [wrap_id (by omega) (by omega)]; rfl
  refine ⟨x9, ⟨fun h => ⟨h, fun s' h1 h2 => by omega⟩, fun h => h.1⟩, fun r hr hr' => ev_succ ?_⟩
  simp only [zAC.l3, ↓reduceIte, c1, w1]
  cases x9 with
  | true => rw [hr rfl]; exact Ev.now _
  | false => exact hr' rfl
 | succ d ih =>
  intro s x9 hs0
  have c1 : (s : Int) < many := by omega
  obtain ⟨β1, g1, g2⟩ := ref_bit spots init next sets many part n seen hN hP hp hS hs m0 m1 hin hn hl hsn i hi s c1 x9 n 0 false (by omega)
  obtain ⟨β, h1, h2⟩ := ih (s + 1) (if x9 = true then β1 else false) (by omega)
  have g3 : β1 = true ↔ BitAt sets part i n s := by
   rw [g1]
   simp only [Bool.false_eq_true, false_or]
   exact ⟨fun ⟨y, h⟩ => ⟨y, h⟩, fun ⟨y, h⟩ => ⟨y, h⟩⟩
  refine ⟨β, ?_, fun r hr hr' => ev_succ ?_⟩
  ·rw [h1]
   cases x9 with
   | false => simp
   | true =>
    simp only [↓reduceIte, true_and, g3]
    constructor
    ·rintro ⟨h, h'⟩ s' k1 k2
     by_cases e : s' = s
     ·rw [e]; exact h
     ·exact h' s' (by omega) k2
    ·exact fun h => ⟨h s (Nat.le_refl _) c1, fun s' k1 k2 => h s' (by omega) k2⟩
  ·simp only [zAC.l3, ↓reduceIte, c1]
   exact g2 _ (h2 r hr hr')
theorem ref_spot (hq : rd part i = i) : ∃ β : Bool, (β = true ↔ FairP next sets many part n i) ∧ ∀ r, (β = true → r = ((i : Int), (0 : Int))) → (β = false → Ev (fun k => zAC.l0 k part seen ((i + 1 : Nat) : Int) spots init next sets many) r) → Ev (fun k => zAC.l1 k part seen i false 0 spots init next sets many) r := by
 obtain ⟨β1, g1, g2⟩ := ref_rows spots init next sets many part n seen hN hP hp hS hs m0 m1 hin hn hl hsn i hi n 0 false (by omega)
 obtain ⟨β, h1, h2⟩ := ref_bits spots init next sets many part n seen hN hP hp hS hs m0 m1 hin hn hl hsn i hi many.toNat 0 β1 (by omega)
 refine ⟨β, ?_, fun r hr hr' => g2 _ (h2 r hr hr')⟩
 rw [h1, g1]
 unfold FairP
 simp only [Bool.false_eq_true, false_or, hq, true_and]
 refine and_congr ⟨fun ⟨y, h⟩ => ⟨y, h⟩, fun ⟨y, h⟩ => ⟨y, h⟩⟩ ⟨fun h s k => h s (Nat.zero_le _) k, fun h s _ k => h s k⟩
end
section
variable (spots : List S63) (init : Int) (next : List (List Int)) (sets : List Int) (many : Int) (part : List Int) (n : Nat) (seen : List Bool)
variable (hN : next.length = n) (hP : part.length = n) (hp : ∀ x : Int, 0 ≤ x → x < (n : Int) → 0 ≤ rd part x ∧ rd part x < (n : Int)) (hS : sets.length = n) (hs : ∀ x : Int, 0 ≤ x → x < (n : Int) → 0 ≤ rd sets x ∧ rd sets x < pow2 many) (m0 : 0 ≤ many) (m1 : many ≤ 6) (hin : ∀ a, ∀ b ∈ zAE next a, 0 ≤ b ∧ b < (n : Int)) (hn : n ≤ 20000) (hl : ∀ a, (zAE next a).length ≤ 9223372036854775806) (hsn : seen.length = n)
include hN hP hp hS hs m0 m1 hin hn hl hsn
theorem fair_both (o : List Bool) (ho : o.length = n) (hh : ∀ p : Int, 0 ≤ p → p < (n : Int) → (tru o p ↔ FairP next sets many part n p)) (d : Nat) : ∀ i : Nat, i + d = n → ∃ r, Ev (fun k => zAS.l0 k seen o (n : Int) i) r ∧ Ev (fun k => zAC.l0 k part seen i spots init next sets many) r ∧ (r.2 = 0 → 0 ≤ r.1 ∧ r.1 < (n : Int) ∧ FairP next sets many part n r.1 ∧ tru seen r.1) := by
 induction d with
 | zero =>
  intro i hi
  have c1 : ¬ (i : Int) < (n : Int) := by omega
  have c2 : ¬ (i : Int) < (part.length : Int) := by omega
  refine ⟨(0, 11), ev_succ ?_, ev_succ ?_, fun h => (by simp at h)⟩
  ·simp only [zAS.l0, ↓reduceIte, c1]; exact Ev.now _
  ·simp only [zAC.l0, ↓reduceIte, c2]; exact Ev.now _
 | succ d ih =>
  intro i hi
  have c1 : (i : Int) < (n : Int) := by omega
  have c2 : (i : Int) < (part.length : Int) := by omega
  have c3 : (0 : Int) ≤ (i : Int) := by omega
  have c4 : (i : Int) < (o.length : Int) := by omega
  have c5 : (i : Int) < (seen.length : Int) := by omega
  have w1 : wrap64 ((i : Int) + 1) = ((i + 1 : Nat) : Int) := by rw [wrap_id (by omega) (by omega)]; rfl
  obtain ⟨r, e1, e2, e3⟩ := ih (i + 1) (by omega)
  have hhi := hh i c3 c1
  have refskip : Ev (fun k => zAC.j1 k part seen i true spots init next sets many) r := by
   refine ev_succ ?_
   simp only [zAC.j1, ↓reduceIte, w1]
   exact e2
  by_cases hq : rd part i = i
  ·by_cases hsi : rdOf false seen i = true
   ·obtain ⟨β, h1, h2⟩ := ref_spot spots init next sets many part n seen hN hP hp hS hs m0 m1 hin hn hl hsn i (by omega) hq
    have hβ : rdOf false o i = true ↔ β = true := hhi.trans h1.symm
    refine ⟨if β = true then ((i : Int), 0) else r, ev_succ ?_, ev_succ ?_, ?_⟩
    ·by_cases hb : β = true
     ·simp only [zAS.l0, ↓reduceIte, c1, c3, c4, hβ.2 hb, c5, hsi, hb]; exact Ev.now _
     ·have : ¬ rdOf false o i = true := fun h => hb (hβ.1 h)
      simp only [zAS.l0, ↓reduceIte, c1, c3, c4, this, hb, w1]; exact e1
    ·simp only [zAC.l0, ↓reduceIte, c2, c3, hq, c5, hsi, Bool.not_true]
     refine ev_succ ?_
     simp only [zAC.j1, Bool.false_eq_true, ↓reduceIte]
     exact h2 _ (fun h => by rw [if_pos h]) (fun h => by rw [if_neg (by rw [h]; simp)]; exact e2)
    ·by_cases hb : β = true
     ·rw [if_pos hb]; exact fun _ => ⟨c3, c1, h1.1 hb, hsi⟩
     ·rw [if_neg hb]; exact e3
   ·have hsf : rdOf false seen i = false := Bool.eq_false_iff.2 hsi
    refine ⟨r, ev_succ ?_, ev_succ ?_, e3⟩
    ·by_cases hb : rdOf false o i = true
     ·simp only [zAS.l0, ↓reduceIte, c1, c3, c4, hb, c5, hsi, w1]; exact e1
     ·simp only [zAS.l0, ↓reduceIte, c1, c3, c4, hb, w1]; exact e1
    ·simp only [zAC.l0, ↓reduceIte, c2, c3, hq, c5, hsf, Bool.not_false]
     exact refskip
  ·have hb : ¬ rdOf false o i = true := fun h => hq (hhi.1 h).1
   refine ⟨r, ev_succ ?_, ev_succ ?_, e3⟩
   ·simp only [zAS.l0, ↓reduceIte, c1, c3, c4, hb, w1]; exact e1
   ·simp only [zAC.l0, ↓reduceIte, c2, c3, hq]
    exact refskip
end
end Go.Proofs.Ytkcghbfmigdomaa.Pure
namespace Go.Proofs.Ytkcghbfmigdomaa.Pure
open Go.RowKit Go.Proofs.Ytkcghbfmigdomaa.Q Go.Proofs.Ytkcghbfmigdomaa.Base Go.Proofs.YtkcghbfmigdomaaW.PrintWords Go.Proofs.YtkcghbfmigdomaaW.PrintLast Go.Proofs.YtkcghbfmigdomaaW.PrintMore
set_option linter.unusedVariables false
theorem restIn_sets {n p : Int} : ∀ {next : List (List Int)} {sets : List Int}, restIn n p next sets = true → next.length = sets.length → ∀ s ∈ sets, 0 ≤ s ∧ s < p
 | [], [], _, _ => fun s hs => by cases hs
 | [], _ :: _, _, h => by simp at h
 | _ :: _, [], _, h => by simp at h
 | l :: ls, s :: ss, h, hl => by
  simp only [restIn, Bool.and_eq_true, decide_eq_true_eq] at h
  intro x hx
  rcases List.mem_cons.1 hx with rfl | hx
  ·exact h.1.2
  ·exact restIn_sets h.2 (by simpa using hl) x hx
theorem fairs_both {x0 : S26} (good0 : G26 x0) (ht : tot x0.f2 ≤ 1048576) :
  (graphOK x0.f0.length x0.f1 x0.f2 x0.f3 x0.f4 = true ∧ ∃ p seen r, GoodP x0.f2 x0.f0.length p ∧ Ev (fun k => zAP.f k x0.f0 x0.f1 x0.f2 x0.f3 x0.f4) (p, 0) ∧ GoodR x0.f2 (fun x => 0 ≤ x ∧ x < x0.f1) x0.f0.length seen ∧ (∀ x : Int, 0 ≤ x → x < (x0.f0.length : Int) → 0 ≤ rd x0.f3 x ∧ rd x0.f3 x < pow2 x0.f4) ∧ Ev (fun k => zAS.f k x0.f0 x0.f1 x0.f2 x0.f3 x0.f4) r ∧ Ev (fun k => zAC.f k x0.f0 x0.f1 x0.f2 x0.f3 x0.f4) r ∧ (r.2 = 0 → 0 ≤ r.1 ∧ r.1 < (x0.f0.length : Int) ∧ FairP x0.f2 x0.f3 x0.f4 p x0.f0.length r.1 ∧ tru seen r.1)) ∨
  (graphOK x0.f0.length x0.f1 x0.f2 x0.f3 x0.f4 = false ∧ Ev (fun k => zAS.f k x0.f0 x0.f1 x0.f2 x0.f3 x0.f4) (0, 9) ∧ Ev (fun k => zAC.f k x0.f0 x0.f1 x0.f2 x0.f3 x0.f4) (0, 9)) := by
 by_cases hg : graphOK x0.f0.length x0.f1 x0.f2 x0.f3 x0.f4 = true
 ·have h := graphIs hg
  obtain ⟨p, g1, e1, e2⟩ := parts_both good0 ht h hg
  obtain ⟨seen, s1, e3, e4⟩ := reach_both good0 hg h.ns h.n h.i0 h.i1 h.inn
  have hp : ∀ x : Int, 0 ≤ x → x < (x0.f0.length : Int) → 0 ≤ rd p x ∧ rd p x < (x0.f0.length : Int) := fun x q0 q1 => leads_in h.inn q0 q1 (g1.2 x q0 q1).1.1
  have hgs : ∀ s ∈ x0.f3, 0 ≤ s ∧ s < pow2 x0.f4 := by
   have hg' := hg
   unfold graphOK at hg'
   rw [Bool.and_eq_true] at hg'
   exact restIn_sets hg'.2 (by have := h.ns; have := h.nt; omega)
  have hs : ∀ x : Int, 0 ≤ x → x < (x0.f0.length : Int) → 0 ≤ rd x0.f3 x ∧ rd x0.f3 x < pow2 x0.f4 := fun x q0 q1 => hgs _ (by
   have := h.nt
   have hlt : x.toNat < x0.f3.length := by omega
   unfold rd
   rw [List.getD_eq_getElem?_getD, List.getElem?_eq_getElem hlt]
   exact List.getElem_mem _)
  have hl : ∀ a, (zAE x0.f2 a).length ≤ 9223372036854775806 := fun a => rd_rows (Q := fun l => l.length ≤ 9223372036854775806) (by decide) (fun l hl => by have := (good0.2.2.1.2 l hl).1; omega) a
  obtain ⟨o, ⟨ho, hh⟩, e5⟩ := fair_all x0.f0 x0.f1 x0.f2 x0.f3 x0.f4 p x0.f0.length h.ns g1.1 hp h.nt hs h.m0 h.m1 h.inn h.n hl rfl
  obtain ⟨r, e6, e7, e8⟩ := fair_both x0.f0 x0.f1 x0.f2 x0.f3 x0.f4 p x0.f0.length seen h.ns g1.1 hp h.nt hs h.m0 h.m1 h.inn h.n hl s1.1 o ho hh x0.f0.length 0 (by omega)
  refine .inl ⟨hg, p, seen, r, g1, e1, s1, hs, ?_, ?_, e8⟩
  ·unfold zAS.f
   refine ev_bind e1 ?_
   simp only [↓reduceIte]
   refine ev_bind e3 (ev_bind e5 ?_)
   rw [ho]
   exact e6
  ·unfold zAC.f
   refine ev_bind e2 ?_
   simp only [↓reduceIte]
   exact ev_bind e4 e7
 ·obtain ⟨e1, e2⟩ := parts_fault good0 (Bool.eq_false_iff.2 hg)
  have n9 : ¬ (9 : Int) = 0 := by decide
  refine .inr ⟨Bool.eq_false_iff.2 hg, ?_, ?_⟩
  ·unfold zAS.f
   refine ev_bind e1 ?_
   simp only [↓reduceIte, n9]
   exact Ev.now _
  ·unfold zAC.f
   refine ev_bind e2 ?_
   simp only [↓reduceIte, n9]
   exact Ev.now _
theorem lead_of {next : List (List Int)} {x y : Int} (h : Leads next x y) : LeadN (fun i => zAE next i) x y := by
 unfold Leads at h
 induction h with
 | start z e => rw [e]; exact .refl
 | step a b _ hb ih => exact .step a b ih hb
theorem of_lead {next : List (List Int)} {x y : Int} (h : LeadN (fun i => zAE next i) x y) : Leads next x y := by
 induction h with
 | refl => exact Leads.refl next x
 | step a b _ hb ih => exact .step a b ih hb
theorem lead_from {next : List (List Int)} {init x : Int} (h : Reach next (fun z => 0 ≤ z ∧ z < init) x) : ∃ a, (0 ≤ a ∧ a < init) ∧ LeadN (fun i => zAE next i) a x := by
 induction h with
 | start z e => exact ⟨z, e, .refl⟩
 | step a b _ hb ih =>
  obtain ⟨c, hc, hl⟩ := ih
  exact ⟨c, hc, .step a b hl hb⟩
theorem part_iff {next : List (List Int)} {part : List Int} {n : Nat} {home x : Int} (gp : GoodP next n part) (h0 : 0 ≤ home) (h1 : home < (n : Int)) (hh : rd part home = home) (x0 : 0 ≤ x) (x1 : x < (n : Int)) :
  (rd part x == home) = true ↔ LeadN (fun i => zAE next i) x home ∧ LeadN (fun i => zAE next i) home x := by
 rw [beq_iff_eq]
 have hx := gp.2 x x0 x1
 have hm := gp.2 home h0 h1
 constructor
 ·intro e
  rw [e] at hx
  exact ⟨lead_of hx.1.1, lead_of hx.1.2⟩
 ·rintro ⟨a, b⟩
  have : Least next home (rd part x) := hx.same ⟨of_lead a, of_lead b⟩
  rw [this.unique hm, hh]
theorem rangeW_mem (init : Int) (x : Int) : x ∈ rangeW init ↔ 0 ≤ x ∧ x < init := by
 unfold rangeW
 rw [List.mem_map]
 constructor
 ·rintro ⟨i, hi, rfl⟩
  rw [List.mem_range] at hi
  omega
 ·rintro ⟨a, b⟩
  exact ⟨x.toNat, List.mem_range.2 (by omega), by omega⟩
theorem rangeW_nodup (init : Int) : (rangeW init).Nodup := by
 unfold rangeW
 refine List.Pairwise.map _ (fun a b h => ?_) List.nodup_range
 intro e
 exact h (by omega)
theorem lasso_fits {next : List (List Int)} {sets part : List Int} {many init home : Int} {n : Nat} {seen : List Bool} (hin : ∀ a, ∀ b ∈ zAE next a, 0 ≤ b ∧ b < (n : Int)) (gp : GoodP next n part) (gr : GoodR next (fun x => 0 ≤ x ∧ x < init) n seen)
  (hs : ∀ x : Int, 0 ≤ x → x < (n : Int) → 0 ≤ rd sets x ∧ rd sets x < pow2 many) (m0 : 0 ≤ many) (m1 : many ≤ 6) (i1 : init ≤ (n : Int)) (h0 : 0 ≤ home) (h1 : home < (n : Int)) (hf : FairP next sets many part n home) (ht : tru seen home) {fuel : Nat} (hfu : n + 1 ≤ fuel) :
  ∃ stem loop, lassoW (fun i => zAE next i) (fun x => rd part x == home) (fun i => rd sets i) bitW (Go.bits .or .i64) fuel many.toNat (rangeW init) home = some (stem, loop) ∧
   FitsW (fun i => zAE next i) (fun i => rd sets i) bitW n many.toNat (rangeW init) stem loop := by
 obtain ⟨f1, ⟨k, k0, k1, k2, kb, kb1, kb2⟩, f3⟩ := hf
 obtain ⟨p0, p1⟩ := pow2_bd m0 m1
 refine lassoW_ok (okV := fun v => 0 ≤ v ∧ v < 64) (fun a _ _ k hk => hin a k hk) ⟨h0, h1⟩ (fun x x0 x1 => part_iff gp h0 h1 f1 x0 x1) (fun a b ha hb => ?_) (fun x x0 x1 => ?_) (fun s hsm => ?_) ⟨k, k0, k1, by rw [k2]; simp, kb, kb1, by rw [kb2]; simp⟩ (rangeW_nodup init) (fun x hx => ?_) ?_ hfu
 ·obtain ⟨q1, q2⟩ := or_ok ha.1 ha.2 hb.1 hb.2
  refine ⟨q1, fun s hsm => ?_⟩
  have := q2 s (by omega)
  unfold bitP at this
  unfold bitW
  rw [Bool.eq_iff_iff, Bool.or_eq_true, decide_eq_true_iff, decide_eq_true_iff, decide_eq_true_iff]
  exact this
 ·have := hs x x0 x1
  omega
 ·obtain ⟨x, x0, x1, x2, x3⟩ := f3 s (by omega)
  exact ⟨x, x0, x1, by rw [x2]; simp, decide_eq_true x3⟩
 ·have := (rangeW_mem init x).1 hx
  omega
 ·obtain ⟨a, ha, hl⟩ := lead_from ((gr.2 home h0 h1).1 ht)
  exact ⟨a, (rangeW_mem init a).2 ha, hl⟩
end Go.Proofs.Ytkcghbfmigdomaa.Pure
