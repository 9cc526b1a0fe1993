-- Cut by a program of this session (wip/prune.py) from a longer text: declarations that the law does not need are left out.
import Derived.Test.YtkakmghadhafjaaKSccFairsQx25
import Derived.Test.YtkakmghadhafjaaKSccFairsQx26
import Derived.Test.YtkakmghadhafjaaKSccFairsMRounds
namespace Go.Proofs.Ytkakmghadhafjaa.Pure
open Go.RowKit Go.Proofs.Ytkakmghadhafjaa.Q Go.Proofs.Ytkakmghadhafjaa.Base Go.Proofs.YtkakmghadhafjaaW.PrintWords Go.Proofs.YtkakmghadhafjaaW.PrintLast Go.Proofs.YtkakmghadhafjaaW.PrintMore
set_option linter.unusedVariables false
set_option linter.unusedSectionVars false
set_option maxRecDepth 100000 in
theorem or_bits : ∀ a b : Fin 64, (0 ≤ Go.bits .or .i64 (a.val : Int) (b.val : Int) ∧ Go.bits .or .i64 (a.val : Int) (b.val : Int) < 64) ∧ ∀ s : Fin 6, (Go.bits .or .i64 (a.val : Int) (b.val : Int) / 2 ^ s.val % 2 = 1 ↔ ((a.val : Int) / 2 ^ s.val % 2 = 1 ∨ (b.val : Int) / 2 ^ s.val % 2 = 1)) := by decide +kernel
set_option maxRecDepth 100000 in
theorem full_bits : ∀ m : Fin 7, ∀ v : Fin 64, (v.val : Int) < 2 ^ m.val → ((v.val : Int) = 2 ^ m.val - 1 ↔ ∀ s : Fin 6, s.val < m.val → (v.val : Int) / 2 ^ s.val % 2 = 1) := by decide +kernel
set_option maxRecDepth 100000 in
theorem small_bits : ∀ m : Fin 7, ∀ v : Fin 64, (v.val : Int) < 2 ^ m.val ↔ ∀ s : Fin 6, m.val ≤ s.val → ¬ (v.val : Int) / 2 ^ s.val % 2 = 1 := by decide +kernel
def bitP (v : Int) (s : Nat) : Prop := v / 2 ^ s % 2 = 1
theorem or_ok {a b : Int} (a0 : 0 ≤ a) (a1 : a < 64) (b0 : 0 ≤ b) (b1 : b < 64) : (0 ≤ Go.bits .or .i64 a b ∧ Go.bits .or .i64 a b < 64) ∧ ∀ s, s < 6 → (bitP (Go.bits .or .i64 a b) s ↔ (bitP a s ∨ bitP b s)) := by
  obtain ⟨h1, h2⟩ := or_bits ⟨a.toNat, by omega⟩ ⟨b.toNat, by omega⟩
  simp only [Int.toNat_of_nonneg a0, Int.toNat_of_nonneg b0] at h1 h2
  exact ⟨h1, fun s hs => h2 ⟨s, hs⟩⟩
theorem or_small {a b m : Int} (m0 : 0 ≤ m) (m1 : m ≤ 6) (a0 : 0 ≤ a) (a1 : a < pow2 m) (b0 : 0 ≤ b) (b1 : b < pow2 m) : 0 ≤ Go.bits .or .i64 a b ∧ Go.bits .or .i64 a b < pow2 m := by
  have hp := pow2_bd m0 m1
  obtain ⟨⟨h1, h2⟩, h3⟩ := or_ok a0 (show a < 64 by omega) b0 (show b < 64 by omega)
  have sa := (small_bits ⟨m.toNat, by omega⟩ ⟨a.toNat, by omega⟩).1 (by simp only [Int.toNat_of_nonneg a0]; exact a1)
  have sb := (small_bits ⟨m.toNat, by omega⟩ ⟨b.toNat, by omega⟩).1 (by simp only [Int.toNat_of_nonneg b0]; exact b1)
  simp only [Int.toNat_of_nonneg a0] at sa
  simp only [Int.toNat_of_nonneg b0] at sb
  refine ⟨h1, ?_⟩
  have := (small_bits ⟨m.toNat, by omega⟩ ⟨(Go.bits .or .i64 a b).toNat, by omega⟩).2 (fun s hs h => by
    simp only [Int.toNat_of_nonneg h1] at h
    rcases (h3 s.val s.isLt).1 h with h | h
    · exact sa s hs h
    · exact sb s hs h)
  simp only [Int.toNat_of_nonneg h1] at this
  exact this
theorem full_ok {v m : Int} (m0 : 0 ≤ m) (m1 : m ≤ 6) (v0 : 0 ≤ v) (v1 : v < pow2 m) : v = pow2 m - 1 ↔ ∀ s : Nat, (s : Int) < m → bitP v s := by
  have hp := pow2_bd m0 m1
  have := full_bits ⟨m.toNat, by omega⟩ ⟨v.toNat, by omega⟩ (by simp only [Int.toNat_of_nonneg v0]; exact v1)
  simp only [Int.toNat_of_nonneg v0] at this
  refine this.trans ⟨fun h s hs => h ⟨s, by omega⟩ (by simp only; omega), fun h s hs => h s.val (by omega)⟩
theorem wrap_pow {many : Int} (m0 : 0 ≤ many) (m1 : many ≤ 6) : wrap64 (shl .i64 1 many - 1) = pow2 many - 1 := by
  have hb := pow2_bd m0 m1
  rw [shl_pow2 m0 m1, wrap_id (by omega) (by omega)]
section
variable (spots : List S98) (init : Int) (next : List (List Int)) (sets : List Int) (many : Int) (part : List Int) (n : Nat)
theorem tru_put {s : List Bool} {i : Int} {v : Bool} (h0 : 0 ≤ i) (h1 : i < (s.length : Int)) {x : Int} (hx : 0 ≤ x) : tru (s.set i.toNat v) x ↔ if x = i then v = true else tru s x := by
  unfold tru
  rw [List.getD_eq_getElem?_getD, List.getD_eq_getElem?_getD, List.getElem?_set]
  by_cases c : x = i
  · subst c
    have hlt : x.toNat < s.length := by omega
    simp only [↓reduceIte, hlt, Option.getD_some]
  · have c' : ¬ i.toNat = x.toNat := by omega
    simp only [c, c', ↓reduceIte]
def LoopAt (p t : Int) : Prop := ∃ k : Int, 0 ≤ k ∧ k < t ∧ rd part k = p ∧ ∃ b ∈ rd_L3 next k, rd part b = p
def BitAt (p t : Int) (s : Nat) : Prop := ∃ k : Int, 0 ≤ k ∧ k < t ∧ rd part k = p ∧ bitP (rd sets k) s
def FairP (p : Int) : Prop := rd part p = p ∧ LoopAt next part p n ∧ ∀ s : Nat, (s : Int) < many → BitAt sets part p n s
theorem loopAt_succ (p : Int) (t : Nat) : LoopAt next part p ((t + 1 : Nat) : Int) ↔ LoopAt next part p t ∨ (p = rd part t ∧ ∃ b ∈ rd_L3 next t, rd part b = rd part t) := by
  constructor
  · rintro ⟨k, k0, k1, e, h⟩
    by_cases c : k < (t : Int)
    · exact .inl ⟨k, k0, c, e, h⟩
    · obtain rfl : k = (t : Int) := by omega
      exact .inr ⟨e.symm, by rw [e]; exact h⟩
  · rintro (⟨k, k0, k1, e, h⟩ | ⟨e, h⟩)
    · exact ⟨k, k0, by omega, e, h⟩
    · exact ⟨t, by omega, by omega, e.symm, by rw [e]; exact h⟩
theorem bitAt_succ (p : Int) (t s : Nat) : BitAt sets part p ((t + 1 : Nat) : Int) s ↔ BitAt sets part p t s ∨ (p = rd part t ∧ bitP (rd sets t) s) := by
  constructor
  · rintro ⟨k, k0, k1, e, h⟩
    by_cases c : k < (t : Int)
    · exact .inl ⟨k, k0, c, e, h⟩
    · obtain rfl : k = (t : Int) := by omega
      exact .inr ⟨e.symm, h⟩
  · rintro (⟨k, k0, k1, e, h⟩ | ⟨e, h⟩)
    · exact ⟨k, k0, by omega, e, h⟩
    · exact ⟨t, by omega, by omega, e.symm, h⟩
variable (hN : next.length = n) (hP : part.length = n) (hp : ∀ x : Int, 0 ≤ x → x < (n : Int) → 0 ≤ rd part x ∧ rd part x < (n : Int)) (hS : sets.length = n) (hs : ∀ x : Int, 0 ≤ x → x < (n : Int) → 0 ≤ rd sets x ∧ rd sets x < pow2 many) (m0 : 0 ≤ many) (m1 : many ≤ 6) (hin : ∀ a, ∀ b ∈ rd_L3 next a, 0 ≤ b ∧ b < (n : Int)) (hn : n ≤ 20000) (hl : ∀ a, (rd_L3 next a).length ≤ 9223372036854775806)
include hN hP hp hS hs m0 m1 hin hn hl
theorem fair_row (P : List Bool → Prop) (i : Nat) (hi : i < n) (x7 : List Int) (L0 : List Bool)
    (hq : ∀ L : List Bool, L.length = n → (∀ p : Int, 0 ≤ p → p < (n : Int) → (tru L p ↔ tru L0 p ∨ (p = rd part i ∧ ∃ b ∈ rd_L3 next i, rd part b = rd part i))) → ∃ o, P o ∧ Ev (fun k => scc_fair.l0 k part n L x7 next n ((i + 1 : Nat) : Int) spots init next sets many) o) (d : Nat) :
    ∀ (j : Nat) (L : List Bool), j + d = (rd_L3 next i).length → L.length = n → (∀ p : Int, 0 ≤ p → p < (n : Int) → (tru L p ↔ tru L0 p ∨ (p = rd part i ∧ ∃ b ∈ (rd_L3 next i).take j, rd part b = rd part i))) → ∃ o, P o ∧ Ev (fun k => scc_fair.l1 k part n L x7 i next n i (rd_L3 next i) ((rd_L3 next i).length : Int) j spots init next sets many) o := by
  have hli := hl (i : Int)
  induction d with
  | zero =>
    intro j L hj hL hh
    have c1 : ¬ (j : Int) < ((rd_L3 next i).length : Int) := by omega
    have w1 : wrap64 ((i : Int) + 1) = ((i + 1 : Nat) : Int) := by rw [wrap_id (by omega) (by omega)]; rfl
    rw [List.take_of_length_le (by omega)] at hh
    obtain ⟨o, ho, he⟩ := hq L hL hh
    refine ⟨o, ho, ev_succ ?_⟩
    simp only [scc_fair.l1, ↓reduceIte, c1, w1]
    exact he
  | succ d ih =>
    intro j L hj hL hh
    have hlt : j < (rd_L3 next i).length := by omega
    have hmem : rd (rd_L3 next i) j ∈ rd_L3 next i := by rw [rd_get _ _ hlt]; exact List.getElem_mem hlt
    obtain ⟨b0, b1⟩ := hin i _ hmem
    obtain ⟨p0, p1⟩ := hp i (by omega) (by omega)
    have c1 : (j : Int) < ((rd_L3 next i).length : Int) := by omega
    have c2 : (0 : Int) ≤ (j : Int) := by omega
    have c3 : rd (rd_L3 next i) j < (part.length : Int) := by omega
    have c4 : (0 : Int) ≤ (i : Int) := by omega
    have c5 : (i : Int) < (part.length : Int) := by omega
    have c6 : rd part i < (L.length : Int) := by omega
    have w1 : wrap64 ((j : Int) + 1) = ((j + 1 : Nat) : Int) := by rw [wrap_id (by omega) (by omega)]; rfl
    have ht : (rd_L3 next i).take (j + 1) = (rd_L3 next i).take j ++ [rd (rd_L3 next i) j] := by rw [List.take_succ_eq_append_getElem hlt, rd_get _ _ hlt]
    by_cases c : rd part (rd (rd_L3 next i) j) = rd part i
    · obtain ⟨o, ho, he⟩ := ih (j + 1) (L.set (rd part i).toNat true) (by omega) (by rw [List.length_set]; exact hL) (fun p q0 q1 => by
        rw [tru_set p0 c6 q0, hh p q0 q1, ht]
        simp only [List.mem_append, List.mem_singleton]
        constructor
        · rintro (e | e | ⟨e, b, hb, e2⟩)
          · exact .inr ⟨e, _, .inr rfl, c⟩
          · exact .inl e
          · exact .inr ⟨e, b, .inl hb, e2⟩
        · rintro (e | ⟨e, _⟩)
          · exact .inr (.inl e)
          · exact .inl e)
      refine ⟨o, ho, ev_succ ?_⟩
      simp only [scc_fair.l1, ↓reduceIte, c1, c2, b0, c3, c4, c5, c, p0, c6, w1]
      exact he
    · obtain ⟨o, ho, he⟩ := ih (j + 1) L (by omega) hL (fun p q0 q1 => by
        rw [hh p q0 q1, ht]
        simp only [List.mem_append, List.mem_singleton]
        constructor
        · rintro (e | ⟨e, b, hb, e2⟩)
          · exact .inl e
          · exact .inr ⟨e, b, .inl hb, e2⟩
        · rintro (e | ⟨e, b, hb | hb, e2⟩)
          · exact .inl e
          · exact .inr ⟨e, b, hb, e2⟩
          · exact absurd (hb ▸ e2) c)
      refine ⟨o, ho, ev_succ ?_⟩
      simp only [scc_fair.l1, ↓reduceIte, c1, c2, b0, c3, c4, c5, c, w1]
      exact he
theorem fair_out (L : List Bool) (hL : L.length = n) (x7 : List Int) (h7 : x7.length = n) (d : Nat) : ∀ (j : Nat) (o : List Bool), j + d = n → o.length = n → (∀ p : Int, 0 ≤ p → p < (j : Int) → (tru o p ↔ rd part p = p ∧ tru L p ∧ rd x7 p = pow2 many - 1)) →
    ∃ q, (q.length = n ∧ ∀ p : Int, 0 ≤ p → p < (n : Int) → (tru q p ↔ rd part p = p ∧ tru L p ∧ rd x7 p = pow2 many - 1)) ∧ Ev (fun k => scc_fair.l2 k part L x7 o (n : Int) j spots init next sets many) q := by
  have hw := wrap_pow m0 m1
  induction d with
  | zero =>
    intro j o hj ho hh
    have c1 : ¬ (j : Int) < (n : Int) := by omega
    refine ⟨o, ⟨ho, fun p q0 q1 => hh p q0 (by omega)⟩, ev_succ ?_⟩
    simp only [scc_fair.l2, ↓reduceIte, c1]
    exact Ev.now _
  | succ d ih =>
    intro j o hj ho hh
    have c1 : (j : Int) < (n : Int) := by omega
    have c2 : (0 : Int) ≤ (j : Int) := by omega
    have c3 : (j : Int) < (part.length : Int) := by omega
    have c4 : (j : Int) < (L.length : Int) := by omega
    have c5 : (j : Int) < (x7.length : Int) := by omega
    have c6 : (j : Int) < (o.length : Int) := by omega
    have w1 : wrap64 ((j : Int) + 1) = ((j + 1 : Nat) : Int) := by rw [wrap_id (by omega) (by omega)]; rfl
    have step : ∀ v : Bool, (v = true ↔ rd part j = j ∧ tru L j ∧ rd x7 j = pow2 many - 1) → ∃ o', (o'.length = n ∧ ∀ p : Int, 0 ≤ p → p < (n : Int) → (tru o' p ↔ rd part p = p ∧ tru L p ∧ rd x7 p = pow2 many - 1)) ∧ Ev (fun k => scc_fair.l2 k part L x7 (o.set (j : Int).toNat v) (n : Int) ((j + 1 : Nat) : Int) spots init next sets many) o' := fun v hv => ih (j + 1) (o.set (j : Int).toNat v) (by omega) (by rw [List.length_set]; exact ho) (fun p q0 q1 => by
      rw [tru_put c2 c6 q0]
      by_cases e : p = (j : Int)
      · rw [if_pos e, hv, e]
      · rw [if_neg e]; exact hh p q0 (Int.lt_iff_le_and_ne.2 ⟨Int.le_of_lt_add_one q1, e⟩))
    by_cases g1 : rd part j = j
    · by_cases g2 : tru L j
      · have g2' : rdOf false L j = true := g2
        obtain ⟨o', ho', he⟩ := step (rd x7 j == pow2 many - 1) (by rw [beq_iff_eq]; exact ⟨fun h => ⟨g1, g2, h⟩, fun h => h.2.2⟩)
        refine ⟨o', ho', ev_succ ?_⟩
        simp only [scc_fair.l2, ↓reduceIte, c1, c2, c3, g1, c4, g2', c5, m0, c6, hw, w1]
        exact he
      · have g2' : ¬ rdOf false L j = true := g2
        obtain ⟨o', ho', he⟩ := step false ⟨fun h => absurd h Bool.false_ne_true, fun h => absurd h.2.1 g2⟩
        refine ⟨o', ho', ev_succ ?_⟩
        simp only [scc_fair.l2, ↓reduceIte, c1, c2, c3, g1, c4, g2', c6, w1, Bool.false_eq_true]
        exact he
    · obtain ⟨o', ho', he⟩ := step false ⟨fun h => absurd h Bool.false_ne_true, fun h => absurd h.1 g1⟩
      refine ⟨o', ho', ev_succ ?_⟩
      simp only [scc_fair.l2, ↓reduceIte, c1, c2, c3, g1, c6, w1]
      exact he
theorem fair_rows (d : Nat) : ∀ (i : Nat) (L : List Bool) (x7 : List Int), i + d = n → L.length = n → x7.length = n → (∀ p : Int, 0 ≤ p → p < (n : Int) → (tru L p ↔ LoopAt next part p i)) → (∀ p : Int, 0 ≤ p → p < (n : Int) → (0 ≤ rd x7 p ∧ rd x7 p < pow2 many) ∧ ∀ s : Nat, s < 6 → (bitP (rd x7 p) s ↔ BitAt sets part p i s)) →
    ∃ o, (o.length = n ∧ ∀ p : Int, 0 ≤ p → p < (n : Int) → (tru o p ↔ FairP next sets many part n p)) ∧ Ev (fun k => scc_fair.l0 k part n L x7 next n i spots init next sets many) o := by
  induction d with
  | zero =>
    intro i L x7 hi hL h7 hh h8
    obtain rfl : i = n := by omega
    have c1 : ¬ (i : Int) < (i : Int) := by omega
    have c2 : (0 : Int) ≤ (i : Int) := by omega
    have c3 : i ≤ 281474976710656 := by omega
    obtain ⟨o, ⟨h1, h2⟩, he⟩ := fair_out spots init next sets many part i hN hP hp hS hs m0 m1 hin hn hl L hL x7 h7 i 0 (List.replicate i false) (by omega) (by simp) (fun p q0 q1 => by omega)
    refine ⟨o, ⟨h1, fun p q0 q1 => ?_⟩, ev_succ ?_⟩
    · rw [h2 p q0 q1, hh p q0 q1, full_ok m0 m1 (h8 p q0 q1).1.1 (h8 p q0 q1).1.2]
      unfold FairP
      refine and_congr Iff.rfl (and_congr Iff.rfl ⟨fun h s hs => ((h8 p q0 q1).2 s (by omega)).1 (h s hs), fun h s hs => ((h8 p q0 q1).2 s (by omega)).2 (h s hs)⟩)
    · simp only [scc_fair.l0, ↓reduceIte, c1, c2, c3, Option.bind_some, List.length_replicate, Int.toNat_natCast]
      exact he
  | succ d ih =>
    intro i L x7 hi hL h7 hh h8
    obtain ⟨p0, p1⟩ := hp i (by omega) (by omega)
    have c1 : (i : Int) < (n : Int) := by omega
    have c2 : (0 : Int) ≤ (i : Int) := by omega
    have c3 : (i : Int) < (next.length : Int) := by omega
    have c4 : (i : Int) < (part.length : Int) := by omega
    have c5 : rd part i < (x7.length : Int) := by omega
    have c6 : (i : Int) < (sets.length : Int) := by omega
    have hb := pow2_bd m0 m1
    have hor := or_ok (h8 _ p0 p1).1.1 (show rd x7 (rd part i) < 64 by have := (h8 _ p0 p1).1.2; omega) (hs i (by omega) (by omega)).1 (show rd sets i < 64 by have := (hs i (by omega) (by omega)).2; omega)
    have hos := or_small m0 m1 (h8 _ p0 p1).1.1 (h8 _ p0 p1).1.2 (hs i (by omega) (by omega)).1 (hs i (by omega) (by omega)).2
    obtain ⟨o, ho, he⟩ := fair_row spots init next sets many part n hN hP hp hS hs m0 m1 hin hn hl (fun o => o.length = n ∧ ∀ p : Int, 0 ≤ p → p < (n : Int) → (tru o p ↔ FairP next sets many part n p)) i (by omega) (x7.set (rd part i).toNat (Go.bits .or .i64 (rd x7 (rd part i)) (rd sets i))) L
      (fun L' hL' hh' => ih (i + 1) L' _ (by omega) hL' (by rw [List.length_set]; exact h7) (fun p q0 q1 => by
        rw [hh' p q0 q1, hh p q0 q1, loopAt_succ]) (fun p q0 q1 => by
        rw [rd_set p0 c5 q0]
        by_cases e : p = rd part i
        · rw [if_pos e]
          refine ⟨hos, fun s hs => ?_⟩
          rw [hor.2 s hs, (h8 _ p0 p1).2 s hs, bitAt_succ, e]
          exact ⟨fun h => h.imp id (fun h => ⟨rfl, h⟩), fun h => h.imp id (fun h => h.2)⟩
        · rw [if_neg e]
          refine ⟨(h8 p q0 q1).1, fun s hs => ?_⟩
          rw [(h8 p q0 q1).2 s hs, bitAt_succ]
          exact ⟨.inl, fun h => h.elim id (fun h => absurd h.1 e)⟩)) (rd_L3 next i).length 0 L (by omega) hL (fun p q0 q1 => ⟨.inl, fun h => h.elim id (fun h => by obtain ⟨_, b, hb, _⟩ := h; simp at hb)⟩)
    refine ⟨o, ho, ev_succ ?_⟩
    simp only [scc_fair.l0, ↓reduceIte, c1, c2, c3, c4, p0, c5, c6]
    exact he
theorem fair_all (hsp : spots.length = n) : ∃ o, (o.length = n ∧ ∀ p : Int, 0 ≤ p → p < (n : Int) → (tru o p ↔ FairP next sets many part n p)) ∧ Ev (fun k => scc_fair.f k spots init next sets many part) o := by
  have hb := pow2_bd m0 m1
  have hf : ∀ p : Int, ¬ tru (List.replicate n false) p := fun p h => by
    unfold tru at h; rw [List.getD_eq_getElem?_getD, List.getElem?_replicate] at h; split at h <;> simp at h
  have hz : ∀ p : Int, rd (List.replicate n (0 : Int)) p = 0 := fun p => by
    unfold rd; rw [List.getD_eq_getElem?_getD, List.getElem?_replicate]; split <;> rfl
  have hb0 : ∀ s : Nat, s < 6 → ¬ bitP 0 s := fun s _ h => by unfold bitP at h; simp at h
  obtain ⟨o, ho, he⟩ := fair_rows spots init next sets many part n hN hP hp hS hs m0 m1 hin hn hl n 0 (List.replicate n false) (List.replicate n 0) (by omega) (by simp) (by simp) (fun p q0 q1 => ⟨fun h => absurd h (hf p), fun ⟨k, k0, k1, _⟩ => by omega⟩) (fun p q0 q1 => by
    rw [hz]
    exact ⟨by omega, fun s hs => ⟨fun h => absurd h (hb0 s hs), fun ⟨k, k0, k1, _⟩ => by omega⟩⟩)
  refine ⟨o, ho, ?_⟩
  unfold scc_fair.f
  have c1 : (0 : Int) ≤ (n : Int) := by omega
  have c2 : n ≤ 281474976710656 := by omega
  have c3 : n ≤ 35184372088832 := by omega
  simp only [hsp, c1, c2, c3, ↓reduceIte, Int.toNat_natCast, hN]
  exact he
end
end Go.Proofs.Ytkakmghadhafjaa.Pure
