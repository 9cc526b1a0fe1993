import Derived.Lib.AppendZeros
import Derived.Test.YtkcghbfmigdomaaKSccLassosG10
namespace Go.Proofs.Ytkcghbfmigdomaa.Hand
open Go.RowKit Go.Proofs.Ytkcghbfmigdomaa Go.Proofs.Ytkcghbfmigdomaa.Q Go.Proofs.YtkcghbfmigdomaaW.PrintWords Go.Proofs.YtkcghbfmigdomaaW.PrintLast Go.Proofs.YtkcghbfmigdomaaW.PrintMore
set_option linter.unusedVariables false
def Win (w : World) (base : Nat) (v : Value) (t : List Int) : Prop :=
 (t = [] ∧ v = .slice none 0 0) ∨ ∃ g off cap cur, v = .slice (some ⟨g, off, none⟩) t.length cap ∧ base ≤ g ∧ w.heap[g]? = some (.cells cur 3 (0, 0)) ∧ t.length ≤ cap ∧ off + cap ≤ cur.size ∧ cap ≤ maxLen ∧ ∀ (j : Nat) (h : j < t.length), cur[off + j]? = some (.int .i64 t[j])
theorem Win.same {w w' : World} {base : Nat} {v : Value} {t : List Int} (h : Win w base v t) (hb : ∀ g, v.ownBlock = some g → w'.heap[g]? = w.heap[g]?) : Win w' base v t := by
 rcases h with h | ⟨g, off, cap, cur, h1, h2, h3, h4⟩
 ·exact .inl h
 ·exact .inr ⟨g, off, cap, cur, h1, h2, by rw [hb g (by rw [h1]; rfl)]; exact h3, h4⟩
theorem Win.lt {w : World} {base : Nat} {v : Value} {t : List Int} (h : Win w base v t) : ∀ g, v.ownBlock = some g → base ≤ g ∧ g < w.heap.size ∧ ∃ cur, w.heap[g]? = some (.cells cur 3 (0, 0)) := by
 intro g hg
 rcases h with ⟨_, h⟩ | ⟨g', off, cap, cur, h1, h2, h3, _⟩
 ·rw [h] at hg; cases hg
 ·rw [h1] at hg
  have e : g' = g := by simpa [Value.ownBlock] using hg
  subst e
  exact ⟨h2, (Array.getElem?_eq_some_iff.1 h3).1, cur, h3⟩
theorem Win.below {w w' : World} {base : Nat} {v : Value} {t : List Int} (h : Win w base v t) (hb : Below w.heap.size w w') : Win w' base v t := h.same fun g hg => hb.block g (h.lt g hg).2.1
theorem Win.grown {w w' : World} {base : Nat} {v : Value} {t : List Int} {row : Option Nat} (h : Win w base v t) (hg : w.grownBy w' row) (hne : ∀ g, v.ownBlock = some g → some g ≠ row) : Win w' base v t := h.same fun g hv => hg.block g (h.lt g hv).2.1 (hne g hv)
theorem Win.of_own {w : World} {base base' : Nat} {v : Value} {t : List Int} (h : w.ownsRow base' 3 1 v t.length (t.map (Value.int .i64))) (hb : base ≤ base') : Win w base v t := by
 rcases h.2 with ⟨e, h0⟩ | ⟨g, cap, cur, e, h1, h2, h3, h4, h5, h6⟩
 ·exact .inl ⟨List.length_eq_zero_iff.1 h0, e⟩
 ·rw [Nat.mul_one] at h5 h6
  refine .inr ⟨g, 0, cap, cur, e, Nat.le_trans hb h1, h2, h3, by omega, h4, fun j hj => ?_⟩
  have h7 : (cur.toList.take t.length)[j]? = (t.map (Value.int .i64))[j]? := by rw [h6]
  rw [List.getElem?_take_of_lt hj, Array.getElem?_toList] at h7
  rw [Nat.zero_add, h7]
  simp [hj]
theorem Win.of_R {w : World} {base : Nat} {ok : Nat → Prop} {v : Value} {t : List Int} (h : Kd.R (Kd.int .i64) 3 w base ok v t) : Win w base v t := Win.of_own (Kd.own_of_R h) (Nat.le_refl _)
theorem Win.head {w : World} {base : Nat} {v : Value} {i : Int} {t : List Int} (h : Win w base v (i :: t)) : ∃ g off cap v2, v = .slice (some ⟨g, off, none⟩) (t.length + 1) cap ∧ w.cell? ⟨g, off, none⟩ = some (.int .i64 i) ∧ (∀ W, (Instr.slice 24 v (some (.int .i64 1)) none none).run Try.prog W = .ok v2 W) ∧ Win w base v2 t := by
 obtain ⟨i0, hi0, hz0, hz1, hz2⟩ := info_parts info3
 rcases h with ⟨h, _⟩ | ⟨g, off, cap, cur, h1, h2, h3, h4, h5, h6, h7⟩
 ·cases h
 ·rw [List.length_cons] at h1 h4
  refine ⟨g, off, cap, _, h1, ?_, fun W => by rw [h1]; exact cut_from 24 3 .i64 Try.underlying24 hi0 1 hz1 (some ⟨g, off, none⟩) (t.length + 1) cap 1 (by decide) (by omega) W, .inr ⟨g, if cap = 1 then off else off + 1, cap - 1, cur, ?_, h2, h3, by omega, by split <;> omega, by omega, fun j hj => ?_⟩⟩
  ·have := h7 0 (by simp)
   rw [cell_of_row w g off cur 3 (0, 0) h3]
   simpa using this
  ·have e : ((1 : Int).toNat) = 1 := rfl
   rw [e, Nat.add_sub_cancel]
   by_cases c : cap = 1
   ·rw [if_pos c, if_pos c]
   ·rw [if_neg c, if_neg c]; rfl
  ·have := h7 (j + 1) (by simpa using hj)
   rw [if_neg (by omega), show off + 1 + j = off + (j + 1) by omega, this]
   simp
theorem wpList_append_win {W : World} {ops : Array Oper} {rest : List Oper} {o : Oper} {a : Act} {Q : Exit → Act → World → Prop} (hgd : o.guard = none) (s x : Operand)
  (hop : o.op = .call { callee := .builtin .append, args := #[s, x], argTypes := #[24, 24] }) (base : Nat) (v : Value) (t : List Int) (k : Int) (hs : a.eval s = v) (hx : a.eval x = .slice (some ⟨W.heap.size, 0, none⟩) 1 1)
  (HW : Win W base v t) (hbase : base ≤ W.heap.size) (hl : (t.length + 1) * 8 ≤ 140737488355328)
  (h : ∀ v' w', Win w' base v' (t ++ [k]) → W.grownBy w' v.ownBlock → (v'.ownBlock = v.ownBlock ∨ ∃ b, v'.ownBlock = some b ∧ W.heap.size ≤ b) → wpList Try.prog ops Q rest (a.put o.dst v') w') :
  wpList Try.prog ops Q (o :: rest) a (W.alloc (.cells #[.int .i64 k] 3)) := by
 obtain ⟨i0, hi0, hz0, hz1, hz2⟩ := info_parts info3
 have hnew : (W.alloc (.cells #[.int .i64 k] 3)).heap[W.heap.size]? = some (.cells #[.int .i64 k] 3 (0, 0)) := heap_new W _
 have hnews : ∀ (j : Nat) (u : Value), ([Value.int .i64 k] : List Value)[j]? = some u → (W.alloc (.cells #[.int .i64 k] 3)).cell? ((⟨W.heap.size, 0, none⟩ : Addr).add j) = some u := fun j u hu => by
  cases j with
  | zero =>
   have : Value.int .i64 k = u := by simpa using hu
   rw [← this]
   exact (blk_cell hnew 0).trans rfl
  | succ j => simp at hu
 have hga : W.grownBy (W.alloc (.cells #[.int .i64 k] 3)) v.ownBlock := World.grownBy_alloc W _ _
 have hsz : (W.alloc (.cells #[.int .i64 k] 3)).heap.size = W.heap.size + 1 := by simp
 rcases HW with ⟨ht, hv⟩ | ⟨g, off, cap, cur, hv, h2, h3, h4, h5, h6, h7⟩
 ·subst ht
  subst hv
  obtain ⟨v', w', hr, ho, hg, _, hat⟩ := run_append_own_at (P := Try.prog) (W.alloc (.cells #[.int .i64 k] 3)) base 24 o.type 3 i0 (.int .i64 0) 1 8 Try.underlying24 hi0 hz0 hz1 hz2 rfl (by decide) (.slice none 0 0) 0 [] (World.ownsRow_nil _ _ _ _) ⟨W.heap.size, 0, none⟩ 1 1 [.int .i64 k] rfl hnews (by simp [Value.oneCell']) (by decide) (by decide) (by omega)
  refine Lib.wpList_append_run _ hgd s x 24 24 hop (.slice none 0 0) (.slice (some ⟨W.heap.size, 0, none⟩) 1 1) hs hx v' w' hr ?_
  refine h v' w' (Win.of_own (t := [k]) ho (Nat.le_refl _)) (grownBy_trans hga hg) ?_
  rcases hat with e | e
  ·exact .inl e
  ·exact .inr ⟨_, e, by rw [hsz]; omega⟩
 ·subst hv
  have hgl : g < W.heap.size := (Array.getElem?_eq_some_iff.1 h3).1
  have h3' : (W.alloc (.cells #[.int .i64 k] 3)).heap[g]? = some (.cells cur 3 (0, 0)) := blk_alloc h3 _
  by_cases hroom : t.length + 1 ≤ cap
  ·have hin : off + t.length < cur.size := by omega
   have hr := run_append_room_cells (P := Try.prog) (W.alloc (.cells #[.int .i64 k] 3)) 24 o.type 3 i0 Try.underlying24 hi0 g off t.length cap ⟨W.heap.size, 0, none⟩ 1 1 [.int .i64 k] (by rw [hz1]; rfl) hnews (by simp [Value.oneCell']) hroom (fun j hj => by
    have e : j = 0 := by simpa using hj
    subst e
    rw [hz1, Nat.mul_one, Nat.add_zero, cell_of_row _ g _ cur 3 (0, 0) h3']
    simp [hin]) (fun j hj => blk_frozen h3' _)
   rw [hz1, Nat.mul_one] at hr
   refine Lib.wpList_append_run _ hgd s x 24 24 hop _ _ hs hx _ _ hr ?_
   have hset : (W.alloc (.cells #[.int .i64 k] 3)).setCells g (off + t.length) [.int .i64 k] = (W.alloc (.cells #[.int .i64 k] 3)).setCell ⟨g, off + t.length, none⟩ (.int .i64 k) := rfl
   rw [hset]
   refine h _ _ (.inr ⟨g, off, cap, cur.setIfInBounds (off + t.length) (.int .i64 k), by rw [List.length_append]; rfl, h2, by rw [blk_set h3'], by rw [List.length_append]; exact hroom, by simpa using h5, h6, fun j hj => ?_⟩) (grownBy_set hga _ _) (.inl rfl)
   rw [List.length_append, List.length_singleton] at hj
   rw [Array.getElem?_setIfInBounds]
   by_cases e : j = t.length
   ·subst e
    simp [hin]
   ·rw [if_neg (by omega), h7 j (by omega), List.getElem_append_left]
  ·obtain ⟨v', w', hr, ho, hg⟩ := run_append_arg_grows (P := Try.prog) (W.alloc (.cells #[.int .i64 k] 3)) 24 o.type 3 i0 (.int .i64 0) 1 8 Try.underlying24 hi0 hz0 hz1 hz2 rfl (by decide) ⟨g, off, none⟩ t.length cap (t.map (Value.int .i64)) (by simp) (fun j u hu => by
    have hj : j < t.length := by have := (List.getElem?_eq_some_iff.1 hu).1; simpa using this
    rw [List.getElem?_map, List.getElem?_eq_getElem hj, Option.map_some] at hu
    have e : (⟨g, off, none⟩ : Addr).add j = ⟨g, off + j, none⟩ := by
     unfold Addr.add
     split
     ·rename_i e; rw [e]; rfl
     ·rfl
    rw [e, cell_of_row _ g _ cur 3 (0, 0) h3', h7 j hj]
    exact hu) ⟨W.heap.size, 0, none⟩ 1 1 [.int .i64 k] rfl hnews (by omega) (by unfold maxLen; omega) hl
   refine Lib.wpList_append_run _ hgd s x 24 24 hop _ _ hs hx v' w' hr ?_
   have ho' : w'.ownsRow (W.heap.size + 1) 3 1 v' (t ++ [k]).length ((t ++ [k]).map (Value.int .i64)) := by
    rw [List.length_append, List.map_append, ← hsz]
    exact ho
   refine h v' w' (Win.of_own ho' (by omega)) (grownBy_trans hga ⟨hg.1, hg.2, hg.3, hg.4, fun k hk _ => hg.block k hk (by simp)⟩) ?_
   rcases ho.2 with ⟨_, h0⟩ | ⟨g', cap', cur', e, hb, _⟩
   ·omega
   ·exact .inr ⟨g', by rw [e]; rfl, by rw [hsz] at hb; omega⟩
end Go.Proofs.Ytkcghbfmigdomaa.Hand
