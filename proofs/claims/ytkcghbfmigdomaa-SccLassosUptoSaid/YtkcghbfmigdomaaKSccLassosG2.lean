import Derived.Maps.Own
import Derived.Maps.OwnOps
import Derived.Maps.Keyed
import Derived.WalkKit
import Derived.Below
-- Cut by a program of this session (wip/prune.py) from a longer text: declarations that the law does not need are left out.
namespace Go.Proofs.Ytkcghbfmigdomaa.Hand
open Go.Maps (Keyed)
open Go.RowKit
open Go.ChangeMaps (setBlock heap_setBlock_same heap_setBlock_other)
set_option linter.unusedVariables false
def MapIs (w : World) (b : Nat) (ps : List (Value × Value)) : Prop := ∃ es clock, w.heap[b]? = some (.map es clock) ∧ es.toList.map (fun e => (e.key, e.val)) = ps
theorem MapIs.made (w : World) : MapIs (w.alloc (.map #[] 0)) w.heap.size [] := ⟨#[], 0, (MapKept.heap_alloc w _).1, rfl⟩
theorem MapIs.lt {w : World} {b : Nat} {ps : List (Value × Value)} (h : MapIs w b ps) : b < w.heap.size := by
  obtain ⟨es, clock, hb, _⟩ := h
  exact (Array.getElem?_eq_some_iff.1 hb).1
theorem MapIs.same {w w' : World} {b : Nat} {ps : List (Value × Value)} (h : MapIs w b ps) (hb : w'.heap[b]? = w.heap[b]?) : MapIs w' b ps := by
  obtain ⟨es, clock, h1, h2⟩ := h
  exact ⟨es, clock, hb.trans h1, h2⟩
theorem MapIs.kept {w w' : World} {b : Nat} {ps : List (Value × Value)} {row : Option Nat} (h : MapIs w b ps) (hg : w.grownBy w' row) (hne : some b ≠ row) : MapIs w' b ps := h.same (hg.block b h.lt hne)
theorem MapIs.below {w w' : World} {b B : Nat} {ps : List (Value × Value)} (h : MapIs w b ps) (hb : Below B w w') (hlt : b < B) : MapIs w' b ps := h.same (hb.block b hlt)
theorem MapIs.alloc {w : World} {b : Nat} {ps : List (Value × Value)} (h : MapIs w b ps) (o : Obj) : MapIs (w.alloc o) b ps := h.kept (World.grownBy_alloc w o none) (by simp)
theorem find_none {P : Program} {k : TypeId} (K : Keyed P k) {w : World} {es : Array MapEntry} {ps : List (Value × Value)} (hes : es.toList.map (fun e => (e.key, e.val)) = ps) (hk : ∀ p ∈ ps, ∃ l, keyOf P k p.1 = some l) {key : Value} {kl : Lit} (hkey : keyOf P k key = some kl)
    (hn : ∀ p ∈ ps, p.1 ≠ key) : (Instr.findKey k key es.toList).run P w = .ok none w := by
  subst hes
  rcases K.find w hkey es.toList (fun e he => hk (e.key, e.val) (List.mem_map.2 ⟨e, he, rfl⟩)) with ⟨h1, h2⟩ | ⟨j, e0, h1, h2, h3⟩
  · exact h1
  · exact absurd h3 (hn (e0.key, e0.val) (List.mem_map.2 ⟨e0, List.mem_of_getElem? h2, rfl⟩))
theorem find_some {P : Program} {k : TypeId} (K : Keyed P k) {w : World} {es : Array MapEntry} {ps : List (Value × Value)} (hes : es.toList.map (fun e => (e.key, e.val)) = ps) (hk : ∀ p ∈ ps, ∃ l, keyOf P k p.1 = some l) {key v : Value} {kl : Lit} (hkey : keyOf P k key = some kl)
    (hv : ∀ p ∈ ps, p.1 = key → p.2 = v) (hin : ∃ p ∈ ps, p.1 = key) : ∃ j, (Instr.findKey k key es.toList).run P w = .ok (some (j, v)) w := by
  subst hes
  rcases K.find w hkey es.toList (fun e he => hk (e.key, e.val) (List.mem_map.2 ⟨e, he, rfl⟩)) with ⟨h1, h2⟩ | ⟨j, e0, h1, h2, h3⟩
  · obtain ⟨p, hp, e⟩ := hin
    obtain ⟨e1, he1, rfl⟩ := List.mem_map.1 hp
    exact absurd e (h2 e1 he1)
  · have := hv (e0.key, e0.val) (List.mem_map.2 ⟨e0, List.mem_of_getElem? h2, rfl⟩) h3
    exact ⟨j, by rw [h1]; rw [← this]⟩
theorem MapIs.look_none {P : Program} {w : World} {b : Nat} {ps : List (Value × Value)} {k e t : TypeId} (h : MapIs w b ps) (K : Keyed P k) (ht : P.underlying t = some (.map k e)) (hk : ∀ p ∈ ps, ∃ l, keyOf P k p.1 = some l) {z : Value} (hz : (zeroValue e).run P w = .ok z w)
    {key : Value} {kl : Lit} (hkey : keyOf P k key = some kl) (c : Bool) (hn : ∀ p ∈ ps, p.1 ≠ key) : (Instr.lookup t (.map (some b)) key c).run P w = .ok (if c then .tuple #[z, .bool false] else z) w := by
  obtain ⟨es, clock, hb, hes⟩ := h
  have h1 := find_none K (w := w) hes hk hkey hn
  simp [Instr.lookup, run_underlying ht, MapKept.run_getObj_map hb, K.check w _ hkey, h1, hz, Result.andThen]
theorem MapIs.look_some {P : Program} {w : World} {b : Nat} {ps : List (Value × Value)} {k e t : TypeId} (h : MapIs w b ps) (K : Keyed P k) (ht : P.underlying t = some (.map k e)) (hk : ∀ p ∈ ps, ∃ l, keyOf P k p.1 = some l)
    {key v : Value} {kl : Lit} (hkey : keyOf P k key = some kl) (c : Bool) (hv : ∀ p ∈ ps, p.1 = key → p.2 = v) (hin : ∃ p ∈ ps, p.1 = key) : (Instr.lookup t (.map (some b)) key c).run P w = .ok (if c then .tuple #[v, .bool true] else v) w := by
  obtain ⟨es, clock, hb, hes⟩ := h
  obtain ⟨j, h1⟩ := find_some K (w := w) hes hk hkey hv hin
  simp [Instr.lookup, run_underlying ht, MapKept.run_getObj_map hb, K.check w _ hkey, h1, Result.andThen]
theorem MapIs.put {P : Program} {w : World} {b : Nat} {ps : List (Value × Value)} {k e t : TypeId} (h : MapIs w b ps) (K : Keyed P k) (ht : P.underlying t = some (.map k e)) (hk : ∀ p ∈ ps, ∃ l, keyOf P k p.1 = some l)
    {key v : Value} {kl : Lit} (hkey : keyOf P k key = some kl) (hn : ∀ p ∈ ps, p.1 ≠ key) : ∃ w', (Instr.mapUpdate t (.map (some b)) key v).run P w = .ok () w' ∧ MapIs w' b (ps ++ [(key, v)]) ∧ w.grownBy w' (some b) := by
  obtain ⟨es, clock, hb, hes⟩ := h
  have h1 := find_none K (w := w) hes hk hkey hn
  refine ⟨setBlock w b (.map (es.push ⟨key, v, clock⟩) (clock + 1)), ?_, ⟨_, _, heap_setBlock_same hb _, ?_⟩, ⟨rfl, rfl, rfl, by simp [setBlock], fun i _ hi => heap_setBlock_other hb _ (fun e => hi (by rw [e]))⟩⟩
  · simp [Instr.mapUpdate, run_underlying ht, MapKept.run_getObj_map hb, K.check w false hkey, h1, MapKept.run_setObj_map _ hb, Result.andThen, setBlock]
  · simp [← hes]
section
variable {P : Program} (w : World) {ops : Array Oper} {rest : List Oper} {o : Oper} {a : Act} {Q : Exit → Act → World → Prop}
theorem wpList_mapPut_is (hg : o.guard = none) (m x v : Operand) (t : TypeId) (hop : o.op = Op.mapUpdate t m x v) (k e : TypeId) (K : Keyed P k) (ht : P.underlying t = some (.map k e)) (b : Nat) (ps : List (Value × Value)) (hm : a.eval m = .map (some b)) (hmap : MapIs w b ps)
    (key val : Value) (kl : Lit) (hx : a.eval x = key) (hv : a.eval v = val) (hkey : keyOf P k key = some kl) (hk : ∀ p ∈ ps, ∃ l, keyOf P k p.1 = some l) (hn : ∀ p ∈ ps, p.1 ≠ key)
    (hK : ∀ w', MapIs w' b (ps ++ [(key, val)]) → w.grownBy w' (some b) → wpList P ops Q rest (a.put o.dst undef) w') : wpList P ops Q (o :: rest) a w := by
  refine wpList_plain hg fun K' hK' => ?_
  obtain ⟨w', hrun, r1, r2⟩ := hmap.put K ht hk (v := val) hkey hn
  unfold Oper.wp
  simp [execOp, hop, hm, hx, hv, hrun, Result.andThen]
  exact hK' _ _ (hK w' r1 r2)
end
end Go.Proofs.Ytkcghbfmigdomaa.Hand
