import Derived.SizedLaws
import Derived.ChangeSlices
import Derived.WideShapes
import Derived.ChangeReads
import Derived.Test.YtkcghbfmigdomaaKSccLassosG3
-- Cut by a program of this session (wip/prune.py) from a longer text: declarations that the law does not need are left out.
namespace Go.Proofs.Ytkcghbfmigdomaa.Opens
open Go.RowKit Go.Proofs.YtkcghbfmigdomaaW.PrintWords Go.Proofs.YtkcghbfmigdomaaW.PrintLast Go.WideShapes
set_option linter.unusedVariables false
theorem mapM_get {α β : Type} (f : α → Option β) : ∀ (l : List α) (bs : List β), l.mapM f = some bs → bs.length = l.length ∧ ∀ (i : Nat) (a : α), l[i]? = some a → ∃ b, bs[i]? = some b ∧ f a = some b
  | [], bs, h => by
    obtain rfl : bs = [] := by simpa using h.symm
    exact ⟨rfl, fun i a h => by simp at h⟩
  | a :: l, bs, h => by
    rw [List.mapM_cons] at h
    simp only [Option.bind_eq_bind, Option.bind_eq_some_iff] at h
    obtain ⟨b, hb, cs, hc, h⟩ := h
    obtain rfl : b :: cs = bs := by simpa using h
    obtain ⟨h1, h2⟩ := mapM_get f l cs hc
    refine ⟨by simp [h1], fun i x hx => ?_⟩
    cases i with
    | zero => exact ⟨b, rfl, by simp at hx; subst hx; exact hb⟩
    | succ i => obtain ⟨y, hy, e⟩ := h2 i x (by simpa using hx); exact ⟨y, by simpa using hy, e⟩
theorem cells_get {w : World} {base : Nat} {a : Addr} {n : Nat} {cs : List Value} (h : w.cells? base a n = some cs) : cs.length = n ∧ ∀ (i : Nat) (u : Value), cs[i]? = some u → w.cell? (a.add i) = some u := by
  unfold World.cells? at h
  split at h
  · obtain ⟨h1, h2⟩ := mapM_get _ _ _ h
    have hl : cs.length = n := by simpa using h1
    refine ⟨hl, fun i u hu => ?_⟩
    have hi : i < n := by rw [← hl]; exact (List.getElem?_eq_some_iff.1 hu).1
    obtain ⟨b, hb, e⟩ := h2 i i (by rw [List.getElem?_range hi])
    rw [hu] at hb
    cases hb
    exact e
  · cases h
def Opens (P : Program) {α : Type} (k : Kd α) (t : TypeId) (G : α → Prop) : Prop :=
  ∀ {H : Type} (enc : TypeId × Value → H) (w : World) (spare : Nat → Bool) (fuel : Nat) (cs : List Value) (d : DataW H) (ps : List MemPlace), DataW.trod enc P w 0 spare true fuel t cs = some (d, ps) → (∀ n ∈ d.weights P t, n ≤ reachBytes) → ∃ x, k.K w x cs ∧ G x
variable {P : Program}
theorem Opens.mono {α : Type} {k : Kd α} {t : TypeId} {G G' : α → Prop} (h : Opens P k t G) (hG : ∀ x, G x → G' x) : Opens P k t G' := fun enc w spare fuel cs d ps ht hw => by
  obtain ⟨x, hx, hg⟩ := h enc w spare fuel cs d ps ht hw
  exact ⟨x, hx, hG x hg⟩
theorem opens_int {ik : IntKind} {t : TypeId} (hu : P.underlying t = some (.int ik)) : Opens P (Kd.int ik) t (fun x => (Lit.int ik x).wf = true) := fun enc w spare fuel cs d ps ht hw => by
  cases fuel with
  | zero => simp [DataW.trod] at ht
  | succ n =>
    unfold DataW.trod at ht
    rw [hu] at ht
    match cs, ht with
    | [.int k' x], ht =>
      simp only [] at ht
      split at ht
      · rename_i h
        obtain ⟨rfl, hwf⟩ := h
        exact ⟨x, rfl, hwf⟩
      · cases ht
theorem weightsAll_mem {H : Type} {e : TypeId} : ∀ {ds : List (DataW H)} {d : DataW H}, d ∈ ds → ∀ n ∈ d.weights P e, n ∈ DataW.weightsAll P e ds
  | x :: ds, d, hd, n, hn => by
    simp only [DataW.weightsAll, List.mem_append]
    rcases List.mem_cons.1 hd with rfl | hd
    · exact .inl hn
    · exact .inr (weightsAll_mem hd n hn)
theorem opens_slice {α : Type} {k : Kd α} {t e : TypeId} {G : α → Prop} {B : Nat} (hu : P.underlying t = some (.slice e)) (hc : P.cellsOf e = k.sz) (hB : P.bytesOf e = B) (hk : Opens P k e G) :
    Opens P (Kd.slice e k) t (fun xs => xs.length * B ≤ 140737488351232 ∧ ∀ x ∈ xs, G x) := fun {H} enc w spare fuel cs d ps ht hw => by
  cases fuel with
  | zero => simp [DataW.trod] at ht
  | succ n =>
    unfold DataW.trod at ht
    rw [hu] at ht
    match cs, ht with
    | [.slice none 0 0], ht =>
      cases ht
      exact ⟨[], ⟨none, 0, rfl, Nat.le_refl _, rfl, by simp, fun h => absurd h (by simp)⟩, by simp, by simp⟩
    | [.slice (some a) len cap], ht =>
      simp only [] at ht
      split at ht
      · rename_i hle
        obtain ⟨_, hlc, hcap⟩ := hle
        simp only [Option.bind_eq_some_iff, Option.map_eq_some_iff] at ht
        obtain ⟨elems, he, rest, hr, ht⟩ := ht
        simp only [Prod.mk.injEq] at ht
        obtain ⟨rfl, _⟩ := ht
        obtain ⟨hel, heg⟩ := mapM_get _ _ _ he
        have hel : elems.length = len := by simpa using hel
        have hwe : ∀ n ∈ DataW.weights P t (DataW.slice (elems.map (·.1)) (rest.map (·.1))), n ≤ reachBytes := hw
        simp only [DataW.weights, hu] at hwe
        have hlen : (elems.length + rest.length) * P.bytesOf e ≤ reachBytes := by simpa using hwe _ (List.mem_cons_self)
        have hpart : ∀ i, i < len → ∃ x c, k.K w x c ∧ G x ∧ c.length = k.sz ∧ ∀ j u, c[j]? = some u → w.cell? (a.add (i * k.sz + j)) = some u := by
          intro i hi
          obtain ⟨y, hy, e1⟩ := heg i i (by rw [List.getElem?_range hi])
          obtain ⟨c, hc1, hc2⟩ := Option.bind_eq_some_iff.1 e1
          obtain ⟨hcl, hcg⟩ := cells_get hc1
          obtain ⟨x, hx, hg⟩ := hk enc w spare n c y.1 y.2 hc2 (fun m hm => hwe m (by
            refine List.mem_cons_of_mem _ (List.mem_append_left _ (weightsAll_mem (d := y.1) (List.mem_map.2 ⟨y, List.mem_of_getElem? hy, rfl⟩) m hm))))
          refine ⟨x, c, hx, hg, hcl.trans hc, fun j u hu => ?_⟩
          have := hcg j u hu
          rw [hc, add_add] at this
          exact this
        have hall : ∀ m, m ≤ len → ∃ xs : List α, xs.length = m ∧ ∀ i x, xs[i]? = some x → G x ∧ ∃ c, c.length = k.sz ∧ k.K w x c ∧ ∀ j u, c[j]? = some u → w.cell? (a.add (i * k.sz + j)) = some u := by
          intro m
          induction m with
          | zero => exact fun _ => ⟨[], rfl, fun i x h => by simp at h⟩
          | succ m ih =>
            intro hm
            obtain ⟨xs, hl, hx⟩ := ih (by omega)
            obtain ⟨x, c, h1, h2, h3, h4⟩ := hpart m (by omega)
            refine ⟨xs ++ [x], by simp [hl], fun i y hy => ?_⟩
            rcases Nat.lt_or_ge i xs.length with hi | hi
            · rw [List.getElem?_append_left hi] at hy
              exact hx i y hy
            · have : i = m := by have := (List.getElem?_eq_some_iff.1 hy).1; simp at this; omega
              subst this
              rw [List.getElem?_append_right (by omega), hl] at hy
              simp at hy
              subst hy
              exact ⟨h2, c, h3, h1, h4⟩
        obtain ⟨xs, hl, hx⟩ := hall len (Nat.le_refl _)
        subst hl
        refine ⟨xs, ⟨some a, cap, rfl, hlc, rfl, Nat.le_trans hlc hcap, fun _ => ⟨a, rfl, fun j p hj => (hx j p hj).2⟩⟩, ?_, fun x hmem => ?_⟩
        · rw [← hB]
          have : xs.length * P.bytesOf e ≤ (elems.length + rest.length) * P.bytesOf e := Nat.mul_le_mul_right _ (by omega)
          exact Nat.le_trans this hlen
        · obtain ⟨i, hi⟩ := List.mem_iff_getElem?.1 hmem
          exact (hx i x hi).1
      · cases ht
def OpensF (P : Program) {α : Type} (k : Kd α) (fs : List Field) (o : Nat) (G : α → Prop) : Prop :=
  ∀ {H : Type} (enc : TypeId × Value → H) (w : World) (spare : Nat → Bool) (fuel : Nat) (cs : List Value) (ys : List (DataW H × List MemPlace)), fs.mapM (fun f => DataW.trod enc P w 0 spare true fuel f.type ((cs.drop f.offset).take (P.cellsOf f.type))) = some ys →
    (∀ n ∈ DataW.weightsEach P (fs.map (·.type)) (ys.map (·.1)), n ≤ reachBytes) → o + k.sz ≤ cs.length → ∃ x, k.K w x ((cs.drop o).take k.sz) ∧ G x
theorem opensF_one {α : Type} {k : Kd α} {f : Field} {G : α → Prop} (ho : P.cellsOf f.type = k.sz) (h : Opens P k f.type G) : OpensF P k [f] f.offset G := fun enc w spare fuel cs ys hy hw _ => by
  rw [List.mapM_cons] at hy
  simp only [Option.bind_eq_bind, Option.bind_eq_some_iff, List.mapM_nil] at hy
  obtain ⟨y, h1, zs, h2, hz⟩ := hy
  obtain rfl : ([] : List (DataW _ × List MemPlace)) = zs := by simpa using h2
  obtain rfl : [y] = ys := by simpa using hz
  obtain ⟨x, hx, hg⟩ := h enc w spare fuel _ y.1 y.2 h1 (fun n hn => hw n (by simp [DataW.weightsEach, hn]))
  rw [ho] at hx
  exact ⟨x, hx, hg⟩
theorem opensF_cons {α β : Type} {k : Kd α} {k' : Kd β} {f : Field} {fs : List Field} {G : α → Prop} {G' : β → Prop} (ho : P.cellsOf f.type = k.sz) (h : Opens P k f.type G) (h' : OpensF P k' fs (f.offset + k.sz) G') :
    OpensF P (Kd.pair k k') (f :: fs) f.offset (fun x => G x.1 ∧ G' x.2) := fun enc w spare fuel cs ys hy hw hl => by
  rw [List.mapM_cons] at hy
  simp only [Option.bind_eq_bind, Option.bind_eq_some_iff] at hy
  obtain ⟨y, h1, zs, h2, hz⟩ := hy
  obtain rfl : y :: zs = ys := by simpa using hz
  have hl : f.offset + (k.sz + k'.sz) ≤ cs.length := hl
  obtain ⟨x, hx, hg⟩ := h enc w spare fuel _ y.1 y.2 h1 (fun n hn => hw n (by simp [DataW.weightsEach, hn]))
  obtain ⟨x', hx', hg'⟩ := h' enc w spare fuel cs zs h2 (fun n hn => hw n (by simp [DataW.weightsEach]; right; simpa using hn)) (by omega)
  rw [ho] at hx
  refine ⟨(x, x'), ⟨_, _, ?_, hx, hx'⟩, hg, hg'⟩
  show (cs.drop f.offset).take (k.sz + k'.sz) = _
  rw [List.take_add, List.drop_drop]
theorem opens_struct {α β : Type} {k : Kd α} {t : TypeId} {fs : Array Field} {G : α → Prop} {g : β → α} {gi : α → β} (hu : P.underlying t = some (.struct fs)) (hc : P.cellsOf t = k.sz) (hgi : ∀ x, g (gi x) = x) (h : OpensF P k fs.toList 0 G) :
    Opens P (Kd.iso k g) t (fun x => G (g x)) := fun enc w spare fuel cs d ps ht hw => by
  cases fuel with
  | zero => simp [DataW.trod] at ht
  | succ n =>
    unfold DataW.trod at ht
    rw [hu] at ht
    have ht2 : (if cs.length = P.cellsOf t then (fs.toList.mapM fun f => DataW.trod enc P w 0 spare true n f.type ((cs.drop f.offset).take (P.cellsOf f.type))).map fun xs => (DataW.agg (xs.map (·.1)), xs.flatMap (·.2)) else none) = some (d, ps) := by
      match cs, ht with
      | [], ht => exact ht
      | [.bool _], ht => exact ht
      | [.int _ _], ht => exact ht
      | [.float _ _], ht => exact ht
      | _ :: _ :: _, ht => exact ht
      | [x], ht => cases x <;> exact ht
    split at ht2
    · rename_i hl
      obtain ⟨ys, hy, he⟩ := Option.map_eq_some_iff.1 ht2
      simp only [Prod.mk.injEq] at he
      obtain ⟨rfl, _⟩ := he
      obtain ⟨x, hx, hg⟩ := h enc w spare n cs ys hy (fun n hn => hw n (by simpa [DataW.weights, hu] using hn)) (by rw [hl, hc]; omega)
      refine ⟨gi x, ?_, by show G (g (gi x)); rw [hgi]; exact hg⟩
      show k.K w (g (gi x)) cs
      rw [hgi]
      have : (cs.drop 0).take k.sz = cs := by rw [List.drop_zero, List.take_of_length_le (by rw [hl, hc]; exact Nat.le_refl _)]
      rw [this] at hx
      exact hx
    · cases ht2
theorem opened {H : Type} {enc : TypeId × Value → H} {α : Type} {k : Kd α} {t : TypeId} {G : α → Prop} (ho : Opens P k t G) {w : World} {v : Value} {d : DataW H} {ps : List MemPlace} (h : DataW.Trod enc P w 0 (fun _ => true) true t v d ps)
    {ts : List TypeId} {ds : List (DataW H)} {j : Nat} (hsz : (DataW.weightsEach P ts ds).all (· ≤ reachBytes) = true) (ht : ts[j]? = some t) (hd : ds[j]? = some d) : ∃ x, k.K w x v.cells.toList ∧ G x := by
  obtain ⟨fuel, hf⟩ := h
  exact ho enc w _ fuel _ d ps hf (fun n hn => by simpa using List.all_eq_true.1 hsz _ (DataW.weights_mem_each ht hd n hn))
end Go.Proofs.Ytkcghbfmigdomaa.Opens
