import Derived.Test.YtkcghbfmigdomaaRows
import Derived.Test.YtkcghbfmigdomaaKSccLassosG7
-- Cut by a program of this session (wip/prune.py) from a longer text: declarations that the law does not need are left out.
namespace Go.Proofs.Ytkcghbfmigdomaa.Opens
open Go.RowKit Go.Proofs.YtkcghbfmigdomaaW.PrintWords Go.Proofs.YtkcghbfmigdomaaW.PrintLast Go.WideShapes
set_option linter.unusedVariables false
theorem bulk_one {H : Type} (d : DataW H) : 1 ≤ Rows.uptoBulk d := by
  cases d with
  | lit l => cases l <;> simp [Rows.uptoBulk]
  | nil => simp [Rows.uptoBulk]
  | ptr d => simp [Rows.uptoBulk]
  | slice elems spare => simp [Rows.uptoBulk]
  | agg parts => simp [Rows.uptoBulk]
  | iface t d => simp [Rows.uptoBulk]
  | map entries => simp [Rows.uptoBulk]
  | held h => simp [Rows.uptoBulk]
theorem bulk_part {H : Type} {d : DataW H} {l : List (DataW H)} (h : d ∈ l) : Rows.uptoBulk d ≤ Rows.uptoBulkAll l := by
  induction l with
  | nil => cases h
  | cons x r ih =>
    simp only [Rows.uptoBulkAll]
    cases List.mem_cons.1 h with
    | inl e => subst e; omega
    | inr e => have := ih e; omega
theorem bulk_sum {α H : Type} (m : α → Nat) : ∀ (xs : List α) (ds : List (DataW H)), (∀ (i : Nat) (x : α), xs[i]? = some x → ∃ d, ds[i]? = some d ∧ m x ≤ Rows.uptoBulk d) → (xs.map m).sum ≤ Rows.uptoBulkAll ds
  | [], _, _ => by simp
  | x :: xs, ds, h => by
    obtain ⟨d, hd, hm⟩ := h 0 x rfl
    match ds, hd, h with
    | d' :: ds, hd, h =>
      simp only [List.getElem?_cons_zero, Option.some.injEq] at hd
      subst hd
      have := bulk_sum m xs ds (fun i y hy => h (i + 1) y hy)
      simp only [List.map_cons, List.sum_cons, Rows.uptoBulkAll]
      omega
variable {P : Program}
def BulkB (P : Program) {α : Type} (k : Kd α) (t : TypeId) (m : α → Nat) : Prop :=
  ∀ {H : Type} (enc : TypeId × Value → H) (w : World) (spare : Nat → Bool) (fuel : Nat) (cs : List Value) (d : DataW H) (ps : List MemPlace), DataW.trod enc P w 0 spare true fuel t cs = some (d, ps) → ∀ x, k.K w x cs → m x ≤ Rows.uptoBulk d
theorem bulk_any {α : Type} (k : Kd α) (t : TypeId) : BulkB P k t (fun _ => 1) := fun enc w spare fuel cs d ps ht x hx => bulk_one d
theorem bulk_slice {α : Type} {k : Kd α} {t e e' : TypeId} {m : α → Nat} (hu : P.underlying t = some (.slice e)) (hc : P.cellsOf e = k.sz) (hm : BulkB P k e m) : BulkB P (Kd.slice e' k) t (fun xs => (xs.map m).sum) := fun {H} enc w spare fuel cs d ps ht x hx => by
  obtain ⟨A, c, rfl, hlc, hC⟩ := hx
  cases fuel with
  | zero => simp [DataW.trod] at ht
  | succ n =>
    unfold DataW.trod at ht
    rw [hu] at ht
    cases A with
    | none =>
      have hl : x.length = 0 := by
        rcases Nat.eq_zero_or_pos x.length with h | h
        · exact h
        · obtain ⟨ad, e, _⟩ := hC.2.2 h
          cases e
      have : x = [] := List.length_eq_zero_iff.1 hl
      subst this
      simp
    | some a =>
      simp only [] at ht
      split at ht
      · rename_i hle
        simp only [Option.bind_eq_some_iff, Option.map_eq_some_iff] at ht
        obtain ⟨elems, he, rest, hr, ht⟩ := ht
        simp only [Prod.mk.injEq] at ht
        obtain ⟨rfl, _⟩ := ht
        obtain ⟨hel, heg⟩ := mapM_get _ _ _ he
        have hs := bulk_sum m x (elems.map (·.1)) (fun i y hy => by
          have hi : i < x.length := (List.getElem?_eq_some_iff.1 hy).1
          obtain ⟨z, hz, e1⟩ := heg i i (by rw [List.getElem?_range hi])
          obtain ⟨c1, hc1, hc2⟩ := Option.bind_eq_some_iff.1 e1
          obtain ⟨hcl, hcg⟩ := cells_get hc1
          refine ⟨z.1, by rw [List.getElem?_map, hz]; rfl, ?_⟩
          obtain ⟨ad, ea, hrow⟩ := hC.2.2 (by omega)
          cases ea
          obtain ⟨c2, hl2, hk2, hg2⟩ := hrow i y hy
          have : c1 = c2 := by
            apply List.ext_getElem?
            intro j
            rcases Nat.lt_or_ge j k.sz with hj | hj
            · have h1 : j < c1.length := by rw [hcl, hc]; exact hj
              have h2 : j < c2.length := by rw [hl2]; exact hj
              have e1 := hcg j _ (List.getElem?_eq_getElem h1)
              have e2 := hg2 j _ (List.getElem?_eq_getElem h2)
              rw [hc, add_add, e2] at e1
              rw [List.getElem?_eq_getElem h1, List.getElem?_eq_getElem h2]
              exact e1.symm
            · rw [List.getElem?_eq_none (by rw [hcl, hc]; exact hj), List.getElem?_eq_none (by rw [hl2]; exact hj)]
          subst this
          exact hm enc w spare n _ z.1 z.2 hc2 y hk2)
        simp only [Rows.uptoBulk]
        omega
      · cases ht
theorem one_sum {α : Type} : ∀ l : List α, (l.map (fun _ => 1)).sum = l.length
  | [] => rfl
  | a :: l => by
    have := one_sum l
    simp only [List.map_cons, List.sum_cons, List.length_cons]
    omega
theorem bulk_len {α : Type} {k : Kd α} {t e e' : TypeId} (hu : P.underlying t = some (.slice e)) (hc : P.cellsOf e = k.sz) : BulkB P (Kd.slice e' k) t List.length := fun enc w spare fuel cs d ps ht x hx => by
  have h2 : (x.map (fun _ => 1)).sum ≤ Rows.uptoBulk d := bulk_slice (m := fun _ => 1) (e' := e') hu hc (bulk_any k e) enc w spare fuel cs d ps ht x hx
  rw [one_sum] at h2
  exact h2
theorem bulk_field {α : Type} {k : Kd α} {t : TypeId} {m : α → Nat} {fs : Array Field} (hu : P.underlying t = some (.struct fs)) {f : Field} {i : Nat} (hf : fs.toList[i]? = some f) (hm : BulkB P k f.type m) {H : Type} {enc : TypeId × Value → H} {w : World} {cs : Array Value} {d : DataW H} {ps : List MemPlace} (h : DataW.Trod enc P w 0 (fun _ => true) true t (.agg cs) d ps) (x : α) (hx : k.K w x ((cs.toList.drop f.offset).take (P.cellsOf f.type))) : m x ≤ Rows.uptoBulk d := by
  obtain ⟨fuel, ht⟩ := h
  cases fuel with
  | zero => simp [DataW.trod] at ht
  | succ n =>
    unfold DataW.trod at ht
    rw [hu] at ht
    have ht2 : (if cs.toList.length = P.cellsOf t then (fs.toList.mapM fun f => DataW.trod enc P w 0 (fun _ => true) true n f.type ((cs.toList.drop f.offset).take (P.cellsOf f.type))).map fun xs => (DataW.agg (xs.map (·.1)), xs.flatMap (·.2)) else none) = some (d, ps) := by
      have e : (Value.agg cs).cells.toList = cs.toList := rfl
      rw [e] at ht
      match cs.toList, ht with
      | [], ht => exact ht
      | [.bool _], ht => exact ht
      | [.int _ _], ht => exact ht
      | [.float _ _], ht => exact ht
      | _ :: _ :: _, ht => exact ht
      | [x], ht => cases x <;> exact ht
    split at ht2
    · obtain ⟨ys, hy, he⟩ := Option.map_eq_some_iff.1 ht2
      simp only [Prod.mk.injEq] at he
      obtain ⟨rfl, _⟩ := he
      obtain ⟨_, hg⟩ := mapM_get _ _ _ hy
      obtain ⟨y, hy1, hy2⟩ := hg i f hf
      have h1 := hm enc w _ n _ y.1 y.2 hy2 x hx
      have h2 : Rows.uptoBulk y.1 ≤ Rows.uptoBulkAll (ys.map (·.1)) := bulk_part (List.mem_map.2 ⟨y, List.mem_of_getElem? hy1, rfl⟩)
      simp only [Rows.uptoBulk]
      omega
    · cases ht2
end Go.Proofs.Ytkcghbfmigdomaa.Opens
