import Derived.Test.YtbekikafhpdehaaDoorKVerdictRunsG9
import Derived.Test.YtbekikafhpdehaaDoorKVerdictRunsG4
import Derived.Test.YtbekikafhpdehaaDoorRows
namespace Go.Proofs.YtbekikafhpdehaaDoor.V
open Go.Proofs.YtbekikafhpdehaaDoor.Al
open Go.Proofs.YtbekikafhpdehaaDoorW.PrintWords
open Go.Proofs.YtbekikafhpdehaaDoor.Sq
open Go.RowKit Go.Proofs.YtbekikafhpdehaaDoorW.PrintWords Go.Proofs.YtbekikafhpdehaaDoorW.PrintLast Go.Proofs.YtbekikafhpdehaaDoor
set_option linter.unusedVariables false
set_option maxRecDepth 100000
def G58 (x:S58):Prop:=(x.f0.size ≤ 140737488351232)∧((Lit.int .i64 x.f1).wf = true)∧((Lit.int .i64 x.f2).wf = true)∧((Lit.int .i64 x.f3).wf = true)
theorem o58:Opens.Opens Tryd.prog k58 58 G58:=Opens.Opens.mono (Opens.opens_struct (gi:=(fun p=>⟨p.1,p.2.1,p.2.2.1,p.2.2.2⟩)) Tryd.underlying58 (by kernel_rfl) (fun _=>rfl) (Opens.opensF_cons (by kernel_rfl) (Opens.opens_string Tryd.underlying9) (Opens.opensF_cons (by kernel_rfl) (Opens.opens_int (ik:=.i64) Tryd.underlying3) (Opens.opensF_cons (by kernel_rfl) (Opens.opens_int (ik:=.i64) Tryd.underlying3) (Opens.opensF_one (by kernel_rfl) (Opens.opens_int (ik:=.i64) Tryd.underlying3)))))) (fun x h=>h)
def G73 (x:S73):Prop:=((Lit.int .i64 x.f0).wf = true)∧((Lit.int .i64 x.f1).wf = true)
theorem o73:Opens.Opens Tryd.prog k73 73 G73:=Opens.Opens.mono (Opens.opens_struct (gi:=(fun p=>⟨p.1,p.2⟩)) Tryd.underlying73 (by kernel_rfl) (fun _=>rfl) (Opens.opensF_cons (by kernel_rfl) (Opens.opens_int (ik:=.i64) Tryd.underlying3) (Opens.opensF_one (by kernel_rfl) (Opens.opens_int (ik:=.i64) Tryd.underlying3)))) (fun x h=>h)
def G51 (x:S51):Prop:=((Lit.int .i64 x.f0).wf = true)∧((x.f1.length * 16 ≤ 140737488351232∧∀ zxf1 ∈ x.f1,G73 zxf1))
theorem o51:Opens.Opens Tryd.prog k51 51 G51:=Opens.Opens.mono (Opens.opens_struct (gi:=(fun p=>⟨p.1,p.2⟩)) Tryd.underlying51 (by kernel_rfl) (fun _=>rfl) (Opens.opensF_cons (by kernel_rfl) (Opens.opens_int (ik:=.i64) Tryd.underlying3) (Opens.opensF_one (by kernel_rfl) (Opens.opens_slice Tryd.underlying45 (by kernel_rfl) (by kernel_rfl) o73)))) (fun x h=>h)
def G49 (x:S49):Prop:=((x.f0.length * 16 ≤ 140737488351232∧∀ zxf0 ∈ x.f0,G73 zxf0))∧((x.f1.length * 32 ≤ 140737488351232∧∀ zxf1 ∈ x.f1,G51 zxf1))
theorem o49:Opens.Opens Tryd.prog k49 49 G49:=Opens.Opens.mono (Opens.opens_struct (gi:=(fun p=>⟨p.1,p.2⟩)) Tryd.underlying49 (by kernel_rfl) (fun _=>rfl) (Opens.opensF_cons (by kernel_rfl) (Opens.opens_slice Tryd.underlying45 (by kernel_rfl) (by kernel_rfl) o73) (Opens.opensF_one (by kernel_rfl) (Opens.opens_slice Tryd.underlying47 (by kernel_rfl) (by kernel_rfl) o51)))) (fun x h=>h)
def G25 (x:S25):Prop:=((x.f0.length * 40 ≤ 140737488351232∧∀ zxf0 ∈ x.f0,G58 zxf0))∧((x.f1.length * 48 ≤ 140737488351232∧∀ zxf1 ∈ x.f1,G49 zxf1))
theorem o25:Opens.Opens Tryd.prog k25 25 G25:=Opens.Opens.mono (Opens.opens_struct (gi:=(fun p=>⟨p.1,p.2⟩)) Tryd.underlying25 (by kernel_rfl) (fun _=>rfl) (Opens.opensF_cons (by kernel_rfl) (Opens.opens_slice Tryd.underlying22 (by kernel_rfl) (by kernel_rfl) o58) (Opens.opensF_one (by kernel_rfl) (Opens.opens_slice Tryd.underlying23 (by kernel_rfl) (by kernel_rfl) o49)))) (fun x h=>h)
def G40 (x:S40):Prop:=((x.f0.length * 8 ≤ 140737488351232∧∀ zxf0 ∈ x.f0,(Lit.int .i64 zxf0).wf = true))∧((x.f1.length * 8 ≤ 140737488351232∧∀ zxf1 ∈ x.f1,(Lit.int .i64 zxf1).wf = true))
theorem o40:Opens.Opens Tryd.prog k40 40 G40:=Opens.Opens.mono (Opens.opens_struct (gi:=(fun p=>⟨p.1,p.2⟩)) Tryd.underlying40 (by kernel_rfl) (fun _=>rfl) (Opens.opensF_cons (by kernel_rfl) (Opens.opens_slice Tryd.underlying32 (by kernel_rfl) (by kernel_rfl) (Opens.opens_int (ik:=.i64) Tryd.underlying3)) (Opens.opensF_one (by kernel_rfl) (Opens.opens_slice Tryd.underlying32 (by kernel_rfl) (by kernel_rfl) (Opens.opens_int (ik:=.i64) Tryd.underlying3))))) (fun x h=>h)
end Go.Proofs.YtbekikafhpdehaaDoor.V
-- Cut by a program of this session (wip/prune.py) from a longer text: declarations that the law does not need are left out.
namespace Go.Proofs.YtbekikafhpdehaaDoor.Opens
open Go.RowKit Go.Proofs.YtbekikafhpdehaaDoorW.PrintWords Go.Proofs.YtbekikafhpdehaaDoorW.PrintLast Go.WideShapes
set_option linter.unusedVariables false
theorem bulk_one {H : Type} (d : DataW H) : 1 ≤ Rows.uptoBulk d := by
  cases d with
  | lit l => cases l <;> simp [Rows.uptoBulk]
  | nil => simp [Rows.uptoBulk]
  | ptr d => simp [Rows.uptoBulk]
  | slice elems spare => simp [Rows.uptoBulk]
  | agg parts => simp [Rows.uptoBulk]
  | iface t d => simp [Rows.uptoBulk]
  | map entries => simp [Rows.uptoBulk]
  | held h => simp [Rows.uptoBulk]
theorem bulk_part {H : Type} {d : DataW H} {l : List (DataW H)} (h : d ∈ l) : Rows.uptoBulk d ≤ Rows.uptoBulkAll l := by
  induction l with
  | nil => cases h
  | cons x r ih =>
    simp only [Rows.uptoBulkAll]
    cases List.mem_cons.1 h with
    | inl e => subst e; omega
    | inr e => have := ih e; omega
theorem bulk_sum {α H : Type} (m : α → Nat) : ∀ (xs : List α) (ds : List (DataW H)), (∀ (i : Nat) (x : α), xs[i]? = some x → ∃ d, ds[i]? = some d ∧ m x ≤ Rows.uptoBulk d) → (xs.map m).sum ≤ Rows.uptoBulkAll ds
  | [], _, _ => by simp
  | x :: xs, ds, h => by
    obtain ⟨d, hd, hm⟩ := h 0 x rfl
    match ds, hd, h with
    | d' :: ds, hd, h =>
      simp only [List.getElem?_cons_zero, Option.some.injEq] at hd
      subst hd
      have := bulk_sum m xs ds (fun i y hy => h (i + 1) y hy)
      simp only [List.map_cons, List.sum_cons, Rows.uptoBulkAll]
      omega
variable {P : Program}
def BulkB (P : Program) {α : Type} (k : Kd α) (t : TypeId) (m : α → Nat) : Prop :=
  ∀ {H : Type} (enc : TypeId × Value → H) (w : World) (spare : Nat → Bool) (fuel : Nat) (cs : List Value) (d : DataW H) (ps : List MemPlace), DataW.trod enc P w 0 spare true fuel t cs = some (d, ps) → ∀ x, k.K w x cs → m x ≤ Rows.uptoBulk d
theorem bulk_any {α : Type} (k : Kd α) (t : TypeId) : BulkB P k t (fun _ => 1) := fun enc w spare fuel cs d ps ht x hx => bulk_one d
theorem bulk_slice {α : Type} {k : Kd α} {t e e' : TypeId} {m : α → Nat} (hu : P.underlying t = some (.slice e)) (hc : P.cellsOf e = k.sz) (hm : BulkB P k e m) : BulkB P (Kd.slice e' k) t (fun xs => (xs.map m).sum) := fun {H} enc w spare fuel cs d ps ht x hx => by
  obtain ⟨A, c, rfl, hlc, hC⟩ := hx
  cases fuel with
  | zero => simp [DataW.trod] at ht
  | succ n =>
    unfold DataW.trod at ht
    rw [hu] at ht
    cases A with
    | none =>
      have hl : x.length = 0 := by
        rcases Nat.eq_zero_or_pos x.length with h | h
        · exact h
        · obtain ⟨ad, e, _⟩ := hC.2.2 h
          cases e
      have : x = [] := List.length_eq_zero_iff.1 hl
      subst this
      simp
    | some a =>
      simp only [] at ht
      split at ht
      · rename_i hle
        simp only [Option.bind_eq_some_iff, Option.map_eq_some_iff] at ht
        obtain ⟨elems, he, rest, hr, ht⟩ := ht
        simp only [Prod.mk.injEq] at ht
        obtain ⟨rfl, _⟩ := ht
        obtain ⟨hel, heg⟩ := mapM_get _ _ _ he
        have hs := bulk_sum m x (elems.map (·.1)) (fun i y hy => by
          have hi : i < x.length := (List.getElem?_eq_some_iff.1 hy).1
          obtain ⟨z, hz, e1⟩ := heg i i (by rw [List.getElem?_range hi])
          obtain ⟨c1, hc1, hc2⟩ := Option.bind_eq_some_iff.1 e1
          obtain ⟨hcl, hcg⟩ := cells_get hc1
          refine ⟨z.1, by rw [List.getElem?_map, hz]; rfl, ?_⟩
          obtain ⟨ad, ea, hrow⟩ := hC.2.2 (by omega)
          cases ea
          obtain ⟨c2, hl2, hk2, hg2⟩ := hrow i y hy
          have : c1 = c2 := by
            apply List.ext_getElem?
            intro j
            rcases Nat.lt_or_ge j k.sz with hj | hj
            · have h1 : j < c1.length := by rw [hcl, hc]; exact hj
              have h2 : j < c2.length := by rw [hl2]; exact hj
              have e1 := hcg j _ (List.getElem?_eq_getElem h1)
              have e2 := hg2 j _ (List.getElem?_eq_getElem h2)
              rw [hc, add_add, e2] at e1
              rw [List.getElem?_eq_getElem h1, List.getElem?_eq_getElem h2]
              exact e1.symm
            · rw [List.getElem?_eq_none (by rw [hcl, hc]; exact hj), List.getElem?_eq_none (by rw [hl2]; exact hj)]
          subst this
          exact hm enc w spare n _ z.1 z.2 hc2 y hk2)
        simp only [Rows.uptoBulk]
        omega
      · cases ht
theorem one_sum {α : Type} : ∀ l : List α, (l.map (fun _ => 1)).sum = l.length
  | [] => rfl
  | a :: l => by
    have := one_sum l
    simp only [List.map_cons, List.sum_cons, List.length_cons]
    omega
theorem bulk_len {α : Type} {k : Kd α} {t e e' : TypeId} (hu : P.underlying t = some (.slice e)) (hc : P.cellsOf e = k.sz) : BulkB P (Kd.slice e' k) t List.length := fun enc w spare fuel cs d ps ht x hx => by
  have h2 : (x.map (fun _ => 1)).sum ≤ Rows.uptoBulk d := bulk_slice (m := fun _ => 1) (e' := e') hu hc (bulk_any k e) enc w spare fuel cs d ps ht x hx
  rw [one_sum] at h2
  exact h2
theorem bulk_field {α : Type} {k : Kd α} {t : TypeId} {m : α → Nat} {fs : Array Field} (hu : P.underlying t = some (.struct fs)) {f : Field} {i : Nat} (hf : fs.toList[i]? = some f) (hm : BulkB P k f.type m) {H : Type} {enc : TypeId × Value → H} {w : World} {cs : Array Value} {d : DataW H} {ps : List MemPlace} (h : DataW.Trod enc P w 0 (fun _ => true) true t (.agg cs) d ps) (x : α) (hx : k.K w x ((cs.toList.drop f.offset).take (P.cellsOf f.type))) : m x ≤ Rows.uptoBulk d := by
  obtain ⟨fuel, ht⟩ := h
  cases fuel with
  | zero => simp [DataW.trod] at ht
  | succ n =>
    unfold DataW.trod at ht
    rw [hu] at ht
    have ht2 : (if cs.toList.length = P.cellsOf t then (fs.toList.mapM fun f => DataW.trod enc P w 0 (fun _ => true) true n f.type ((cs.toList.drop f.offset).take (P.cellsOf f.type))).map fun xs => (DataW.agg (xs.map (·.1)), xs.flatMap (·.2)) else none) = some (d, ps) := by
      have e : (Value.agg cs).cells.toList = cs.toList := rfl
      rw [e] at ht
      match cs.toList, ht with
      | [], ht => exact ht
      | [.bool _], ht => exact ht
      | [.int _ _], ht => exact ht
      | [.float _ _], ht => exact ht
      | _ :: _ :: _, ht => exact ht
      | [x], ht => cases x <;> exact ht
    split at ht2
    · obtain ⟨ys, hy, he⟩ := Option.map_eq_some_iff.1 ht2
      simp only [Prod.mk.injEq] at he
      obtain ⟨rfl, _⟩ := he
      obtain ⟨_, hg⟩ := mapM_get _ _ _ hy
      obtain ⟨y, hy1, hy2⟩ := hg i f hf
      have h1 := hm enc w _ n _ y.1 y.2 hy2 x hx
      have h2 : Rows.uptoBulk y.1 ≤ Rows.uptoBulkAll (ys.map (·.1)) := bulk_part (List.mem_map.2 ⟨y, List.mem_of_getElem? hy1, rfl⟩)
      simp only [Rows.uptoBulk]
      omega
    · cases ht2
end Go.Proofs.YtbekikafhpdehaaDoor.Opens
