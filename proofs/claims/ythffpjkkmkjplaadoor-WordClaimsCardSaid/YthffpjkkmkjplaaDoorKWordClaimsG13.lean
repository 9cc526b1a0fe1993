import Derived.Test.YthffpjkkmkjplaaDoorKWordClaimsG7
import Derived.Lib.AppendZeros
import Derived.Laws.AppendOwnNone
-- Cut by a program of this session (wip/prune.py) from a longer text: declarations that the law does not need are left out.
namespace Go.Proofs.YthffpjkkmkjplaaDoor.Hand
open Go.RowKit Go.Proofs.YthffpjkkmkjplaaDoor Go.Proofs.YthffpjkkmkjplaaDoor.Q Go.Proofs.YthffpjkkmkjplaaDoorW.PrintWords Go.Proofs.YthffpjkkmkjplaaDoorW.PrintLast Go.Proofs.YthffpjkkmkjplaaDoorW.PrintMore
set_option linter.unusedVariables false
set_option linter.unusedSimpArgs false
theorem infoG : (Tryd.prog.info? 27).map (fun i => (i.zero, i.size, i.bytes)) = some (some (.slice none 0 0), 1, 24) := by kernel_rfl
theorem growG (n : Nat) (hn : n * 24 ≤ 140737488355328) (w : World) :
    Calls Tryd.prog 66 #[.slice none 0 0, .int .i64 (n : Int)] w fun e w' => ∃ v, e = .returned v ∧ w'.ownsRow w.heap.size 27 1 v 0 [] ∧ Below w.heap.size w w' := by
  have q1 : decide ((n : Int) < 0) = false := decide_eq_false (by omega)
  have e1 : IntKind.i64.wrap (n : Int) = (n : Int) := by rw [IntKind.wrap_i64]; omega
  by_cases h0 : n = 0
  · subst h0
    go_enter Tryd.func66, Tryd.ntmps66
    go_wp2
    go_ret
    exact ⟨_, rfl, ⟨rfl, .inl ⟨rfl, rfl⟩⟩, Below.refl _ _⟩
  · have q2 : decide ((n : Int) > 0) = true := decide_eq_true (by omega)
    obtain ⟨i0, hi0, hz0, hz1, hz2⟩ := info_parts infoG
    have hrz := fun ty => Lib.run_append_nil_zeros (P := Tryd.prog) w 23 3 ty 27 i0 _ .i64 .i64 Tryd.underlying23 Tryd.underlying3 hi0 hz0 n (by omega) (by omega) (by omega) (by rw [hz2]; omega)
    obtain ⟨G, hG⟩ : ∃ G, G = grownCap w n 0 27 := ⟨_, rfl⟩
    rw [← hG] at hrz
    have hge : n ≤ G := by rw [hG]; exact grownCap_ge w _ _ _
    have hle : G ≤ maxLen := by rw [hG]; exact grownCap_le_maxLen w _ _ _ (by unfold maxLen; omega)
    obtain ⟨Z, hZ⟩ : ∃ Z, Z = (Builtin.zeroCells (Value.slice none 0 0).cells n ++ Builtin.zeroCells (Value.slice none 0 0).cells (G - n)) := ⟨_, rfl⟩
    rw [← hZ] at hrz
    have HZ := Aside0.mk hZ
    have HGE := Aside0.mk hge
    have HLE := Aside0.mk hle
    clear hn hi0 hz0 hz1 hz2 hG hZ hge hle
    go_enter Tryd.func66, Tryd.ntmps66
    go_wp2_with (at_builtin; refine Lib.wpList_append_run _ rfl _ _ _ _ rfl _ _ rfl rfl _ _ (hrz _) ?_)
    go_ret
    refine ⟨_, rfl, ⟨rfl, .inr ⟨w.heap.size, G, Z, rfl, Nat.le_refl _, heap_new w.drew _, Nat.zero_le _, HLE.out, ?_, by simp⟩⟩, (Below.refl _ _).drew.alloc (Nat.le_refl _) _⟩
    have := HGE.out
    rw [HZ.out, Array.size_append, size_zeroCells, size_zeroCells]
    show n * 1 + (G - n) * 1 = G * 1
    omega
def RdC (w : World) (A : Option Addr) (n : Nat) (cs : List Value) : Prop := cs.length = n ∧ (A = none → n = 0) ∧ (∀ ad, A = some ad → ∀ j u, cs[j]? = some u → w.cell? (ad.add j) = some u) ∧ ∀ u ∈ cs, u.oneCell' = true
theorem RdC.below {w w' : World} {A : Option Addr} {n : Nat} {cs : List Value} (h : RdC w A n cs) (hb : Below w.heap.size w w') : RdC w' A n cs :=
  ⟨h.1, h.2.1, fun ad e j u hu => pw_cell_below hb (h.2.2.1 ad e j u hu), h.2.2.2⟩
theorem wpList_append_rd {w : World} {ops : Array Oper} {rest : List Oper} {o : Oper} {a : Act} {Q : Exit → Act → World → Prop} (hgd : o.guard = none) (s x : Operand)
    (hop : o.op = .call { callee := .builtin .append, args := #[s, x], argTypes := #[23, 23] }) (base : Nat) (v : Value) (n : Nat) (cells : List Value) (hs : a.eval s = v) (HO : w.ownsRow base 27 1 v n cells)
    (A : Option Addr) (m c : Nat) (cs : List Value) (hx : a.eval x = .slice A m c) (hR : RdC w A m cs) (hb : (n + m) * 24 ≤ 140737488355328) (hbase : base ≤ w.heap.size)
    (h : ∀ v' w', w'.ownsRow base 27 1 v' (n + m) (cells ++ cs) → w.grownBy w' v.ownBlock → wpList Tryd.prog ops Q rest (a.put o.dst v') w') : wpList Tryd.prog ops Q (o :: rest) a w := by
  obtain ⟨i0, hi0, hz0, hz1, hz2⟩ := info_parts infoG
  cases A with
  | none =>
    obtain rfl := hR.2.1 rfl
    have hcs : cs = [] := List.eq_nil_of_length_eq_zero hR.1
    subst hcs
    have hrun : (Builtin.append_ #[23, 23] o.type #[v, .slice none 0 c]).run Tryd.prog w = .ok v w := by
      rcases HO.2 with ⟨rfl, rfl⟩ | ⟨g, cap, cur, rfl, _, _, hnc, _⟩
      · simp [Builtin.append_, run_underlying Tryd.underlying23, sizeOf, typeInfo, hi0, Builtin.lenOf, Builtin.firstCells]
      · simp [Builtin.append_, run_underlying Tryd.underlying23, sizeOf, typeInfo, hi0, Builtin.lenOf, Builtin.firstCells, hnc, storeCells]
    refine Lib.wpList_append_run w hgd s x 23 23 hop v (.slice none 0 c) hs hx v w hrun ?_
    exact h v w (by simpa using HO) (World.grownBy.refl w _)
  | some ad =>
    exact wpList_append_own w hgd s x 23 hop base 27 i0 _ 1 24 Tryd.underlying23 hi0 hz0 hz1 hz2 rfl (by decide) v n cells hs HO ad m c cs hx (by rw [hR.1]; omega) (hR.2.2.1 ad rfl) hR.2.2.2 (by unfold maxLen; omega) hb hbase fun v' w' h1 h2 _ => h v' w' h1 h2
theorem concatG (bb : Nat) (As Al : Option Addr) (ns cs nl cl : Nat) (xs ys : List Value) (w : World) (hb : w.heap[bb]? = some (.cells #[.slice As ns cs, .slice Al nl cl] 23 (0, 0))) (hx : RdC w As ns xs) (hy : RdC w Al nl ys) (hn : (ns + nl) * 24 ≤ 140737488355328) :
    Calls Tryd.prog 44 #[.slice (some ⟨bb, 0, none⟩) 2 2] w fun e w' => ∃ v, e = .returned v ∧ w'.ownsRow w.heap.size 27 1 v (ns + nl) (xs ++ ys) ∧ Below w.heap.size w w' := by
  have c0 : w.cell? ⟨bb, 0, none⟩ = some (.slice As ns cs) := blk_cell hb 0
  have c1 : w.cell? ⟨bb, 1, none⟩ = some (.slice Al nl cl) := blk_cell hb 1
  have hs : ns ≤ 5864062014805 := by omega
  have hl : nl ≤ 5864062014805 := by omega
  have HB := Aside0.mk hb
  have HX := Aside0.mk hx
  have HY := Aside0.mk hy
  have HN := Aside0.mk hn
  clear hb hx hy hn
  go_enter Tryd.func44, Tryd.ntmps44
  go_wp2_with fail
  go_loop [3, 11] (fun t3 t11 => (t3 = .int .i64 0 ∧ t11 = .int .i64 0) ∨ (t3 = .int .i64 (ns : Int) ∧ t11 = .int .i64 1) ∨ (t3 = .int .i64 ((ns + nl : Nat) : Int) ∧ t11 = .int .i64 2)) (fun _ t11 => 2 - (intOf t11).toNat)
  case atStart => exact .inl ⟨rfl, rfl⟩
  case round =>
    rcases hrel with ⟨rfl, rfl⟩ | ⟨rfl, rfl⟩ | ⟨rfl, rfl⟩
    · have e1 : IntKind.i64.wrap (ns : Int) = (ns : Int) := by rw [IntKind.wrap_i64]; omega
      have q1 : decide ((ns : Int) < 0) = false := decide_eq_false (by omega)
      go_wp2
      exact ⟨.inr (.inl ⟨rfl, rfl⟩), by simp [intOf]⟩
    · have e1 : IntKind.i64.wrap ((ns : Int) + (nl : Int)) = (ns : Int) + (nl : Int) := by rw [IntKind.wrap_i64]; omega
      have q1 : decide ((ns : Int) + (nl : Int) < 0) = false := decide_eq_false (by omega)
      go_wp2
      exact ⟨.inr (.inr ⟨rfl, rfl⟩), by simp [intOf]⟩
    · have hG := growG (ns + nl) HN.out w
      have HG := Aside0.mk hG
      clear hG
      go_wp2_with fail
      refine HG.out.mono ?_
      rintro e w1 ⟨v, rfl, ho, hb1⟩
      have b1 := (hb1.block bb (blk_lt HB.out)).trans HB.out
      have d0 : w1.cell? ⟨bb, 0, none⟩ = some (.slice As ns cs) := blk_cell b1 0
      have d1 : w1.cell? ⟨bb, 1, none⟩ = some (.slice Al nl cl) := blk_cell b1 1
      have HO := Aside0.mk ho
      have HB1 := Aside0.mk hb1
      have BB := Aside0.mk b1
      clear ho hb1 c0 c1 b1
      go_wp2_with fail
      go_loopw [6, 27] (fun t6 t27 wr => Aside0 (Below w.heap.size w wr) ∧ ((t27 = .int .i64 0 ∧ Aside0 (wr.ownsRow w.heap.size 27 1 t6 0 [])) ∨ (t27 = .int .i64 1 ∧ Aside0 (wr.ownsRow w.heap.size 27 1 t6 ns xs)) ∨ (t27 = .int .i64 2 ∧ Aside0 (wr.ownsRow w.heap.size 27 1 t6 (ns + nl) (xs ++ ys))))) (fun _ t27 _ => 2 - (intOf t27).toNat)
      case atStart => exact ⟨HB1, .inl ⟨rfl, HO⟩⟩
      case round =>
        obtain ⟨HBr, hr⟩ := hrel
        have b1 := (HBr.out.block bb (blk_lt HB.out)).trans HB.out
        have f0 : wr.cell? ⟨bb, 0, none⟩ = some (.slice As ns cs) := blk_cell b1 0
        have f1 : wr.cell? ⟨bb, 1, none⟩ = some (.slice Al nl cl) := blk_cell b1 1
        have HZr := Aside0.mk HBr.out.size
        clear b1 d0 d1
        rcases hr with ⟨rfl, HOr⟩ | ⟨rfl, HOr⟩ | ⟨rfl, HOr⟩
        · go_wp2_with (at_builtin; refine wpList_append_rd rfl (.tmp 31) (.tmp 32) rfl w.heap.size _ 0 [] rfl HOr.out As ns cs xs rfl (HX.out.below HBr.out) (by have := HN.out; omega) HZr.out ?_; intro v' w2 ho' hg'; rw [Nat.zero_add, List.nil_append] at ho'; have HO' := Aside0.mk ho'; have HB' := Aside0.mk (HBr.out.grown hg' HZr.out (fun k hk => own_base HOr.out k hk)); clear ho' hg')
          exact ⟨⟨HB', .inr (.inl ⟨rfl, HO'⟩)⟩, by simp [intOf]⟩
        · go_wp2_with (at_builtin; refine wpList_append_rd rfl (.tmp 31) (.tmp 32) rfl w.heap.size _ ns xs rfl HOr.out Al nl cl ys rfl (HY.out.below HBr.out) HN.out HZr.out ?_; intro v' w2 ho' hg'; have HO' := Aside0.mk ho'; have HB' := Aside0.mk (HBr.out.grown hg' HZr.out (fun k hk => own_base HOr.out k hk)); clear ho' hg')
          exact ⟨⟨HB', .inr (.inr ⟨rfl, HO'⟩)⟩, by simp [intOf]⟩
        · go_wp2
          go_ret
          exact ⟨_, rfl, HOr.out, HBr.out⟩
theorem cells_of {α : Type} {d : Kd α} {e : Nat} {w : World} : ∀ {n : Nat} {A : Option Addr} {xs : List (List α)}, Kd.C (Kd.slice e d) w A n xs → ∃ cs : List Value, RdC w A n cs ∧ ∀ (j : Nat) (x : List α), xs[j]? = some x → ∃ Aj cj, cs[j]? = some (Value.slice Aj x.length cj) := by
  intro n A xs h
  obtain ⟨h1, h2, h3⟩ := h
  by_cases h0 : n = 0
  · subst h0
    obtain rfl := List.eq_nil_of_length_eq_zero h1
    exact ⟨[], ⟨rfl, fun _ => rfl, fun ad e j u hu => (by simp at hu), (by simp)⟩, fun j x hx => (by simp at hx)⟩
  obtain ⟨ad, rfl, hc⟩ := h3 (by omega)
  have key : ∀ m, m ≤ n → ∃ cs : List Value, cs.length = m ∧ (∀ j u, cs[j]? = some u → w.cell? (ad.add j) = some u ∧ ∃ x Aj cj, xs[j]? = some x ∧ u = .slice Aj x.length cj) := by
    intro m
    induction m with
    | zero => exact fun _ => ⟨[], rfl, fun j u hu => by simp at hu⟩
    | succ m ih =>
      intro hm
      obtain ⟨cs, hl, hcs⟩ := ih (by omega)
      obtain ⟨c, c1, ⟨Aj, cj, c2, _⟩, c3⟩ := hc m _ (List.getElem?_eq_getElem (show m < xs.length by omega))
      refine ⟨cs ++ [.slice Aj xs[m].length cj], by simp [hl], fun j u hu => ?_⟩
      rcases Nat.lt_or_ge j cs.length with hj | hj
      · rw [List.getElem?_append_left hj] at hu
        exact hcs j u hu
      · have hjm : j = m := by have := (List.getElem?_eq_some_iff.1 hu).1; simp at this; omega
        subst hjm
        rw [List.getElem?_append_right (by omega), hl] at hu
        simp at hu
        subst hu
        have := c3 0 (.slice Aj xs[j].length cj) (by rw [c2]; rfl)
        refine ⟨?_, xs[j], Aj, cj, List.getElem?_eq_getElem _, rfl⟩
        have e1 : j * (Kd.slice e d).sz + 0 = j := by show j * 1 + 0 = j; omega
        rw [e1] at this
        exact this
  obtain ⟨cs, hl, hcs⟩ := key n (Nat.le_refl _)
  refine ⟨cs, ⟨hl, fun e => (by cases e), fun ad' e j u hu => ?_, fun u hu => ?_⟩, fun j x hx => ?_⟩
  · cases e; exact (hcs j u hu).1
  · obtain ⟨j, hj⟩ := List.mem_iff_getElem?.1 hu
    obtain ⟨_, x, Aj, cj, _, rfl⟩ := hcs j u hj
    rfl
  · have hjl : j < cs.length := by have := (List.getElem?_eq_some_iff.1 hx).1; omega
    obtain ⟨_, x', Aj, cj, hx', hu⟩ := hcs j _ (List.getElem?_eq_getElem hjl)
    rw [hx] at hx'
    cases hx'
    exact ⟨Aj, cj, by rw [List.getElem?_eq_getElem hjl, hu]⟩
end Go.Proofs.YthffpjkkmkjplaaDoor.Hand
