-- WRITTEN by this session's own program (wip/pp.py) over the translation. Not trusted: Lean checks it.
import Derived.Test.YtmlkkpkaaicobaaDoorLx0
import Derived.Test.YtmlkkpkaaicobaaDoorLx2
import Derived.Test.YtmlkkpkaaicobaaDoorLx3
import Derived.StillTailTactics
import Derived.Test.YtmlkkpkaaicobaaDoorMAhead
namespace Go.Proofs.YtmlkkpkaaicobaaDoor.L
open Go.RowKit Go.Proofs.YtmlkkpkaaicobaaDoorW.PrintWords Go.Proofs.YtmlkkpkaaicobaaDoorW.PrintLast Go.Proofs.YtmlkkpkaaicobaaDoorW.PrintMore
attribute [local go_sem] max2_int min2_int max_two min_two max_three min_three max_four min_four   -- for this text's walks alone
set_option linter.unusedVariables false
set_option linter.unusedSimpArgs false

-- IMPORT Derived.Test.YtmlkkpkaaicobaaDoorMAhead
-- IMPORT Derived.StillTailTactics
/-! ### logic_Truths: function 33 -/
section
open Go.Proofs.YtmlkkpkaaicobaaDoor.Hand
theorem first_calls (go ga bo n : Nat) (out : List Bool) (i : Nat) (w : World) (hO : w.heap[go]? = some (.cells #[.slice (some ⟨bo, 0, none⟩) n n] 44 (0, 0))) (hA : w.heap[ga]? = some (.cells #[.int .i64 (i : Int)] 3 (0, 0)))
    (hB : w.heap[bo]? = some (.cells (bools out).toArray 4 (0, 0))) (hn : out.length = n) (hi : i + 1 < n) (hm : n ≤ 60) :
    Calls Tryd.prog 55 #[.pointer (some ⟨go, 0, none⟩), .pointer (some ⟨ga, 0, none⟩)] w fun e w' => e = .returned (.bool (out.getD (i + 1) false)) ∧ w' = w := by
  have k1 : w.cell? ⟨go, 0, none⟩ = some (.slice (some ⟨bo, 0, none⟩) n n) := blk_cell hO 0
  have k2 : w.cell? ⟨ga, 0, none⟩ = some (.int .i64 (i : Int)) := blk_cell hA 0
  have k3 : w.cell? ⟨bo, i + 1, none⟩ = some (.bool (out.getD (i + 1) false)) := by
    rw [blk_cell hB]
    have : i + 1 < out.length := by omega
    simp [bools, this]
  have e1 : IntKind.i64.wrap ((i : Int) + 1) = ((i + 1 : Nat) : Int) := by rw [IntKind.wrap_i64]; omega
  have hd : decide (((i + 1 : Nat) : Int) < (n : Int)) = true := decide_eq_true (by omega)
  have hd2 : decide (i + 1 < n) = true := decide_eq_true (by omega)
  go_enter Tryd.func55, Tryd.ntmps55
  go_wp2
  go_ret
  exact ⟨by simp [show i + 1 < out.length by omega], rfl⟩
theorem second_calls (go ge ga bo n : Nat) (Ae : Option Addr) (ce : Nat) (ends : List Int) (out : List Bool) (i j : Nat) (w : World) (hO : w.heap[go]? = some (.cells #[.slice (some ⟨bo, 0, none⟩) n n] 44 (0, 0))) (hA : w.heap[ga]? = some (.cells #[.int .i64 (i : Int)] 3 (0, 0)))
    (hE : w.heap[ge]? = some (.cells #[.slice Ae n ce] 28 (0, 0))) (hC : Kd.C (Kd.int .i64) w Ae n ends) (hB : w.heap[bo]? = some (.cells (bools out).toArray 4 (0, 0))) (hn : out.length = n) (hi : i + 1 < n) (hm : n ≤ 60) (hj : rd ends ((i + 1 : Nat) : Int) = (j : Int)) (hj2 : j < n) :
    Calls Tryd.prog 56 #[.pointer (some ⟨go, 0, none⟩), .pointer (some ⟨ge, 0, none⟩), .pointer (some ⟨ga, 0, none⟩)] w fun e w' => e = .returned (.bool (out.getD j false)) ∧ ∃ nd, w' = w.drewN nd := by
  have k1 : w.cell? ⟨go, 0, none⟩ = some (.slice (some ⟨bo, 0, none⟩) n n) := blk_cell hO 0
  have k2 : w.cell? ⟨ga, 0, none⟩ = some (.int .i64 (i : Int)) := blk_cell hA 0
  have k4 : w.cell? ⟨ge, 0, none⟩ = some (.slice Ae n ce) := blk_cell hE 0
  have k3 : w.cell? ⟨bo, j, none⟩ = some (.bool (out.getD j false)) := by
    rw [blk_cell hB]
    have : j < out.length := by omega
    simp [bools, this]
  obtain ⟨ad, rfl, k5⟩ := Kd.at_int hC ((i + 1 : Nat) : Int) (by omega) (by omega)
  rw [hj, Int.toNat_natCast] at k5
  have e1 : IntKind.i64.wrap ((i : Int) + 1) = ((i + 1 : Nat) : Int) := by rw [IntKind.wrap_i64]; omega
  have hd : decide (((i + 1 : Nat) : Int) < (n : Int)) = true := decide_eq_true (by omega)
  have hd2 : decide (i + 1 < n) = true := decide_eq_true (by omega)
  have hd3 : decide ((j : Int) < (n : Int)) = true := decide_eq_true (by omega)
  have hd4 : decide (j < n) = true := decide_eq_true (by omega)
  have k6 : w.cell? ⟨ad.block, ad.off + (i + 1), none⟩ = some (.int .i64 (j : Int)) := k5
  have hp1 : (0 ≤ (i : Int) + 1) = True := eq_true (by omega)
  have hq1 : ((i : Int) + 1 < (n : Int)) = True := eq_true (by omega)
  have hp2 : (0 ≤ (j : Int)) = True := eq_true (by omega)
  have hq2 : ((j : Int) < (n : Int)) = True := eq_true (by omega)
  clear hC hO hA hE hB
  go_enter Tryd.func56, Tryd.ntmps56
  go_wp2
  go_quiet (fail)
  go_wp2
  go_ret
  exact ⟨by simp [show j < out.length by omega], nq, rfl⟩
def logic_Truths.f (l0 : List S63) (l1 : List Bool) (a2 : Int) : Option (List Bool × Int) := some (Pure.truthsS l0 l1 a2)
set_option maxRecDepth 100000 in
set_option maxHeartbeats 8000000 in
theorem logic_Truths.calls (A0 : Option Addr) (c0 : Nat) (l0 : List S63) (A1 : Option Addr) (c1 : Nat) (l1 : List Bool) (a2 : Int) (r1 : List Bool) (r2 : Int) (w : World) (hr0 : Kd.C k63 w A0 l0.length l0) (hc0 : l0.length ≤ c0) (hr1 : Kd.C Kd.bool w A1 l1.length l1) (hc1 : l1.length ≤ c1) (hL : LaidG w) (h : logic_Truths.f l0 l1 a2 = some (r1, r2)) :
    Calls Tryd.prog 33 #[.slice A0 l0.length c0, .slice A1 l1.length c1, .int .i64 a2] w fun e w' => ∃ v0_ : Value, e = .returned (.tuple #[v0_, .int .i64 r2]) ∧ Kd.R Kd.bool 4 w' w.heap.size (fun _ => True) v0_ r1 ∧ Below w.heap.size w w' := by
  have hmf : ∀ (fn : Fn) (first cap : Array Value) (w : World), (Instr.makeFunc fn first cap).run Tryd.prog w = .ok (.func fn first cap) w := fun _ _ _ _ => rfl
  have h := Option.some.inj h
  obtain ⟨K, hK⟩ := Pure.ahead_ev l0 (l1.length : Int)
  have hA := hK K (Nat.le_refl _)
  unfold Pure.aheadS at hA
  unfold Pure.truthsS at h
  have HR := Aside0.mk hr0
  have HC := Aside0.mk hc0
  have HR1 := Aside0.mk hr1
  have HC1 := Aside0.mk hc1
  have HLd := Aside0.mk hL
  clear hr0 hc0 hr1 hc1 hL hK
  by_cases hc : Pure.checkS l0 l1.length = 0
  · rw [if_pos hc] at h hA
    obtain ⟨h1, h2, h3, h4⟩ := Pure.checkS_ok hc
    obtain ⟨h5, h6⟩ := Pure.checkS_fit hc
    have hal := Pure.aheadL_cA l0 0
    have HA := Aside0.mk hA
    have HH := Aside0.mk h
    have HAL := Aside0.mk hal
    clear hA h hal
    go_enter Tryd.func33, Tryd.ntmps33
    go_wp2_with (go_at_call 28; refine (logic_Ahead.calls K _ _ l0 _ _ _ _ HR.out HC.out HLd.out HA.out).mono ?_; rintro e w' ⟨v0, rfl, ho, hb⟩; obtain ⟨Ap, cp, rfl⟩ := Kd.R_slice ho; have HP := Aside0.mk ho; have HB := Aside0.mk hb; clear ho hb)
    · have q1 : a2 < 0 ∨ wrap64 (2 ^ min (Pure.aheadL l0 0).length 64) ≤ a2 := by assumption
      have hp : wrap64 (2 ^ min (Pure.aheadL l0 0).length 64) = 2 ^ Pure.cA l0 := by
        rw [HAL.out, Nat.min_eq_left (by omega)]
        have : Pure.cA l0 = 0 ∨ Pure.cA l0 = 1 ∨ Pure.cA l0 = 2 ∨ Pure.cA l0 = 3 ∨ Pure.cA l0 = 4 ∨ Pure.cA l0 = 5 ∨ Pure.cA l0 = 6 := by omega
        rcases this with e | e | e | e | e | e | e <;> (rw [e]; exact Base.wrap_id (by decide) (by decide))
      rw [hp] at q1
      have h := HH.out
      rw [if_neg (by omega)] at h
      obtain ⟨rfl, rfl⟩ := Prod.mk.inj h
      go_ret2
      exact ⟨_, rfl, Kd.R_nil _ _ _ _ _, HB.out⟩
    · have q1 : 0 ≤ a2 ∧ a2 < wrap64 (2 ^ min (Pure.aheadL l0 0).length 64) := by assumption
      have hp : wrap64 (2 ^ min (Pure.aheadL l0 0).length 64) = 2 ^ Pure.cA l0 := by
        rw [HAL.out, Nat.min_eq_left (by omega)]
        have : Pure.cA l0 = 0 ∨ Pure.cA l0 = 1 ∨ Pure.cA l0 = 2 ∨ Pure.cA l0 = 3 ∨ Pure.cA l0 = 4 ∨ Pure.cA l0 = 5 ∨ Pure.cA l0 = 6 := by omega
        rcases this with e | e | e | e | e | e | e <;> (rw [e]; exact Base.wrap_id (by decide) (by decide))
      rw [hp] at q1
      have h := HH.out
      rw [if_pos q1] at h
      obtain ⟨rfl, rfl⟩ := Prod.mk.inj h
      have hE : polish_Ends.f l0 = some ((List.range l0.length).map (endAt l0), 0) := congrArg some h4
      have hsz := HB.out.size
      clear hp h HH
      refine (polish_Ends.calls _ _ l0 _ _ _ (Kd.C_below HR.out HB.out) HC.out (HLd.out.below HB.out) hE).mono ?_
      rintro e w'' ⟨v1, rfl, ho, hb⟩
      obtain ⟨Ae, ce, rfl⟩ := Kd.R_slice ho
      have HE := Aside0.mk ho
      have HB2 := Aside0.mk (below_step HB.out hb)
      have hsz2 := hb.size
      clear ho hb hE h4
      have hmk := print_make_of (P := Tryd.prog) 44 4 (.bool false) 1 Tryd.underlying44 info4 rfl (by omega) l0.length (by omega)
      rw [made_bools] at hmk
      go_wp2_with fail
      clear hmk
      have hszA : ∀ (W : World) (o : Obj), (W.alloc o).heap.size = W.heap.size + 1 := size_alloc
      obtain ⟨W0, hW⟩ : ∃ W0, W0 = ((((w''.alloc (Obj.cells #[Value.slice Ae l0.length ce] 28)).alloc (Obj.cells (bools (List.replicate l0.length false)).toArray 4)).alloc (Obj.cells #[Value.slice (some { block := w''.heap.size + 1, off := 0 }) l0.length l0.length] 44)).alloc (Obj.cells #[Value.int IntKind.i64 ((l0.length : Int) - 1)] 3)) := ⟨_, rfl⟩
      have hBW : Below w''.heap.size w'' W0 := by rw [hW]; exact below_alloc (below_alloc (below_alloc (below_alloc (Below.refl _ _) _) _) _) _
      have hs4 : W0.heap.size = w''.heap.size + 4 := by rw [hW]; simp [hszA]
      have a1 : W0.heap[w''.heap.size]? = some (.cells #[Value.slice Ae l0.length ce] 28 (0, 0)) := by
        rw [hW, heap_old _ (by simp; omega), heap_old _ (by simp; omega), heap_old _ (by simp)]; exact heap_new _ _
      have a2' : W0.heap[w''.heap.size + 1]? = some (.cells (bools (List.replicate l0.length false)).toArray 4 (0, 0)) := by
        rw [hW, heap_old _ (by simp), heap_old _ (by simp), ← hszA w'' (Obj.cells #[Value.slice Ae l0.length ce] 28)]; exact heap_new _ _
      have a3 : W0.heap[w''.heap.size + 1 + 1]? = some (.cells #[Value.slice (some { block := w''.heap.size + 1, off := 0 }) l0.length l0.length] 44 (0, 0)) := by
        rw [hW, heap_old _ (by simp), ← hszA w'' (Obj.cells #[Value.slice Ae l0.length ce] 28), ← hszA _ (Obj.cells (bools (List.replicate l0.length false)).toArray 4)]; exact heap_new _ _
      have a4 : W0.heap[w''.heap.size + 1 + 1 + 1]? = some (.cells #[Value.int IntKind.i64 ((l0.length : Int) - 1)] 3 (0, 0)) := by
        have e3 : w''.heap.size + 1 + 1 + 1 = (((w''.alloc (Obj.cells #[Value.slice Ae l0.length ce] 28)).alloc (Obj.cells (bools (List.replicate l0.length false)).toArray 4)).alloc (Obj.cells #[Value.slice (some { block := w''.heap.size + 1, off := 0 }) l0.length l0.length] 44)).heap.size := by simp [hszA]
        rw [hW, e3]; exact heap_new _ _
      rw [← hW]
      have hBo : ∀ W2, W0.grownBy W2 (some (w''.heap.size + 1)) → Below w''.heap.size w'' W2 := fun W2 hg => hBW.grown hg (by omega) (fun k hk => by injection hk with hk; omega)
      have HBo := Aside0.mk hBo
      have H1 := Aside0.mk a1
      have H2 := Aside0.mk a2'
      have H3 := Aside0.mk a3
      have H4 := Aside0.mk a4
      clear hBo a1 a2' a3 a4 hW hBW hszA
      go_loopg [13, 14] l0.length (fun kq v13 v14 wr => ∃ ga : Nat, v13 = .int .i64 (Pure.cA (l0.take kq) : Int) ∧ v14 = .pointer (some ⟨ga, 0, none⟩) ∧ Aside0 (kq ≤ l0.length) ∧ Aside0 (W0.grownBy wr (some (w''.heap.size + 1))) ∧ Aside0 (wr.heap[ga]? = some (.cells #[Value.int IntKind.i64 ((kq : Int) - 1)] 3 (0, 0))) ∧ Aside0 (wr.heap[w''.heap.size + 1]? = some (.cells (bools (List.replicate kq false ++ Pure.trS l1 a2 (l0.drop kq) (Pure.cA (l0.take kq)))).toArray 4 (0, 0))))
      case atStart => exact ⟨w''.heap.size + 1 + 1 + 1, by rw [List.take_of_length_le (Nat.le_refl _), HAL.out], rfl, ⟨Nat.le_refl _⟩, ⟨World.grownBy.refl _ _⟩, H4, ⟨by rw [List.drop_of_length_le (Nat.le_refl _)]; simpa [Pure.trS] using H2.out⟩⟩
      case round =>
        obtain ⟨ga, rfl, rfl, HK, HG, HGA, HV⟩ := hrel
        have hk := HK.out
        have b1 : wr.heap[w''.heap.size]? = some (.cells #[Value.slice Ae l0.length ce] 28 (0, 0)) := (HG.out.block _ (blk_lt H1.out) (by intro e; injection e with e; omega)).trans H1.out
        have b3 : wr.heap[w''.heap.size + 1 + 1]? = some (.cells #[Value.slice (some { block := w''.heap.size + 1, off := 0 }) l0.length l0.length] 44 (0, 0)) := (HG.out.block _ (blk_lt H3.out) (by intro e; injection e with e; omega)).trans H3.out
        have x1 : wr.cell? ⟨ga, 0, none⟩ = some (.int .i64 ((gk : Int) - 1)) := blk_cell HGA.out 0
        have x3 : wr.cell? ⟨w''.heap.size + 1 + 1, 0, none⟩ = some (Value.slice (some { block := w''.heap.size + 1, off := 0 }) l0.length l0.length) := blk_cell b3 0
        cases gk with
        | zero =>
          have hq : decide (((0 : Nat) : Int) - 1 ≥ 0) = false := by decide
          go_wp2
          go_ret2
          have hv : wr.heap[w''.heap.size + 1]? = some (.cells (bools (Pure.trS l1 a2 l0 0)).toArray 4 (0, 0)) := HV.out
          have hl := Pure.trS_len l1 a2 l0 0
          have hR := R_of_bools (base := w.heap.size) hv (by omega) (by rw [hl]; omega)
          rw [hl] at hR
          exact ⟨_, rfl, hR, below_step HB2.out (HBo.out wr HG.out)⟩
        | succ i =>
          have hlt : i < l0.length := by omega
          have hR2 : Kd.C k63 wr A0 l0.length l0 := Kd.C_below HR.out (below_step HB2.out (HBo.out wr HG.out))
          obtain ⟨ad, e1, y0, y1⟩ := at_T63 hR2 i (by omega) (by omega)
          subst e1
          obtain ⟨o, ho⟩ : ∃ o, o = l0[i] := ⟨_, rfl⟩
          have hg : rd_T63 l0 i = o := by rw [ho]; exact Base.getD_get _ _ _ hlt
          rw [hg, Int.toNat_natCast] at y0 y1
          have e1 : ((i + 1 : Nat) : Int) - 1 = (i : Int) := by omega
          rw [e1] at x1
          have hq : decide ((i : Int) ≥ 0) = true := decide_eq_true (by omega)
          have hidx : decide ((i : Int) < (l0.length : Int)) = true := decide_eq_true (by omega)
          have hne : ga ≠ w''.heap.size + 1 := blk_ne HGA.out HV.out (by decide)
          have x2 : wr.cell? ⟨w''.heap.size + 1, i, none⟩ = some (.bool false) := by
            rw [blk_cell HV.out]
            simp only [bools, List.map_append, List.getElem?_toArray]
            rw [List.getElem?_append_left (by simp)]
            simp
          have z2 : wr.frozen? ⟨w''.heap.size + 1, i, none⟩ = false := blk_frozen HV.out i
          have hne2 : w''.heap.size + 1 ≠ ga := fun e => hne e.symm
          have hfarN : ∀ (nd : Nat) v, ((wr.drewN nd).setCell ⟨w''.heap.size + 1, i, none⟩ v).cell? ⟨ga, 0, none⟩ = some (.int .i64 (i : Int)) := fun nd v => (World.cell?_setCell_other (wr.drewN nd) ⟨w''.heap.size + 1, i, none⟩ ⟨ga, 0, none⟩ v (by intro e; injection e with e; exact hne e.symm)).trans x1
          have hfar : ∀ v, (wr.setCell ⟨w''.heap.size + 1, i, none⟩ v).cell? ⟨ga, 0, none⟩ = some (.int .i64 (i : Int)) := fun v => hfarN 0 v
          obtain ⟨T, hTd⟩ : ∃ T, T = Pure.trS l1 a2 (l0.drop (i + 1)) (Pure.cA (l0.take (i + 1))) := ⟨_, rfl⟩
          have hTl : T.length = l0.length - (i + 1) := by rw [hTd, Pure.trS_len, List.length_drop]
          have hTv := HV.out
          rw [← hTd] at hTv
          have hT : ∀ v : Bool, (if o.f0 = 13 then l1.getD o.f1.toNat false
     else if o.f0 = 11 then true
     else if o.f0 = 12 then false
     else if o.f0 = 10 then !(T.getD 0 false)
     else if o.f0 = 8 then (T.getD 0 false && T.getD (endAt (l0.drop (i + 1)) 0).toNat false)
     else if o.f0 = 9 then (T.getD 0 false || T.getD (endAt (l0.drop (i + 1)) 0).toNat false)
     else decide (a2 / 2 ^ (Pure.cA (l0.take i)) % 2 = 1)) = v → Pure.trS l1 a2 (l0.drop i) (Pure.cA (l0.take i)) = v :: T := by
            intro v hv
            rw [List.drop_eq_getElem_cons hlt, Pure.trS, ← ho, ← hv, hTd, Pure.cA_take l0 i hlt, ← ho]
          have hend : ∀ (nd : Nat) (v : Bool), Pure.trS l1 a2 (l0.drop i) (Pure.cA (l0.take i)) = v :: T →
              W0.grownBy (((wr.drewN nd).setCell ⟨w''.heap.size + 1, i, none⟩ (.bool v)).alloc (Obj.cells #[Value.int IntKind.i64 ((i : Int) - 1)] 3)) (some (w''.heap.size + 1)) ∧
              (((wr.drewN nd).setCell ⟨w''.heap.size + 1, i, none⟩ (.bool v)).alloc (Obj.cells #[Value.int IntKind.i64 ((i : Int) - 1)] 3)).heap[wr.heap.size]? = some (.cells #[Value.int IntKind.i64 ((i : Int) - 1)] 3 (0, 0)) ∧
              (((wr.drewN nd).setCell ⟨w''.heap.size + 1, i, none⟩ (.bool v)).alloc (Obj.cells #[Value.int IntKind.i64 ((i : Int) - 1)] 3)).heap[w''.heap.size + 1]? = some (.cells (bools (List.replicate i false ++ Pure.trS l1 a2 (l0.drop i) (Pure.cA (l0.take i)))).toArray 4 (0, 0)) := by
            intro nd v hv
            have hs : ((wr.drewN nd).setCell ⟨w''.heap.size + 1, i, none⟩ (.bool v)).heap.size = wr.heap.size := by simp
            refine ⟨?_, ?_, ?_⟩
            · have hb := HG.out
              have hW0 := blk_lt H2.out
              have hsz4 := hb.size
              refine ⟨hb.os, hb.tape, hb.output, by simp; omega, fun j hj hne => ?_⟩
              rw [heap_old _ (by rw [hs]; omega), Below.heap_setCell (wr.drewN nd) ⟨w''.heap.size + 1, i, none⟩ _ j (by intro e; exact hne (by rw [e]))]
              exact hb.block j hj hne
            · rw [← hs]; exact heap_new _ _
            · rw [heap_old _ (by rw [hs]; exact blk_lt hTv), blk_set (blk_drewN hTv nd), hv]
              congr 2
              apply Array.ext'
              simp [bools, List.replicate_succ', List.set_append]
          have hOl : (List.replicate (i + 1) false ++ T).length = l0.length := by simp [hTl]; omega
          have hF0 : i + 1 < l0.length → ∀ nd, Calls Tryd.prog 55 #[.pointer (some ⟨w''.heap.size + 1 + 1, 0, none⟩), .pointer (some ⟨ga, 0, none⟩)] (wr.drewN nd) fun e w' => e = .returned (.bool (T.getD 0 false)) ∧ w' = wr.drewN nd := by
            intro hi1 nd
            refine (first_calls (w''.heap.size + 1 + 1) ga (w''.heap.size + 1) l0.length (List.replicate (i + 1) false ++ T) i (wr.drewN nd) (blk_drewN b3 nd) (by have := blk_drewN HGA.out nd; rw [e1] at this; exact this) (blk_drewN hTv nd) hOl hi1 h3).mono ?_
            rintro e w' ⟨rfl, rfl⟩
            refine ⟨?_, rfl⟩
            congr 2
            rw [List.getD_eq_getElem?_getD, List.getD_eq_getElem?_getD, List.getElem?_append_right (by simp)]
            simp
          have hS0 : arIs l0[i] 2 → ∀ nd, Calls Tryd.prog 56 #[.pointer (some ⟨w''.heap.size + 1 + 1, 0, none⟩), .pointer (some ⟨w''.heap.size, 0, none⟩), .pointer (some ⟨ga, 0, none⟩)] (wr.drewN nd) fun e w' => e = .returned (.bool (T.getD (endAt (l0.drop (i + 1)) 0).toNat false)) ∧ ∃ nd', w' = wr.drewN nd' := by
            intro ha nd
            obtain ⟨s1, s2, s3, s4⟩ := Pure.second_at h2 i hlt ha
            have hCe : Kd.C (Kd.int .i64) (wr.drewN nd) Ae l0.length ((List.range l0.length).map (endAt l0)) := by
              have := Kd.C_drewN (Kd.C_below (Kd.C_below (Kd.R_reads' HE.out).2.2 (Below.refl _ _)) (HBo.out wr HG.out)) nd
              simpa using this
            refine (second_calls (w''.heap.size + 1 + 1) w''.heap.size ga (w''.heap.size + 1) l0.length Ae ce ((List.range l0.length).map (endAt l0)) (List.replicate (i + 1) false ++ T) i (i + 1 + (endAt (l0.drop (i + 1)) 0).toNat) (wr.drewN nd) (blk_drewN b3 nd) (by have := blk_drewN HGA.out nd; rw [e1] at this; exact this) (blk_drewN b1 nd) hCe (blk_drewN hTv nd) hOl s1 h3 ?_ (by omega)).mono ?_
            · rw [Base.rd_get _ _ (by simpa using s1)]
              simp only [List.getElem_map, List.getElem_range]
              omega
            · rintro e w' ⟨rfl, nd2, rfl⟩
              refine ⟨?_, nd + nd2, World.drewN_drewN _ _ _⟩
              congr 2
              rw [List.getD_eq_getElem?_getD, List.getD_eq_getElem?_getD, List.getElem?_append_right (by simp)]
              simp
          have HS0 := Aside0.mk hS0
          have HT := Aside0.mk hT
          have HEnd := Aside0.mk hend
          have HO := Aside0.mk ho
          have HF0 := Aside0.mk hF0
          clear hg hR2 e1 hT hend hTd ho hF0 hS0
          by_cases k13 : o.f0 = 13
          · have k13b : (o.f0 == 13) = true := beq_iff_eq.2 k13
            have hfit := h6 l0[i] (List.getElem_mem hlt)
            rw [← HO.out] at hfit
            have hb13 : 0 ≤ o.f1 ∧ o.f1 < (l1.length : Int) := by
              unfold Pure.fit at hfit
              rw [if_neg (by omega), if_pos k13] at hfit
              split at hfit
              · cases hfit
              · omega
            obtain ⟨j, hj⟩ : ∃ j : Nat, o.f1 = (j : Int) := ⟨o.f1.toNat, by omega⟩
            rw [hj] at hb13 y1
            obtain ⟨ad1, e1, m1⟩ := Kd.at_bool (Kd.C_below HR1.out (below_step HB2.out (HBo.out wr HG.out))) (j : Int) (by omega) (by omega)
            subst e1
            rw [Int.toNat_natCast] at m1
            obtain ⟨v, hvd⟩ : ∃ v, v = l1.getD j false := ⟨_, rfl⟩
            have hrv : rdOf false l1 (j : Int) = v := by rw [hvd]; simp [rdOf]
            rw [hrv] at m1
            have hv := HT.out v (by rw [if_pos k13, hj, hvd, Int.toNat_natCast])
            have hidx3 : decide ((j : Int) < (l1.length : Int)) = true := decide_eq_true (by omega)
            have hp2 : (0 ≤ (j : Int)) = True := eq_true (by omega)
            have hq2 : ((j : Int) < (l1.length : Int)) = True := eq_true (by omega)
            clear hfit hb13 hrv hvd hj
            go_wp2
            go_region
            go_wp2
            go_roundg i
            case measure => omega
            case rel =>
              have hah : Pure.ahd l0[i].f0 = false := by rw [← HO.out, k13]; rfl
              have hct := Pure.cA_take l0 i hlt
              rw [hah] at hct
              obtain ⟨u1, u2, u3⟩ := HEnd.out 1 _ hv
              exact ⟨_, by rw [hct]; rfl, rfl, ⟨by omega⟩, ⟨u1⟩, ⟨u2⟩, ⟨u3⟩⟩
          have k13b : (o.f0 == 13) = false := beq_eq_false_iff_ne.2 k13
          by_cases k11 : o.f0 = 11
          · have k11b : (o.f0 == 11) = true := beq_iff_eq.2 k11
            have hv := HT.out true (by rw [if_neg k13, if_pos k11])
            go_wp2
            go_roundg i
            case measure => omega
            case rel =>
              have hah : Pure.ahd l0[i].f0 = false := by rw [← HO.out, k11]; rfl
              have hct := Pure.cA_take l0 i hlt
              rw [hah] at hct
              obtain ⟨u1, u2, u3⟩ := HEnd.out 0 true hv
              exact ⟨_, by rw [hct]; rfl, rfl, ⟨by omega⟩, ⟨u1⟩, ⟨u2⟩, ⟨u3⟩⟩
          have k11b : (o.f0 == 11) = false := beq_eq_false_iff_ne.2 k11
          by_cases k12 : o.f0 = 12
          · have k12b : (o.f0 == 12) = true := beq_iff_eq.2 k12
            have hv := HT.out false (by rw [if_neg k13, if_neg k11, if_pos k12])
            go_wp2
            go_roundg i
            case measure => omega
            case rel =>
              have hah : Pure.ahd l0[i].f0 = false := by rw [← HO.out, k12]; rfl
              have hct := Pure.cA_take l0 i hlt
              rw [hah] at hct
              refine ⟨_, by rw [hct]; rfl, rfl, ⟨by omega⟩, ⟨below_grown HG.out _⟩, ⟨heap_new _ _⟩, ⟨?_⟩⟩
              rw [heap_old _ (blk_lt hTv), hTv, hv]
              congr 2
              apply Array.ext'
              simp [bools, List.replicate_succ']
          have k12b : (o.f0 == 12) = false := beq_eq_false_iff_ne.2 k12
          by_cases k10 : o.f0 = 10
          · have k10b : (o.f0 == 10) = true := beq_iff_eq.2 k10
            have hv := HT.out (!(T.getD 0 false)) (by rw [if_neg k13, if_neg k11, if_neg k12, if_pos k10])
            have hi1 : i + 1 < l0.length := Pure.first_at h2 i hlt 0 (by rw [← HO.out]; unfold arIs; rw [k10]; decide)
            have HF := Aside0.mk (HF0.out hi1)
            go_wp2
            first | (go_region_held3 (fun w' => w'.cell? ⟨w''.heap.size + 1 + 1, 0, none⟩ = some (Value.slice (some { block := w''.heap.size + 1, off := 0 }) l0.length l0.length) ∧ w'.cell? ⟨ga, 0, none⟩ = some (.int .i64 (i : Int))) (go_keep) (first | (go_at_call 55; refine (HF.out 0).mono ?_; rintro e w' ⟨rfl, rfl⟩) | (go_at_call 55; refine (HF.out _).mono ?_; rintro e w' ⟨rfl, rfl⟩))) | fail
            go_wp2
            go_roundg i
            case measure => omega
            case rel =>
              have hah : Pure.ahd l0[i].f0 = false := by rw [← HO.out, k10]; rfl
              have hct := Pure.cA_take l0 i hlt
              rw [hah] at hct
              obtain ⟨u1, u2, u3⟩ := HEnd.out 1 _ hv
              exact ⟨_, by rw [hct]; rfl, rfl, ⟨by omega⟩, ⟨u1⟩, ⟨u2⟩, ⟨u3⟩⟩
          have k10b : (o.f0 == 10) = false := beq_eq_false_iff_ne.2 k10
          by_cases k8 : o.f0 = 8
          · have k8b : (o.f0 == 8) = true := beq_iff_eq.2 k8
            have hv := HT.out (T.getD 0 false && T.getD (endAt (l0.drop (i + 1)) 0).toNat false) (by rw [if_neg k13, if_neg k11, if_neg k12, if_neg k10, if_pos k8])
            have ha2 : arIs l0[i] 2 := by rw [← HO.out]; unfold arIs; rw [k8]; decide
            have hi1 : i + 1 < l0.length := (Pure.second_at h2 i hlt ha2).1
            have hah : Pure.ahd l0[i].f0 = false := by rw [← HO.out, k8]; rfl
            have hct := Pure.cA_take l0 i hlt
            rw [hah] at hct
            have HF := Aside0.mk (HF0.out hi1)
            have HS := Aside0.mk (HS0.out ha2)
            obtain ⟨p, hp⟩ : ∃ p, p = T.getD 0 false := ⟨_, rfl⟩
            obtain ⟨q, hq'⟩ : ∃ q, q = T.getD (endAt (l0.drop (i + 1)) 0).toNat false := ⟨_, rfl⟩
            rw [← hp, ← hq'] at hv
            rw [← hp] at HF
            rw [← hq'] at HS
            clear hp hq'
            have HCT := Aside0.mk hct
            clear hct
            cases p with
            | true =>
              have hv' : Pure.trS l1 a2 (l0.drop i) (Pure.cA (l0.take i)) = q :: T := by simpa using hv
              clear hv
              go_wp2
              first | (go_region_held3 (fun w' => w'.cell? ⟨w''.heap.size + 1 + 1, 0, none⟩ = some (Value.slice (some { block := w''.heap.size + 1, off := 0 }) l0.length l0.length) ∧ w'.cell? ⟨ga, 0, none⟩ = some (.int .i64 (i : Int))) (go_keep) (first | (go_at_call 55; refine (HF.out 0).mono ?_; rintro e w' ⟨rfl, rfl⟩) | (go_at_call 55; refine (HF.out _).mono ?_; rintro e w' ⟨rfl, rfl⟩) | (go_at_call 56; refine (HS.out _).mono ?_; rintro e w' ⟨rfl, nx, rfl⟩))) | fail
              go_wp2
              go_roundg i
              case measure => omega
              case rel => exact ⟨_, by rw [HCT.out]; rfl, rfl, ⟨by omega⟩, ⟨(HEnd.out _ _ hv').1⟩, ⟨(HEnd.out _ _ hv').2.1⟩, ⟨(HEnd.out _ _ hv').2.2⟩⟩
            | false =>
              have hv' : Pure.trS l1 a2 (l0.drop i) (Pure.cA (l0.take i)) = false :: T := by simpa using hv
              clear hv
              go_wp2
              go_still_tail 9, (by kernel_rfl)
              still_call (HF.out 1)
              repeat still_step
              refine wpStill_nil ?_
              change wpList _ _ _ _ _ wr.drew
              go_wp2
              go_roundg i
              case measure => omega
              case rel => exact ⟨_, by rw [HCT.out]; rfl, rfl, ⟨by omega⟩, ⟨(HEnd.out _ _ hv').1⟩, ⟨(HEnd.out _ _ hv').2.1⟩, ⟨(HEnd.out _ _ hv').2.2⟩⟩
          have k8b : (o.f0 == 8) = false := beq_eq_false_iff_ne.2 k8
          by_cases k9 : o.f0 = 9
          · have k9b : (o.f0 == 9) = true := beq_iff_eq.2 k9
            have hv := HT.out (T.getD 0 false || T.getD (endAt (l0.drop (i + 1)) 0).toNat false) (by rw [if_neg k13, if_neg k11, if_neg k12, if_neg k10, if_neg k8, if_pos k9])
            have ha2 : arIs l0[i] 2 := by rw [← HO.out]; unfold arIs; rw [k9]; decide
            have hi1 : i + 1 < l0.length := (Pure.second_at h2 i hlt ha2).1
            have hah : Pure.ahd l0[i].f0 = false := by rw [← HO.out, k9]; rfl
            have hct := Pure.cA_take l0 i hlt
            rw [hah] at hct
            have HF := Aside0.mk (HF0.out hi1)
            have HS := Aside0.mk (HS0.out ha2)
            obtain ⟨p, hp⟩ : ∃ p, p = T.getD 0 false := ⟨_, rfl⟩
            obtain ⟨q, hq'⟩ : ∃ q, q = T.getD (endAt (l0.drop (i + 1)) 0).toNat false := ⟨_, rfl⟩
            rw [← hp, ← hq'] at hv
            rw [← hp] at HF
            rw [← hq'] at HS
            clear hp hq'
            have HCT := Aside0.mk hct
            clear hct
            cases p with
            | true =>
              have hv' : Pure.trS l1 a2 (l0.drop i) (Pure.cA (l0.take i)) = true :: T := by simpa using hv
              clear hv
              go_wp2
              go_still_tail 9, (by kernel_rfl)
              still_call (HF.out 1)
              repeat still_step
              refine wpStill_nil ?_
              change wpList _ _ _ _ _ wr.drew
              go_wp2
              go_roundg i
              case measure => omega
              case rel => exact ⟨_, by rw [HCT.out]; rfl, rfl, ⟨by omega⟩, ⟨(HEnd.out _ _ hv').1⟩, ⟨(HEnd.out _ _ hv').2.1⟩, ⟨(HEnd.out _ _ hv').2.2⟩⟩
            | false =>
              have hv' : Pure.trS l1 a2 (l0.drop i) (Pure.cA (l0.take i)) = q :: T := by simpa using hv
              clear hv
              go_wp2
              first | (go_region_held3 (fun w' => w'.cell? ⟨w''.heap.size + 1 + 1, 0, none⟩ = some (Value.slice (some { block := w''.heap.size + 1, off := 0 }) l0.length l0.length) ∧ w'.cell? ⟨ga, 0, none⟩ = some (.int .i64 (i : Int))) (go_keep) (first | (go_at_call 55; refine (HF.out 0).mono ?_; rintro e w' ⟨rfl, rfl⟩) | (go_at_call 55; refine (HF.out _).mono ?_; rintro e w' ⟨rfl, rfl⟩) | (go_at_call 56; refine (HS.out _).mono ?_; rintro e w' ⟨rfl, nx, rfl⟩))) | fail
              go_wp2
              go_roundg i
              case measure => omega
              case rel => exact ⟨_, by rw [HCT.out]; rfl, rfl, ⟨by omega⟩, ⟨(HEnd.out _ _ hv').1⟩, ⟨(HEnd.out _ _ hv').2.1⟩, ⟨(HEnd.out _ _ hv').2.2⟩⟩
          have k9b : (o.f0 == 9) = false := beq_eq_false_iff_ne.2 k9
          have hfit := h6 l0[i] (List.getElem_mem hlt)
          rw [← HO.out] at hfit
          obtain ⟨rr, hrr⟩ := one_places l0 h2 i hlt
          have hah : Pure.ahd l0[i].f0 = true := by
            rw [List.drop_eq_getElem_cons hlt, scan_cons] at hrr
            rw [← HO.out] at hrr ⊢
            unfold Pure.fit at hfit
            unfold partsS at hrr
            have : ¬ (o.f0 < 1 ∨ 18 < o.f0) := by
              intro hc
              rw [if_pos hc] at hrr
              simp at hrr
            have : ¬ o.f0 < 8 := by
              intro hc
              rw [if_pos hc] at hfit
              cases hfit
            unfold Pure.ahd
            exact decide_eq_true (by omega)
          have hct := Pure.cA_take l0 i hlt
          rw [hah, if_pos rfl] at hct
          have hv := HT.out (decide (a2 / 2 ^ Pure.cA (List.take i l0) % 2 = 1)) (by rw [if_neg k13, if_neg k11, if_neg k12, if_neg k10, if_neg k8, if_neg k9])
          have hcle : Pure.cA (l0.take (i + 1)) ≤ 6 := by
            have e := Pure.cA_append (l0.take (i + 1)) (l0.drop (i + 1))
            rw [List.take_append_drop] at e
            omega
          rw [hct] at hcle ⊢
          obtain ⟨c, hcc⟩ : ∃ c, c = Pure.cA (List.take i l0) := ⟨_, rfl⟩
          rw [← hcc] at hcle hv ⊢
          have e2 : IntKind.i64.wrap (((c + 1 : Nat) : Int) - 1) = (c : Int) := by rw [IntKind.wrap_i64]; omega
          have HCC := Aside0.mk hcc
          have h0 : 0 ≤ a2 / 2 ^ c := Int.ediv_nonneg (by omega) (Int.le_of_lt (Int.pow_pos (by omega)))
          have h0b : a2 / 2 ^ c ≤ a2 := Int.ediv_le_self _ (by omega)
          have ha64 : a2 < 64 := by
            have h64 : (2 : Int) ^ Pure.cA l0 ≤ 2 ^ 6 := by exact_mod_cast Nat.pow_le_pow_right (n := 2) (by omega) h5
            have := q1.2
            omega
          have hbit : (bits BinOp.and IntKind.i64 (a2 / 2 ^ c) 1 == 1) = decide (a2 / 2 ^ c % 2 = 1) := by
            have := bits_mask .i64 62 (by decide) (fun n a b => by rw [IntKind.wrap_i64]; omega) 1 (by decide) (a2 / 2 ^ c) h0 (by omega)
            rw [show ((2 : Int) ^ 1 - 1) = 1 from rfl, show ((2 : Int) ^ 1) = 2 from rfl] at this
            rw [this, Bool.eq_iff_iff]
            simp
          clear hfit hrr hah hct hcc h0b ha64
          have hsh : a2 / 2 ^ (min c 64) = a2 / 2 ^ c := by rw [Nat.min_eq_left (by omega)]
          go_wp2
          go_region
          go_wp2
          go_roundg i
          case measure => omega
          case rel =>
            have hv2 := hv
            rw [HCC.out] at hv2
            obtain ⟨u1, u2, u3⟩ := HEnd.out 1 _ hv2
            rw [← HCC.out] at u1 u2 u3
            exact ⟨_, by rw [← HCC.out], rfl, ⟨by omega⟩, ⟨u1⟩, ⟨u2⟩, ⟨by rw [← HCC.out]; exact u3⟩⟩
    · have q0 : a2 < 0 := by assumption
      have h := HH.out
      rw [if_neg (by omega)] at h
      obtain ⟨rfl, rfl⟩ := Prod.mk.inj h
      go_ret2
      exact ⟨_, rfl, Kd.R_nil _ _ _ _ _, HB.out⟩
  · rw [if_neg hc] at h hA
    obtain ⟨rfl, rfl⟩ := Prod.mk.inj h
    have hcb : (Pure.checkS l0 l1.length != 0) = true := by rw [bne_iff_ne]; exact hc
    have HA := Aside0.mk hA
    clear hA h
    go_enter Tryd.func33, Tryd.ntmps33
    go_wp2_with (go_at_call 28; refine (logic_Ahead.calls K _ _ l0 _ _ _ _ HR.out HC.out HLd.out HA.out).mono ?_; rintro e w' ⟨v0, rfl, ho, hb⟩; obtain ⟨Ap, cp, rfl⟩ := Kd.R_slice ho; have HB := Aside0.mk hb; clear ho hb)
    go_ret2
    exact ⟨_, rfl, Kd.R_nil _ _ _ _ _, HB.out⟩

end

/-! ### foretellref_secondAt: function 58 -/
def foretellref_secondAt.f (k : Nat) (l0 : List (S63)) (a1 : Int) : Option (Int) := (foretellref_endOf.f k l0 (wrap64 (a1 + 1))).bind fun bt180 => (some bt180.1)
theorem foretellref_secondAt.mono : ∀ a0 a1 k, LeO (foretellref_secondAt.f k a0 a1) (foretellref_secondAt.f (k + 1) a0 a1) := by
  intro a0 a1 k
  unfold foretellref_secondAt.f
  repeat' first
      | (with_reducible exact foretellref_endOf.mono _ _ _)
      | (with_reducible exact LeO.refl _)
      | (with_reducible exact LeO.none _)
      | (with_reducible refine LeO.ite ?_ ?_)
      | (with_reducible refine LeO.bind ?_ (fun _ => ?_))
      | exact foretellref_endOf.mono _ _ _
      | exact LeO.none _
      | refine LeO.ite ?_ ?_
      | refine LeO.bind ?_ (fun _ => ?_)
set_option maxHeartbeats 8000000 in
set_option maxRecDepth 100000 in
theorem foretellref_secondAt.calls (k : Nat) (A0 : Option Addr) (c0 : Nat) (l0 : List (S63)) (a1 : Int) (r : Int) (w : World) (hr0 : Kd.C k63 w A0 l0.length l0) (hc0 : l0.length ≤ c0) (h : foretellref_secondAt.f k l0 a1 = some r) :
    Calls Tryd.prog 58 #[.slice A0 l0.length c0, .int .i64 a1] w fun e w' => e = .returned (.int .i64 r) ∧ Drawn0 w w' := by
  have HR0 := Aside0.mk hr0
  have HC0 := Aside0.mk hc0
  clear hr0 hc0
  have H : ((foretellref_endOf.f k l0 (wrap64 (a1 + 1))).bind fun bt180 => (some bt180.1)) = some r := h
  clear h
  replace H := Option.bind_eq_some_iff.mp H
  obtain ⟨⟨t180, t181⟩, A30, H⟩ := H
  replace H : (some t180) = some r := H
  have A3 := Aside0.mk A30
  clear A30
  obtain rfl := Option.some.inj H
  go_enter Tryd.func58, Tryd.ntmps58
  go_wp2_with (first | ((with_reducible refine gate_callee (f := 45) rfl ?_); refine goesL_ (some 11) rfl rfl Tryd.func45 (by kernel_rfl) rfl #[.slice A0 l0.length c0, .int .i64 (wrap64 (a1 + 1))] rfl (by (try simp only [List.map_toArray, List.map_cons, List.map_nil]); first | done | rfl | (simp only [List.length_drop, List.length_take]; rfl)) ?_; (with_reducible refine (foretellref_endOf.calls k _ _ l0 (wrap64 (a1 + 1)) t180 t181 _ ?side1 ?side2 A3.out).mono ?_); (case side1 => repeat (first | exact HR0.out | (with_reducible refine Kd.C_alloc ?_ _) | (with_reducible refine Kd.C_drewN ?_ _) | (with_reducible refine Kd.C_drew ?_))); (case side2 => exact HC0.out); rintro e w' ⟨rfl, ⟨nd, rfl⟩⟩; refine ⟨_, rfl, ?_⟩))
  go_ret
  exact ⟨by first | rfl | (simp; done) | (simp [*]; done), by repeat (first | exact Drawn0.refl _ | apply Drawn0.step)⟩

/-! ### foretellref_truthAt: function 57 -/
mutual
def foretellref_truthAt.j0 : Nat → List (S63) → Int → List Bool → List Int → Int → Bool → Option (Bool)
  | 0, _, _, _, _, _, _ => none
  | k + 1, x0, x1, x2, x3, x4, x43 => if x43 = true then ((foretellref_truthAt.f k x0 (wrap64 (x1 + 1)) x2 x3 x4).bind fun t186 => ((foretellref_secondAt.f k x0 x1).bind fun t187 => ((foretellref_truthAt.f k x0 t187 x2 x3 x4).bind fun t188 => (if t186 = true then (if t188 = true then (some true) else (if 0 ≤ x1 then (if x1 < (x0.length : Int) then (if ((rd_T63 x0 x1).f0) = 9 then (some true) else (some false)) else (none)) else (none))) else (if 0 ≤ x1 then (if x1 < (x0.length : Int) then (if ((rd_T63 x0 x1).f0) = 9 then (some t188) else (some false)) else (none)) else (none)))))) else (foretellref_truthAt.l0 k x1 x3 x4 0)
def foretellref_truthAt.l0 : Nat → Int → List Int → Int → Int → Option (Bool)
  | 0, _, _, _, _ => none
  | k + 1, x1, x3, x4, x13 => if x13 < (x3.length : Int) then (if 0 ≤ x13 then (if (rd x3 x13) = x1 then (some ((Int.tmod x4 2) == 1)) else (foretellref_truthAt.l0 k x1 x3 (wrap64 (Int.tdiv x4 2)) (wrap64 (x13 + 1)))) else (none)) else (some false)
def foretellref_truthAt.f : Nat → List (S63) → Int → List Bool → List Int → Int → Option (Bool)
  | 0, _, _, _, _, _ => none
  | k + 1, l0, a1, l2, l3, a4 => if 0 ≤ a1 then (if a1 < (l0.length : Int) then (if ((rd_T63 l0 a1).f0) = 13 then (if 0 ≤ ((rd_T63 l0 a1).f1) then (if ((rd_T63 l0 a1).f1) < (l2.length : Int) then (some (rdOf false l2 ((rd_T63 l0 a1).f1))) else (none)) else (none)) else (if ((rd_T63 l0 a1).f0) = 11 then (some true) else (if ((rd_T63 l0 a1).f0) = 12 then (some false) else (if ((rd_T63 l0 a1).f0) = 10 then ((foretellref_truthAt.f k l0 (wrap64 (a1 + 1)) l2 l3 a4).bind fun t185 => (some (!t185))) else (if ((rd_T63 l0 a1).f0) = 8 then (foretellref_truthAt.j0 k l0 a1 l2 l3 a4 (((rd_T63 l0 a1).f0) == 8)) else (foretellref_truthAt.j0 k l0 a1 l2 l3 a4 (((rd_T63 l0 a1).f0) == 9))))))) else (none)) else (none)
end
theorem foretellref_truthAt.mono_l : ∀ k, (∀ y0 y1 y2 y3 y4, LeO (foretellref_truthAt.f k y0 y1 y2 y3 y4) (foretellref_truthAt.f (k + 1) y0 y1 y2 y3 y4)) ∧ (∀ y0 y1 y2 y3 y4 y5, LeO (foretellref_truthAt.j0 k y0 y1 y2 y3 y4 y5) (foretellref_truthAt.j0 (k + 1) y0 y1 y2 y3 y4 y5)) ∧ (∀ y0 y1 y2 y3, LeO (foretellref_truthAt.l0 k y0 y1 y2 y3) (foretellref_truthAt.l0 (k + 1) y0 y1 y2 y3))
  | 0 => ⟨fun _ _ _ _ _ r h => by simp [foretellref_truthAt.f] at h, fun _ _ _ _ _ _ r h => by simp [foretellref_truthAt.j0] at h, fun _ _ _ _ r h => by simp [foretellref_truthAt.l0] at h⟩
  | k + 1 => by
    obtain ⟨ih0, ih1, ih2⟩ := foretellref_truthAt.mono_l k
    refine ⟨?_, ?_, ?_⟩
    · intro y0 y1 y2 y3 y4
      unfold foretellref_truthAt.f
      repeat' first
      | (with_reducible exact ih0 _ _ _ _ _)
      | (with_reducible exact ih1 _ _ _ _ _ _)
      | (with_reducible exact ih2 _ _ _ _)
      | (with_reducible exact foretellref_secondAt.mono _ _ _)
      | (with_reducible exact LeO.refl _)
      | (with_reducible exact LeO.none _)
      | (with_reducible refine LeO.ite ?_ ?_)
      | (with_reducible refine LeO.bind ?_ (fun _ => ?_))
      | exact ih0 _ _ _ _ _
      | exact ih1 _ _ _ _ _ _
      | exact ih2 _ _ _ _
      | exact foretellref_secondAt.mono _ _ _
      | exact LeO.none _
      | refine LeO.ite ?_ ?_
      | refine LeO.bind ?_ (fun _ => ?_)
    · intro y0 y1 y2 y3 y4 y5
      unfold foretellref_truthAt.j0
      repeat' first
      | (with_reducible exact ih0 _ _ _ _ _)
      | (with_reducible exact ih1 _ _ _ _ _ _)
      | (with_reducible exact ih2 _ _ _ _)
      | (with_reducible exact foretellref_secondAt.mono _ _ _)
      | (with_reducible exact LeO.refl _)
      | (with_reducible exact LeO.none _)
      | (with_reducible refine LeO.ite ?_ ?_)
      | (with_reducible refine LeO.bind ?_ (fun _ => ?_))
      | exact ih0 _ _ _ _ _
      | exact ih1 _ _ _ _ _ _
      | exact ih2 _ _ _ _
      | exact foretellref_secondAt.mono _ _ _
      | exact LeO.none _
      | refine LeO.ite ?_ ?_
      | refine LeO.bind ?_ (fun _ => ?_)
    · intro y0 y1 y2 y3
      unfold foretellref_truthAt.l0
      repeat' first
      | (with_reducible exact ih0 _ _ _ _ _)
      | (with_reducible exact ih1 _ _ _ _ _ _)
      | (with_reducible exact ih2 _ _ _ _)
      | (with_reducible exact foretellref_secondAt.mono _ _ _)
      | (with_reducible exact LeO.refl _)
      | (with_reducible exact LeO.none _)
      | (with_reducible refine LeO.ite ?_ ?_)
      | (with_reducible refine LeO.bind ?_ (fun _ => ?_))
      | exact ih0 _ _ _ _ _
      | exact ih1 _ _ _ _ _ _
      | exact ih2 _ _ _ _
      | exact foretellref_secondAt.mono _ _ _
      | exact LeO.none _
      | refine LeO.ite ?_ ?_
      | refine LeO.bind ?_ (fun _ => ?_)
theorem foretellref_truthAt.mono : ∀ a0 a1 a2 a3 a4 k, LeO (foretellref_truthAt.f k a0 a1 a2 a3 a4) (foretellref_truthAt.f (k + 1) a0 a1 a2 a3 a4) := by
  intro a0 a1 a2 a3 a4 k
  obtain ⟨ih0, ih1, ih2⟩ := foretellref_truthAt.mono_l k
  exact ih0 a0 a1 a2 a3 a4
set_option maxHeartbeats 8000000 in
set_option maxRecDepth 100000 in
theorem foretellref_truthAt.calls (k : Nat) : ∀ (A0 : Option Addr) (c0 : Nat) (l0 : List (S63)) (a1 : Int) (A2 : Option Addr) (c2 : Nat) (l2 : List Bool) (A3 : Option Addr) (c3 : Nat) (l3 : List Int) (a4 : Int) (r : Bool) (w : World) (hr0 : Kd.C k63 w A0 l0.length l0) (hc0 : l0.length ≤ c0) (hr2 : Kd.C Kd.bool w A2 l2.length l2) (hc2 : l2.length ≤ c2) (hr3 : Kd.C (Kd.int .i64) w A3 l3.length l3) (hc3 : l3.length ≤ c3) (h : foretellref_truthAt.f k l0 a1 l2 l3 a4 = some r),
    Calls Tryd.prog 57 #[.slice A0 l0.length c0, .int .i64 a1, .slice A2 l2.length c2, .slice A3 l3.length c3, .int .i64 a4] w fun e w' => e = .returned (.bool r) ∧ Drawn0 w w' := by
  induction k using Nat.strongRecOn with
  | _ k ih =>
  intro A0 c0 l0 a1 A2 c2 l2 A3 c3 l3 a4 r w hr0 hc0 hr2 hc2 hr3 hc3 h
  cases k with
  | zero => exact absurd h (by simp [foretellref_truthAt.f])
  | succ k =>
  simp only [foretellref_truthAt.f] at h
  have HR0 := Aside0.mk hr0
  have HC0 := Aside0.mk hc0
  clear hr0 hc0
  have HR2 := Aside0.mk hr2
  have HC2 := Aside0.mk hc2
  clear hr2 hc2
  have HR3 := Aside0.mk hr3
  have HC3 := Aside0.mk hc3
  clear hr3 hc3
  have H : (if 0 ≤ a1 then (if a1 < (l0.length : Int) then (if ((rd_T63 l0 a1).f0) = 13 then (if 0 ≤ ((rd_T63 l0 a1).f1) then (if ((rd_T63 l0 a1).f1) < (l2.length : Int) then (some (rdOf false l2 ((rd_T63 l0 a1).f1))) else (none)) else (none)) else (if ((rd_T63 l0 a1).f0) = 11 then (some true) else (if ((rd_T63 l0 a1).f0) = 12 then (some false) else (if ((rd_T63 l0 a1).f0) = 10 then ((foretellref_truthAt.f k l0 (wrap64 (a1 + 1)) l2 l3 a4).bind fun t185 => (some (!t185))) else (if ((rd_T63 l0 a1).f0) = 8 then (foretellref_truthAt.j0 k l0 a1 l2 l3 a4 (((rd_T63 l0 a1).f0) == 8)) else (foretellref_truthAt.j0 k l0 a1 l2 l3 a4 (((rd_T63 l0 a1).f0) == 9))))))) else (none)) else (none)) = some r := h
  clear h
  by_cases c6 : 0 ≤ a1
  · rw [if_pos c6] at H
    have c6b0 : decide (0 ≤ a1) = true := decide_eq_true c6
    clear c6
    by_cases c7 : a1 < (l0.length : Int)
    · rw [if_pos c7] at H
      have c7b0 : decide (a1 < (l0.length : Int)) = true := decide_eq_true c7
      clear c7
      by_cases c8 : ((rd_T63 l0 a1).f0) = 13
      · rw [if_pos c8] at H
        have c8b0 : (((rd_T63 l0 a1).f0) == 13) = true := beq_iff_eq.mpr c8
        have c8b1 : (((rd_T63 l0 a1).f0) != 13) = false := bne_eq_false_iff_eq.mpr c8
        clear c8
        by_cases c9 : 0 ≤ ((rd_T63 l0 a1).f1)
        · rw [if_pos c9] at H
          have c9b0 : decide (0 ≤ ((rd_T63 l0 a1).f1)) = true := decide_eq_true c9
          clear c9
          by_cases c10 : ((rd_T63 l0 a1).f1) < (l2.length : Int)
          · rw [if_pos c10] at H
            have c10b0 : decide (((rd_T63 l0 a1).f1) < (l2.length : Int)) = true := decide_eq_true c10
            clear c10
            obtain rfl := Option.some.inj H
            have p182 : 0 ≤ (a1 : Int) := of_decide_eq_true (by first | (with_reducible assumption) | assumption)
            have q182 : a1 < (l0.length : Int) := of_decide_eq_true (by first | (with_reducible assumption) | assumption)
            obtain ⟨ad182, e182, hx182_0, hx182_1⟩ := at_T63 HR0.out a1 p182 q182
            cases e182
            replace p182 := eq_true p182
            replace q182 := eq_true q182
            have p183 : 0 ≤ (a1 : Int) := of_decide_eq_true (by first | (with_reducible assumption) | assumption)
            have q183 : a1 < (l0.length : Int) := of_decide_eq_true (by first | (with_reducible assumption) | assumption)
            obtain ⟨ad183, e183, hx183_0, hx183_1⟩ := at_T63 HR0.out a1 p183 q183
            obtain rfl : ad182 = ad183 := (by injection e183)
            replace p183 := eq_true p183
            replace q183 := eq_true q183
            have p184 : 0 ≤ (((rd_T63 l0 a1).f1) : Int) := of_decide_eq_true (by first | (with_reducible assumption) | assumption)
            have q184 : ((rd_T63 l0 a1).f1) < (l2.length : Int) := of_decide_eq_true (by first | (with_reducible assumption) | assumption)
            obtain ⟨ad184, e184, hx184_0⟩ := Kd.at_bool HR2.out ((rd_T63 l0 a1).f1) p184 q184
            cases e184
            replace p184 := eq_true p184
            replace q184 := eq_true q184
            go_enter Tryd.func57, Tryd.ntmps57
            go_wp2
            go_ret
            exact ⟨by first | rfl | (simp; done) | (simp [*]; done), by repeat (first | exact Drawn0.refl _ | apply Drawn0.step)⟩
          · rw [if_neg c10] at H
            exact absurd H (by simp)
        · rw [if_neg c9] at H
          exact absurd H (by simp)
      · rw [if_neg c8] at H
        have c8b0 : (((rd_T63 l0 a1).f0) == 13) = false := beq_eq_false_iff_ne.mpr c8
        have c8b1 : (((rd_T63 l0 a1).f0) != 13) = true := bne_iff_ne.mpr c8
        by_cases c11 : ((rd_T63 l0 a1).f0) = 11
        · rw [if_pos c11] at H
          have c11b0 : (((rd_T63 l0 a1).f0) == 11) = true := beq_iff_eq.mpr c11
          have c11b1 : (((rd_T63 l0 a1).f0) != 11) = false := bne_eq_false_iff_eq.mpr c11
          clear c11
          obtain rfl := Option.some.inj H
          have p182 : 0 ≤ (a1 : Int) := of_decide_eq_true (by first | (with_reducible assumption) | assumption)
          have q182 : a1 < (l0.length : Int) := of_decide_eq_true (by first | (with_reducible assumption) | assumption)
          obtain ⟨ad182, e182, hx182_0, hx182_1⟩ := at_T63 HR0.out a1 p182 q182
          cases e182
          replace p182 := eq_true p182
          replace q182 := eq_true q182
          go_enter Tryd.func57, Tryd.ntmps57
          go_wp2
          go_ret
          exact ⟨by first | rfl | (simp; done) | (simp [*]; done), by repeat (first | exact Drawn0.refl _ | apply Drawn0.step)⟩
        · rw [if_neg c11] at H
          have c11b0 : (((rd_T63 l0 a1).f0) == 11) = false := beq_eq_false_iff_ne.mpr c11
          have c11b1 : (((rd_T63 l0 a1).f0) != 11) = true := bne_iff_ne.mpr c11
          by_cases c12 : ((rd_T63 l0 a1).f0) = 12
          · rw [if_pos c12] at H
            have c12b0 : (((rd_T63 l0 a1).f0) == 12) = true := beq_iff_eq.mpr c12
            have c12b1 : (((rd_T63 l0 a1).f0) != 12) = false := bne_eq_false_iff_eq.mpr c12
            clear c12
            obtain rfl := Option.some.inj H
            have p182 : 0 ≤ (a1 : Int) := of_decide_eq_true (by first | (with_reducible assumption) | assumption)
            have q182 : a1 < (l0.length : Int) := of_decide_eq_true (by first | (with_reducible assumption) | assumption)
            obtain ⟨ad182, e182, hx182_0, hx182_1⟩ := at_T63 HR0.out a1 p182 q182
            cases e182
            replace p182 := eq_true p182
            replace q182 := eq_true q182
            go_enter Tryd.func57, Tryd.ntmps57
            go_wp2
            go_ret
            exact ⟨by first | rfl | (simp; done) | (simp [*]; done), by repeat (first | exact Drawn0.refl _ | apply Drawn0.step)⟩
          · rw [if_neg c12] at H
            have c12b0 : (((rd_T63 l0 a1).f0) == 12) = false := beq_eq_false_iff_ne.mpr c12
            have c12b1 : (((rd_T63 l0 a1).f0) != 12) = true := bne_iff_ne.mpr c12
            by_cases c13 : ((rd_T63 l0 a1).f0) = 10
            · rw [if_pos c13] at H
              have c13b0 : (((rd_T63 l0 a1).f0) == 10) = true := beq_iff_eq.mpr c13
              have c13b1 : (((rd_T63 l0 a1).f0) != 10) = false := bne_eq_false_iff_eq.mpr c13
              clear c13
              replace H := Option.bind_eq_some_iff.mp H
              obtain ⟨t185, A140, H⟩ := H
              replace H : (some (!t185)) = some r := H
              have A14 := Aside0.mk A140
              clear A140
              obtain rfl := Option.some.inj H
              have p182 : 0 ≤ (a1 : Int) := of_decide_eq_true (by first | (with_reducible assumption) | assumption)
              have q182 : a1 < (l0.length : Int) := of_decide_eq_true (by first | (with_reducible assumption) | assumption)
              obtain ⟨ad182, e182, hx182_0, hx182_1⟩ := at_T63 HR0.out a1 p182 q182
              cases e182
              replace p182 := eq_true p182
              replace q182 := eq_true q182
              go_enter Tryd.func57, Tryd.ntmps57
              go_wp2_with (first | ((with_reducible refine gate_callee (f := 57) rfl ?_); refine goesL_ (some 41) rfl rfl Tryd.func57 (by kernel_rfl) rfl #[.slice (some ad182) l0.length c0, .int .i64 (wrap64 (a1 + 1)), .slice A2 l2.length c2, .slice A3 l3.length c3, .int .i64 a4] rfl (by (try simp only [List.map_toArray, List.map_cons, List.map_nil]); first | done | rfl | (simp only [List.length_drop, List.length_take]; rfl)) ?_; (with_reducible refine (ih k (by omega) _ _ l0 (wrap64 (a1 + 1)) _ _ l2 _ _ l3 a4 t185 _ ?side1 ?side2 ?side3 ?side4 ?side5 ?side6 A14.out).mono ?_); (case side1 => repeat (first | exact HR0.out | (with_reducible refine Kd.C_alloc ?_ _) | (with_reducible refine Kd.C_drewN ?_ _) | (with_reducible refine Kd.C_drew ?_))); (case side2 => exact HC0.out); (case side3 => repeat (first | exact HR2.out | (with_reducible refine Kd.C_alloc ?_ _) | (with_reducible refine Kd.C_drewN ?_ _) | (with_reducible refine Kd.C_drew ?_))); (case side4 => exact HC2.out); (case side5 => repeat (first | exact HR3.out | (with_reducible refine Kd.C_alloc ?_ _) | (with_reducible refine Kd.C_drewN ?_ _) | (with_reducible refine Kd.C_drew ?_))); (case side6 => exact HC3.out); rintro e w' ⟨rfl, ⟨nd, rfl⟩⟩; refine ⟨_, rfl, ?_⟩))
              go_ret
              exact ⟨by first | rfl | (simp; done) | (simp [*]; done), by repeat (first | exact Drawn0.refl _ | apply Drawn0.step)⟩
            · rw [if_neg c13] at H
              have c13b0 : (((rd_T63 l0 a1).f0) == 10) = false := beq_eq_false_iff_ne.mpr c13
              have c13b1 : (((rd_T63 l0 a1).f0) != 10) = true := bne_iff_ne.mpr c13
              have HC15 := Aside0.mk H
              clear H
              have p182 : 0 ≤ (a1 : Int) := of_decide_eq_true (by first | (with_reducible assumption) | assumption)
              have q182 : a1 < (l0.length : Int) := of_decide_eq_true (by first | (with_reducible assumption) | assumption)
              obtain ⟨ad182, e182, hx182_0, hx182_1⟩ := at_T63 HR0.out a1 p182 q182
              cases e182
              replace p182 := eq_true p182
              replace q182 := eq_true q182
              go_enter Tryd.func57, Tryd.ntmps57
              go_upto_if 43 with (fail)
              go_cut [43] (fun v43 wc => ∃ (kq : Nat) (x43_14 : Bool), v43 = .bool x43_14 ∧ Aside0 (foretellref_truthAt.j0 kq l0 a1 l2 l3 a4 x43_14 = some r) ∧ Aside0 (kq ≤ k) ∧ Drawn0 w wc)
              case first =>
                have H := HC15.out
                clear HC15
                by_cases c16 : ((rd_T63 l0 a1).f0) = 8
                · rw [if_pos c16] at H
                  have c16b0 : (((rd_T63 l0 a1).f0) == 8) = true := beq_iff_eq.mpr c16
                  have c16b1 : (((rd_T63 l0 a1).f0) != 8) = false := bne_eq_false_iff_eq.mpr c16
                  clear c16
                  (first | rw [c16b0] | (simp only [i64_w, i32_w]; rw [c16b0]) | skip)
                  have H' := Aside0.mk H
                  clear H
                  go_wp2
                  go_meet
                  case rel => exact ⟨_, ((((rd_T63 l0 a1).f0) == 8)), (by first | rfl | (simp; done) | (simp [*]; done)), H', ⟨by first | omega | exact Nat.le_refl _⟩, by repeat (first | exact Drawn0.refl _ | apply Drawn0.step)⟩
                · rw [if_neg c16] at H
                  have c16b0 : (((rd_T63 l0 a1).f0) == 8) = false := beq_eq_false_iff_ne.mpr c16
                  have c16b1 : (((rd_T63 l0 a1).f0) != 8) = true := bne_iff_ne.mpr c16
                  (first | rw [c16b0] | (simp only [i64_w, i32_w]; rw [c16b0]) | skip)
                  have H' := Aside0.mk H
                  clear H
                  go_wp2
                  go_meet
                  case rel => exact ⟨_, ((((rd_T63 l0 a1).f0) == 9)), (by first | rfl | (simp; done) | (simp [*]; done)), H', ⟨by first | omega | exact Nat.le_refl _⟩, by repeat (first | exact Drawn0.refl _ | apply Drawn0.step)⟩
              case rest =>
                clear HC15
                try clear c1
                try clear p1
                try clear q1
                try clear hx1
                try clear c2
                try clear p2
                try clear c3
                try clear c5
                try clear c6
                try clear c6b0
                try clear p6
                try clear c7
                try clear c7b0
                try clear c8
                try clear c8b0
                try clear c8b1
                try clear c9
                try clear c9b0
                try clear c10
                try clear c10b0
                try clear c11
                try clear c11b0
                try clear c11b1
                try clear c12
                try clear c12b0
                try clear c12b1
                try clear c13
                try clear c13b0
                try clear c13b1
                try clear c16
                try clear c16b0
                try clear c16b1
                try clear hx182_0
                try clear hx182_1
                try clear hx183_0
                try clear hx183_1
                try clear hx184_0
                try clear p182
                try clear p183
                try clear p184
                try clear q182
                try clear q183
                try clear q184
                obtain ⟨kq, x43_14, rfl, HA, HJ14, ⟨mc14, rfl⟩⟩ := hcut
                cases kq with
                | zero => exact absurd HA.out (by simp [foretellref_truthAt.j0])
                | succ kj14 =>
                  have H := HA.out
                  clear HA
                  simp only [foretellref_truthAt.j0] at H
                  by_cases c17 : x43_14 = true
                  · subst c17
                    have H1 : ((foretellref_truthAt.f kj14 l0 (wrap64 (a1 + 1)) l2 l3 a4).bind fun t186 => ((foretellref_secondAt.f kj14 l0 a1).bind fun t187 => ((foretellref_truthAt.f kj14 l0 t187 l2 l3 a4).bind fun t188 => (if t186 = true then (if t188 = true then (some true) else (if 0 ≤ a1 then (if a1 < (l0.length : Int) then (if ((rd_T63 l0 a1).f0) = 9 then (some true) else (some false)) else (none)) else (none))) else (if 0 ≤ a1 then (if a1 < (l0.length : Int) then (if ((rd_T63 l0 a1).f0) = 9 then (some t188) else (some false)) else (none)) else (none)))))) = some r := by rw [if_pos rfl] at H; exact H
                    clear H
                    have H := H1
                    clear H1
                    replace H := Option.bind_eq_some_iff.mp H
                    obtain ⟨t186, A180, H⟩ := H
                    replace H : ((foretellref_secondAt.f kj14 l0 a1).bind fun t187 => ((foretellref_truthAt.f kj14 l0 t187 l2 l3 a4).bind fun t188 => (if t186 = true then (if t188 = true then (some true) else (if 0 ≤ a1 then (if a1 < (l0.length : Int) then (if ((rd_T63 l0 a1).f0) = 9 then (some true) else (some false)) else (none)) else (none))) else (if 0 ≤ a1 then (if a1 < (l0.length : Int) then (if ((rd_T63 l0 a1).f0) = 9 then (some t188) else (some false)) else (none)) else (none))))) = some r := H
                    have A18 := Aside0.mk A180
                    clear A180
                    replace H := Option.bind_eq_some_iff.mp H
                    obtain ⟨t187, A190, H⟩ := H
                    replace H : ((foretellref_truthAt.f kj14 l0 t187 l2 l3 a4).bind fun t188 => (if t186 = true then (if t188 = true then (some true) else (if 0 ≤ a1 then (if a1 < (l0.length : Int) then (if ((rd_T63 l0 a1).f0) = 9 then (some true) else (some false)) else (none)) else (none))) else (if 0 ≤ a1 then (if a1 < (l0.length : Int) then (if ((rd_T63 l0 a1).f0) = 9 then (some t188) else (some false)) else (none)) else (none)))) = some r := H
                    have A19 := Aside0.mk A190
                    clear A190
                    replace H := Option.bind_eq_some_iff.mp H
                    obtain ⟨t188, A200, H⟩ := H
                    replace H : (if t186 = true then (if t188 = true then (some true) else (if 0 ≤ a1 then (if a1 < (l0.length : Int) then (if ((rd_T63 l0 a1).f0) = 9 then (some true) else (some false)) else (none)) else (none))) else (if 0 ≤ a1 then (if a1 < (l0.length : Int) then (if ((rd_T63 l0 a1).f0) = 9 then (some t188) else (some false)) else (none)) else (none))) = some r := H
                    have A20 := Aside0.mk A200
                    clear A200
                    by_cases c21 : t186 = true
                    · subst c21
                      have H1 : (if t188 = true then (some true) else (if 0 ≤ a1 then (if a1 < (l0.length : Int) then (if ((rd_T63 l0 a1).f0) = 9 then (some true) else (some false)) else (none)) else (none))) = some r := by rw [if_pos rfl] at H; exact H
                      clear H
                      have H := H1
                      clear H1
                      by_cases c22 : t188 = true
                      · subst c22
                        have H1 : (some true) = some r := by rw [if_pos rfl] at H; exact H
                        clear H
                        have H := H1
                        clear H1
                        obtain rfl := Option.some.inj H
                        go_wp2_with (first | ((with_reducible refine gate_callee (f := 57) rfl ?_); refine goesL_ (some 52) rfl rfl Tryd.func57 (by kernel_rfl) rfl #[.slice (some ad182) l0.length c0, .int .i64 (wrap64 (a1 + 1)), .slice A2 l2.length c2, .slice A3 l3.length c3, .int .i64 a4] rfl (by (try simp only [List.map_toArray, List.map_cons, List.map_nil]); first | done | rfl | (simp only [List.length_drop, List.length_take]; rfl)) ?_; (with_reducible refine (ih kj14 (by have := HJ14.out; omega) _ _ l0 (wrap64 (a1 + 1)) _ _ l2 _ _ l3 a4 true _ ?side1 ?side2 ?side3 ?side4 ?side5 ?side6 A18.out).mono ?_); (case side1 => repeat (first | exact HR0.out | (with_reducible refine Kd.C_alloc ?_ _) | (with_reducible refine Kd.C_drewN ?_ _) | (with_reducible refine Kd.C_drew ?_))); (case side2 => exact HC0.out); (case side3 => repeat (first | exact HR2.out | (with_reducible refine Kd.C_alloc ?_ _) | (with_reducible refine Kd.C_drewN ?_ _) | (with_reducible refine Kd.C_drew ?_))); (case side4 => exact HC2.out); (case side5 => repeat (first | exact HR3.out | (with_reducible refine Kd.C_alloc ?_ _) | (with_reducible refine Kd.C_drewN ?_ _) | (with_reducible refine Kd.C_drew ?_))); (case side6 => exact HC3.out); rintro e w' ⟨rfl, ⟨nd, rfl⟩⟩; refine ⟨_, rfl, ?_⟩) | ((with_reducible refine gate_callee (f := 58) rfl ?_); refine goesL_ (some 56) rfl rfl Tryd.func58 (by kernel_rfl) rfl #[.slice (some ad182) l0.length c0, .int .i64 a1] rfl (by (try simp only [List.map_toArray, List.map_cons, List.map_nil]); first | done | rfl | (simp only [List.length_drop, List.length_take]; rfl)) ?_; (with_reducible refine (foretellref_secondAt.calls kj14 _ _ l0 a1 t187 _ ?side1 ?side2 A19.out).mono ?_); (case side1 => repeat (first | exact HR0.out | (with_reducible refine Kd.C_alloc ?_ _) | (with_reducible refine Kd.C_drewN ?_ _) | (with_reducible refine Kd.C_drew ?_))); (case side2 => exact HC0.out); rintro e w' ⟨rfl, ⟨nd, rfl⟩⟩; refine ⟨_, rfl, ?_⟩) | ((with_reducible refine gate_callee (f := 57) rfl ?_); refine goesL_ (some 60) rfl rfl Tryd.func57 (by kernel_rfl) rfl #[.slice (some ad182) l0.length c0, .int .i64 t187, .slice A2 l2.length c2, .slice A3 l3.length c3, .int .i64 a4] rfl (by (try simp only [List.map_toArray, List.map_cons, List.map_nil]); first | done | rfl | (simp only [List.length_drop, List.length_take]; rfl)) ?_; (with_reducible refine (ih kj14 (by have := HJ14.out; omega) _ _ l0 t187 _ _ l2 _ _ l3 a4 true _ ?side1 ?side2 ?side3 ?side4 ?side5 ?side6 A20.out).mono ?_); (case side1 => repeat (first | exact HR0.out | (with_reducible refine Kd.C_alloc ?_ _) | (with_reducible refine Kd.C_drewN ?_ _) | (with_reducible refine Kd.C_drew ?_))); (case side2 => exact HC0.out); (case side3 => repeat (first | exact HR2.out | (with_reducible refine Kd.C_alloc ?_ _) | (with_reducible refine Kd.C_drewN ?_ _) | (with_reducible refine Kd.C_drew ?_))); (case side4 => exact HC2.out); (case side5 => repeat (first | exact HR3.out | (with_reducible refine Kd.C_alloc ?_ _) | (with_reducible refine Kd.C_drewN ?_ _) | (with_reducible refine Kd.C_drew ?_))); (case side6 => exact HC3.out); rintro e w' ⟨rfl, ⟨nd, rfl⟩⟩; refine ⟨_, rfl, ?_⟩))
                        go_ret
                        exact ⟨by first | rfl | (simp; done) | (simp [*]; done), by repeat (first | exact Drawn0.refl _ | apply Drawn0.step)⟩
                      · replace c22 := Bool.eq_false_iff.mpr c22
                        subst c22
                        have H1 : (if 0 ≤ a1 then (if a1 < (l0.length : Int) then (if ((rd_T63 l0 a1).f0) = 9 then (some true) else (some false)) else (none)) else (none)) = some r := by rw [if_neg (show ¬ (false = true) by decide)] at H; exact H
                        clear H
                        have H := H1
                        clear H1
                        by_cases c23 : 0 ≤ a1
                        · rw [if_pos c23] at H
                          have c23b0 : decide (0 ≤ a1) = true := decide_eq_true c23
                          clear c23
                          by_cases c24 : a1 < (l0.length : Int)
                          · rw [if_pos c24] at H
                            have c24b0 : decide (a1 < (l0.length : Int)) = true := decide_eq_true c24
                            clear c24
                            by_cases c25 : ((rd_T63 l0 a1).f0) = 9
                            · rw [if_pos c25] at H
                              have c25b0 : (((rd_T63 l0 a1).f0) == 9) = true := beq_iff_eq.mpr c25
                              have c25b1 : (((rd_T63 l0 a1).f0) != 9) = false := bne_eq_false_iff_eq.mpr c25
                              clear c25
                              obtain rfl := Option.some.inj H
                              go_wp2_with (first | ((with_reducible refine gate_callee (f := 57) rfl ?_); refine goesL_ (some 52) rfl rfl Tryd.func57 (by kernel_rfl) rfl #[.slice (some ad182) l0.length c0, .int .i64 (wrap64 (a1 + 1)), .slice A2 l2.length c2, .slice A3 l3.length c3, .int .i64 a4] rfl (by (try simp only [List.map_toArray, List.map_cons, List.map_nil]); first | done | rfl | (simp only [List.length_drop, List.length_take]; rfl)) ?_; (with_reducible refine (ih kj14 (by have := HJ14.out; omega) _ _ l0 (wrap64 (a1 + 1)) _ _ l2 _ _ l3 a4 true _ ?side1 ?side2 ?side3 ?side4 ?side5 ?side6 A18.out).mono ?_); (case side1 => repeat (first | exact HR0.out | (with_reducible refine Kd.C_alloc ?_ _) | (with_reducible refine Kd.C_drewN ?_ _) | (with_reducible refine Kd.C_drew ?_))); (case side2 => exact HC0.out); (case side3 => repeat (first | exact HR2.out | (with_reducible refine Kd.C_alloc ?_ _) | (with_reducible refine Kd.C_drewN ?_ _) | (with_reducible refine Kd.C_drew ?_))); (case side4 => exact HC2.out); (case side5 => repeat (first | exact HR3.out | (with_reducible refine Kd.C_alloc ?_ _) | (with_reducible refine Kd.C_drewN ?_ _) | (with_reducible refine Kd.C_drew ?_))); (case side6 => exact HC3.out); rintro e w' ⟨rfl, ⟨nd, rfl⟩⟩; refine ⟨_, rfl, ?_⟩) | ((with_reducible refine gate_callee (f := 58) rfl ?_); refine goesL_ (some 56) rfl rfl Tryd.func58 (by kernel_rfl) rfl #[.slice (some ad182) l0.length c0, .int .i64 a1] rfl (by (try simp only [List.map_toArray, List.map_cons, List.map_nil]); first | done | rfl | (simp only [List.length_drop, List.length_take]; rfl)) ?_; (with_reducible refine (foretellref_secondAt.calls kj14 _ _ l0 a1 t187 _ ?side1 ?side2 A19.out).mono ?_); (case side1 => repeat (first | exact HR0.out | (with_reducible refine Kd.C_alloc ?_ _) | (with_reducible refine Kd.C_drewN ?_ _) | (with_reducible refine Kd.C_drew ?_))); (case side2 => exact HC0.out); rintro e w' ⟨rfl, ⟨nd, rfl⟩⟩; refine ⟨_, rfl, ?_⟩) | ((with_reducible refine gate_callee (f := 57) rfl ?_); refine goesL_ (some 60) rfl rfl Tryd.func57 (by kernel_rfl) rfl #[.slice (some ad182) l0.length c0, .int .i64 t187, .slice A2 l2.length c2, .slice A3 l3.length c3, .int .i64 a4] rfl (by (try simp only [List.map_toArray, List.map_cons, List.map_nil]); first | done | rfl | (simp only [List.length_drop, List.length_take]; rfl)) ?_; (with_reducible refine (ih kj14 (by have := HJ14.out; omega) _ _ l0 t187 _ _ l2 _ _ l3 a4 false _ ?side1 ?side2 ?side3 ?side4 ?side5 ?side6 A20.out).mono ?_); (case side1 => repeat (first | exact HR0.out | (with_reducible refine Kd.C_alloc ?_ _) | (with_reducible refine Kd.C_drewN ?_ _) | (with_reducible refine Kd.C_drew ?_))); (case side2 => exact HC0.out); (case side3 => repeat (first | exact HR2.out | (with_reducible refine Kd.C_alloc ?_ _) | (with_reducible refine Kd.C_drewN ?_ _) | (with_reducible refine Kd.C_drew ?_))); (case side4 => exact HC2.out); (case side5 => repeat (first | exact HR3.out | (with_reducible refine Kd.C_alloc ?_ _) | (with_reducible refine Kd.C_drewN ?_ _) | (with_reducible refine Kd.C_drew ?_))); (case side6 => exact HC3.out); rintro e w' ⟨rfl, ⟨nd, rfl⟩⟩; refine ⟨_, rfl, ?_⟩; have p189 : 0 ≤ (a1 : Int) := of_decide_eq_true (by first | (with_reducible assumption) | assumption); have q189 : a1 < (l0.length : Int) := of_decide_eq_true (by first | (with_reducible assumption) | assumption); obtain ⟨ad189, e189, hx189_0, hx189_1⟩ := at_T63 HR0.out a1 p189 q189; obtain rfl : ad182 = ad189 := (by injection e189); replace p189 := eq_true p189; replace q189 := eq_true q189))
                              go_ret
                              exact ⟨by first | rfl | (simp; done) | (simp [*]; done), by repeat (first | exact Drawn0.refl _ | apply Drawn0.step)⟩
                            · rw [if_neg c25] at H
                              have c25b0 : (((rd_T63 l0 a1).f0) == 9) = false := beq_eq_false_iff_ne.mpr c25
                              have c25b1 : (((rd_T63 l0 a1).f0) != 9) = true := bne_iff_ne.mpr c25
                              obtain rfl := Option.some.inj H
                              go_wp2_with (first | ((with_reducible refine gate_callee (f := 57) rfl ?_); refine goesL_ (some 52) rfl rfl Tryd.func57 (by kernel_rfl) rfl #[.slice (some ad182) l0.length c0, .int .i64 (wrap64 (a1 + 1)), .slice A2 l2.length c2, .slice A3 l3.length c3, .int .i64 a4] rfl (by (try simp only [List.map_toArray, List.map_cons, List.map_nil]); first | done | rfl | (simp only [List.length_drop, List.length_take]; rfl)) ?_; (with_reducible refine (ih kj14 (by have := HJ14.out; omega) _ _ l0 (wrap64 (a1 + 1)) _ _ l2 _ _ l3 a4 true _ ?side1 ?side2 ?side3 ?side4 ?side5 ?side6 A18.out).mono ?_); (case side1 => repeat (first | exact HR0.out | (with_reducible refine Kd.C_alloc ?_ _) | (with_reducible refine Kd.C_drewN ?_ _) | (with_reducible refine Kd.C_drew ?_))); (case side2 => exact HC0.out); (case side3 => repeat (first | exact HR2.out | (with_reducible refine Kd.C_alloc ?_ _) | (with_reducible refine Kd.C_drewN ?_ _) | (with_reducible refine Kd.C_drew ?_))); (case side4 => exact HC2.out); (case side5 => repeat (first | exact HR3.out | (with_reducible refine Kd.C_alloc ?_ _) | (with_reducible refine Kd.C_drewN ?_ _) | (with_reducible refine Kd.C_drew ?_))); (case side6 => exact HC3.out); rintro e w' ⟨rfl, ⟨nd, rfl⟩⟩; refine ⟨_, rfl, ?_⟩) | ((with_reducible refine gate_callee (f := 58) rfl ?_); refine goesL_ (some 56) rfl rfl Tryd.func58 (by kernel_rfl) rfl #[.slice (some ad182) l0.length c0, .int .i64 a1] rfl (by (try simp only [List.map_toArray, List.map_cons, List.map_nil]); first | done | rfl | (simp only [List.length_drop, List.length_take]; rfl)) ?_; (with_reducible refine (foretellref_secondAt.calls kj14 _ _ l0 a1 t187 _ ?side1 ?side2 A19.out).mono ?_); (case side1 => repeat (first | exact HR0.out | (with_reducible refine Kd.C_alloc ?_ _) | (with_reducible refine Kd.C_drewN ?_ _) | (with_reducible refine Kd.C_drew ?_))); (case side2 => exact HC0.out); rintro e w' ⟨rfl, ⟨nd, rfl⟩⟩; refine ⟨_, rfl, ?_⟩) | ((with_reducible refine gate_callee (f := 57) rfl ?_); refine goesL_ (some 60) rfl rfl Tryd.func57 (by kernel_rfl) rfl #[.slice (some ad182) l0.length c0, .int .i64 t187, .slice A2 l2.length c2, .slice A3 l3.length c3, .int .i64 a4] rfl (by (try simp only [List.map_toArray, List.map_cons, List.map_nil]); first | done | rfl | (simp only [List.length_drop, List.length_take]; rfl)) ?_; (with_reducible refine (ih kj14 (by have := HJ14.out; omega) _ _ l0 t187 _ _ l2 _ _ l3 a4 false _ ?side1 ?side2 ?side3 ?side4 ?side5 ?side6 A20.out).mono ?_); (case side1 => repeat (first | exact HR0.out | (with_reducible refine Kd.C_alloc ?_ _) | (with_reducible refine Kd.C_drewN ?_ _) | (with_reducible refine Kd.C_drew ?_))); (case side2 => exact HC0.out); (case side3 => repeat (first | exact HR2.out | (with_reducible refine Kd.C_alloc ?_ _) | (with_reducible refine Kd.C_drewN ?_ _) | (with_reducible refine Kd.C_drew ?_))); (case side4 => exact HC2.out); (case side5 => repeat (first | exact HR3.out | (with_reducible refine Kd.C_alloc ?_ _) | (with_reducible refine Kd.C_drewN ?_ _) | (with_reducible refine Kd.C_drew ?_))); (case side6 => exact HC3.out); rintro e w' ⟨rfl, ⟨nd, rfl⟩⟩; refine ⟨_, rfl, ?_⟩; have p189 : 0 ≤ (a1 : Int) := of_decide_eq_true (by first | (with_reducible assumption) | assumption); have q189 : a1 < (l0.length : Int) := of_decide_eq_true (by first | (with_reducible assumption) | assumption); obtain ⟨ad189, e189, hx189_0, hx189_1⟩ := at_T63 HR0.out a1 p189 q189; obtain rfl : ad182 = ad189 := (by injection e189); replace p189 := eq_true p189; replace q189 := eq_true q189))
                              go_ret
                              exact ⟨by first | rfl | (simp; done) | (simp [*]; done), by repeat (first | exact Drawn0.refl _ | apply Drawn0.step)⟩
                          · rw [if_neg c24] at H
                            exact absurd H (by simp)
                        · rw [if_neg c23] at H
                          exact absurd H (by simp)
                    · replace c21 := Bool.eq_false_iff.mpr c21
                      subst c21
                      have H1 : (if 0 ≤ a1 then (if a1 < (l0.length : Int) then (if ((rd_T63 l0 a1).f0) = 9 then (some t188) else (some false)) else (none)) else (none)) = some r := by rw [if_neg (show ¬ (false = true) by decide)] at H; exact H
                      clear H
                      have H := H1
                      clear H1
                      by_cases c26 : 0 ≤ a1
                      · rw [if_pos c26] at H
                        have c26b0 : decide (0 ≤ a1) = true := decide_eq_true c26
                        clear c26
                        by_cases c27 : a1 < (l0.length : Int)
                        · rw [if_pos c27] at H
                          have c27b0 : decide (a1 < (l0.length : Int)) = true := decide_eq_true c27
                          clear c27
                          by_cases c28 : ((rd_T63 l0 a1).f0) = 9
                          · rw [if_pos c28] at H
                            have c28b0 : (((rd_T63 l0 a1).f0) == 9) = true := beq_iff_eq.mpr c28
                            have c28b1 : (((rd_T63 l0 a1).f0) != 9) = false := bne_eq_false_iff_eq.mpr c28
                            clear c28
                            obtain rfl := Option.some.inj H
                            go_wp2_with (first | ((with_reducible refine gate_callee (f := 57) rfl ?_); refine goesL_ (some 52) rfl rfl Tryd.func57 (by kernel_rfl) rfl #[.slice (some ad182) l0.length c0, .int .i64 (wrap64 (a1 + 1)), .slice A2 l2.length c2, .slice A3 l3.length c3, .int .i64 a4] rfl (by (try simp only [List.map_toArray, List.map_cons, List.map_nil]); first | done | rfl | (simp only [List.length_drop, List.length_take]; rfl)) ?_; (with_reducible refine (ih kj14 (by have := HJ14.out; omega) _ _ l0 (wrap64 (a1 + 1)) _ _ l2 _ _ l3 a4 false _ ?side1 ?side2 ?side3 ?side4 ?side5 ?side6 A18.out).mono ?_); (case side1 => repeat (first | exact HR0.out | (with_reducible refine Kd.C_alloc ?_ _) | (with_reducible refine Kd.C_drewN ?_ _) | (with_reducible refine Kd.C_drew ?_))); (case side2 => exact HC0.out); (case side3 => repeat (first | exact HR2.out | (with_reducible refine Kd.C_alloc ?_ _) | (with_reducible refine Kd.C_drewN ?_ _) | (with_reducible refine Kd.C_drew ?_))); (case side4 => exact HC2.out); (case side5 => repeat (first | exact HR3.out | (with_reducible refine Kd.C_alloc ?_ _) | (with_reducible refine Kd.C_drewN ?_ _) | (with_reducible refine Kd.C_drew ?_))); (case side6 => exact HC3.out); rintro e w' ⟨rfl, ⟨nd, rfl⟩⟩; refine ⟨_, rfl, ?_⟩) | ((with_reducible refine gate_callee (f := 58) rfl ?_); refine goesL_ (some 56) rfl rfl Tryd.func58 (by kernel_rfl) rfl #[.slice (some ad182) l0.length c0, .int .i64 a1] rfl (by (try simp only [List.map_toArray, List.map_cons, List.map_nil]); first | done | rfl | (simp only [List.length_drop, List.length_take]; rfl)) ?_; (with_reducible refine (foretellref_secondAt.calls kj14 _ _ l0 a1 t187 _ ?side1 ?side2 A19.out).mono ?_); (case side1 => repeat (first | exact HR0.out | (with_reducible refine Kd.C_alloc ?_ _) | (with_reducible refine Kd.C_drewN ?_ _) | (with_reducible refine Kd.C_drew ?_))); (case side2 => exact HC0.out); rintro e w' ⟨rfl, ⟨nd, rfl⟩⟩; refine ⟨_, rfl, ?_⟩) | ((with_reducible refine gate_callee (f := 57) rfl ?_); refine goesL_ (some 60) rfl rfl Tryd.func57 (by kernel_rfl) rfl #[.slice (some ad182) l0.length c0, .int .i64 t187, .slice A2 l2.length c2, .slice A3 l3.length c3, .int .i64 a4] rfl (by (try simp only [List.map_toArray, List.map_cons, List.map_nil]); first | done | rfl | (simp only [List.length_drop, List.length_take]; rfl)) ?_; (with_reducible refine (ih kj14 (by have := HJ14.out; omega) _ _ l0 t187 _ _ l2 _ _ l3 a4 t188 _ ?side1 ?side2 ?side3 ?side4 ?side5 ?side6 A20.out).mono ?_); (case side1 => repeat (first | exact HR0.out | (with_reducible refine Kd.C_alloc ?_ _) | (with_reducible refine Kd.C_drewN ?_ _) | (with_reducible refine Kd.C_drew ?_))); (case side2 => exact HC0.out); (case side3 => repeat (first | exact HR2.out | (with_reducible refine Kd.C_alloc ?_ _) | (with_reducible refine Kd.C_drewN ?_ _) | (with_reducible refine Kd.C_drew ?_))); (case side4 => exact HC2.out); (case side5 => repeat (first | exact HR3.out | (with_reducible refine Kd.C_alloc ?_ _) | (with_reducible refine Kd.C_drewN ?_ _) | (with_reducible refine Kd.C_drew ?_))); (case side6 => exact HC3.out); rintro e w' ⟨rfl, ⟨nd, rfl⟩⟩; refine ⟨_, rfl, ?_⟩; have p190 : 0 ≤ (a1 : Int) := of_decide_eq_true (by first | (with_reducible assumption) | assumption); have q190 : a1 < (l0.length : Int) := of_decide_eq_true (by first | (with_reducible assumption) | assumption); obtain ⟨ad190, e190, hx190_0, hx190_1⟩ := at_T63 HR0.out a1 p190 q190; obtain rfl : ad182 = ad190 := (by injection e190); replace p190 := eq_true p190; replace q190 := eq_true q190))
                            go_ret
                            exact ⟨by first | rfl | (simp; done) | (simp [*]; done), by repeat (first | exact Drawn0.refl _ | apply Drawn0.step)⟩
                          · rw [if_neg c28] at H
                            have c28b0 : (((rd_T63 l0 a1).f0) == 9) = false := beq_eq_false_iff_ne.mpr c28
                            have c28b1 : (((rd_T63 l0 a1).f0) != 9) = true := bne_iff_ne.mpr c28
                            obtain rfl := Option.some.inj H
                            go_wp2_with (first | ((with_reducible refine gate_callee (f := 57) rfl ?_); refine goesL_ (some 52) rfl rfl Tryd.func57 (by kernel_rfl) rfl #[.slice (some ad182) l0.length c0, .int .i64 (wrap64 (a1 + 1)), .slice A2 l2.length c2, .slice A3 l3.length c3, .int .i64 a4] rfl (by (try simp only [List.map_toArray, List.map_cons, List.map_nil]); first | done | rfl | (simp only [List.length_drop, List.length_take]; rfl)) ?_; (with_reducible refine (ih kj14 (by have := HJ14.out; omega) _ _ l0 (wrap64 (a1 + 1)) _ _ l2 _ _ l3 a4 false _ ?side1 ?side2 ?side3 ?side4 ?side5 ?side6 A18.out).mono ?_); (case side1 => repeat (first | exact HR0.out | (with_reducible refine Kd.C_alloc ?_ _) | (with_reducible refine Kd.C_drewN ?_ _) | (with_reducible refine Kd.C_drew ?_))); (case side2 => exact HC0.out); (case side3 => repeat (first | exact HR2.out | (with_reducible refine Kd.C_alloc ?_ _) | (with_reducible refine Kd.C_drewN ?_ _) | (with_reducible refine Kd.C_drew ?_))); (case side4 => exact HC2.out); (case side5 => repeat (first | exact HR3.out | (with_reducible refine Kd.C_alloc ?_ _) | (with_reducible refine Kd.C_drewN ?_ _) | (with_reducible refine Kd.C_drew ?_))); (case side6 => exact HC3.out); rintro e w' ⟨rfl, ⟨nd, rfl⟩⟩; refine ⟨_, rfl, ?_⟩) | ((with_reducible refine gate_callee (f := 58) rfl ?_); refine goesL_ (some 56) rfl rfl Tryd.func58 (by kernel_rfl) rfl #[.slice (some ad182) l0.length c0, .int .i64 a1] rfl (by (try simp only [List.map_toArray, List.map_cons, List.map_nil]); first | done | rfl | (simp only [List.length_drop, List.length_take]; rfl)) ?_; (with_reducible refine (foretellref_secondAt.calls kj14 _ _ l0 a1 t187 _ ?side1 ?side2 A19.out).mono ?_); (case side1 => repeat (first | exact HR0.out | (with_reducible refine Kd.C_alloc ?_ _) | (with_reducible refine Kd.C_drewN ?_ _) | (with_reducible refine Kd.C_drew ?_))); (case side2 => exact HC0.out); rintro e w' ⟨rfl, ⟨nd, rfl⟩⟩; refine ⟨_, rfl, ?_⟩) | ((with_reducible refine gate_callee (f := 57) rfl ?_); refine goesL_ (some 60) rfl rfl Tryd.func57 (by kernel_rfl) rfl #[.slice (some ad182) l0.length c0, .int .i64 t187, .slice A2 l2.length c2, .slice A3 l3.length c3, .int .i64 a4] rfl (by (try simp only [List.map_toArray, List.map_cons, List.map_nil]); first | done | rfl | (simp only [List.length_drop, List.length_take]; rfl)) ?_; (with_reducible refine (ih kj14 (by have := HJ14.out; omega) _ _ l0 t187 _ _ l2 _ _ l3 a4 t188 _ ?side1 ?side2 ?side3 ?side4 ?side5 ?side6 A20.out).mono ?_); (case side1 => repeat (first | exact HR0.out | (with_reducible refine Kd.C_alloc ?_ _) | (with_reducible refine Kd.C_drewN ?_ _) | (with_reducible refine Kd.C_drew ?_))); (case side2 => exact HC0.out); (case side3 => repeat (first | exact HR2.out | (with_reducible refine Kd.C_alloc ?_ _) | (with_reducible refine Kd.C_drewN ?_ _) | (with_reducible refine Kd.C_drew ?_))); (case side4 => exact HC2.out); (case side5 => repeat (first | exact HR3.out | (with_reducible refine Kd.C_alloc ?_ _) | (with_reducible refine Kd.C_drewN ?_ _) | (with_reducible refine Kd.C_drew ?_))); (case side6 => exact HC3.out); rintro e w' ⟨rfl, ⟨nd, rfl⟩⟩; refine ⟨_, rfl, ?_⟩; have p190 : 0 ≤ (a1 : Int) := of_decide_eq_true (by first | (with_reducible assumption) | assumption); have q190 : a1 < (l0.length : Int) := of_decide_eq_true (by first | (with_reducible assumption) | assumption); obtain ⟨ad190, e190, hx190_0, hx190_1⟩ := at_T63 HR0.out a1 p190 q190; obtain rfl : ad182 = ad190 := (by injection e190); replace p190 := eq_true p190; replace q190 := eq_true q190))
                            go_ret
                            exact ⟨by first | rfl | (simp; done) | (simp [*]; done), by repeat (first | exact Drawn0.refl _ | apply Drawn0.step)⟩
                        · rw [if_neg c27] at H
                          exact absurd H (by simp)
                      · rw [if_neg c26] at H
                        exact absurd H (by simp)
                  · replace c17 := Bool.eq_false_iff.mpr c17
                    subst c17
                    have H1 : (foretellref_truthAt.l0 kj14 a1 l3 a4 0) = some r := by rw [if_neg (show ¬ (false = true) by decide)] at H; exact H
                    clear H
                    have H := H1
                    clear H1
                    have H' := Aside0.mk H
                    clear H
                    go_wp2
                    go_loopg [4, 13] kj14 (fun kq v4 v13 w' => ∃ (x4_2 : Int) (x13_2 : Int), v4 = .int .i64 x4_2 ∧ v13 = .int .i64 x13_2 ∧ Aside0 (foretellref_truthAt.l0 kq a1 l3 x4_2 x13_2 = some r) ∧ Aside0 (kq ≤ kj14) ∧ Drawn0 w w')
                    case atStart => exact ⟨(a4), (0), (by first | rfl | (simp; done) | (simp [*]; done)), (by first | rfl | (simp; done) | (simp [*]; done)), H', ⟨Nat.le_refl _⟩, by repeat (first | exact Drawn0.refl _ | apply Drawn0.step)⟩
                    case round =>
                      clear H'
                      try clear c1
                      try clear p1
                      try clear q1
                      try clear hx1
                      try clear c2
                      try clear p2
                      try clear c3
                      try clear c5
                      try clear c6
                      try clear c6b0
                      try clear p6
                      try clear c7
                      try clear c7b0
                      try clear c8
                      try clear c8b0
                      try clear c8b1
                      try clear c9
                      try clear c9b0
                      try clear c10
                      try clear c10b0
                      try clear c11
                      try clear c11b0
                      try clear c11b1
                      try clear c12
                      try clear c12b0
                      try clear c12b1
                      try clear c13
                      try clear c13b0
                      try clear c13b1
                      try clear c14
                      try clear c16
                      try clear c16b0
                      try clear c16b1
                      try clear c17
                      try clear p18
                      try clear q18
                      try clear hx18
                      try clear p19
                      try clear q19
                      try clear hx19
                      try clear c21
                      try clear c22
                      try clear c23
                      try clear c23b0
                      try clear c24
                      try clear c24b0
                      try clear c25
                      try clear c25b0
                      try clear c25b1
                      try clear c26
                      try clear c26b0
                      try clear c27
                      try clear c27b0
                      try clear c28
                      try clear c28b0
                      try clear c28b1
                      try clear hx182_0
                      try clear hx182_1
                      try clear hx183_0
                      try clear hx183_1
                      try clear hx184_0
                      try clear hx189_0
                      try clear hx189_1
                      try clear hx190_0
                      try clear hx190_1
                      try clear p1
                      try clear p182
                      try clear p183
                      try clear p184
                      try clear p189
                      try clear p190
                      try clear p2
                      try clear p6
                      try clear q1
                      try clear q182
                      try clear q183
                      try clear q184
                      try clear q189
                      try clear q190
                      obtain ⟨x4_2, x13_2, rfl, rfl, HA, HK2, ⟨m2, rfl⟩⟩ := hrel
                      cases gk with
                      | zero => exact absurd HA.out (by simp [foretellref_truthAt.l0])
                      | succ k2 =>
                        have H := HA.out
                        clear HA
                        simp only [foretellref_truthAt.l0] at H
                        by_cases c29 : x13_2 < (l3.length : Int)
                        · rw [if_pos c29] at H
                          have c29b0 : decide (x13_2 < (l3.length : Int)) = true := decide_eq_true c29
                          clear c29
                          by_cases c30 : 0 ≤ x13_2
                          · rw [if_pos c30] at H
                            have c30b0 : decide (0 ≤ x13_2) = true := decide_eq_true c30
                            clear c30
                            by_cases c31 : (rd l3 x13_2) = a1
                            · rw [if_pos c31] at H
                              have c31b0 : ((rd l3 x13_2) == a1) = true := beq_iff_eq.mpr c31
                              have c31b1 : ((rd l3 x13_2) != a1) = false := bne_eq_false_iff_eq.mpr c31
                              clear c31
                              obtain rfl := Option.some.inj H
                              have p191 : 0 ≤ (x13_2 : Int) := of_decide_eq_true (by first | (with_reducible assumption) | assumption)
                              have q191 : x13_2 < (l3.length : Int) := of_decide_eq_true (by first | (with_reducible assumption) | assumption)
                              obtain ⟨ad191, e191, hx191_0⟩ := Kd.at_int HR3.out x13_2 p191 q191
                              cases e191
                              replace p191 := eq_true p191
                              replace q191 := eq_true q191
                              go_wp2
                              go_ret
                              exact ⟨by first | rfl | (simp; done) | (simp [*]; done), by repeat (first | exact Drawn0.refl _ | apply Drawn0.step)⟩
                            · rw [if_neg c31] at H
                              have c31b0 : ((rd l3 x13_2) == a1) = false := beq_eq_false_iff_ne.mpr c31
                              have c31b1 : ((rd l3 x13_2) != a1) = true := bne_iff_ne.mpr c31
                              have H' := Aside0.mk H
                              clear H
                              have p191 : 0 ≤ (x13_2 : Int) := of_decide_eq_true (by first | (with_reducible assumption) | assumption)
                              have q191 : x13_2 < (l3.length : Int) := of_decide_eq_true (by first | (with_reducible assumption) | assumption)
                              obtain ⟨ad191, e191, hx191_0⟩ := Kd.at_int HR3.out x13_2 p191 q191
                              cases e191
                              replace p191 := eq_true p191
                              replace q191 := eq_true q191
                              go_wp2
                              go_roundg k2
                              case measure => have := HJ14.out; have := HK2.out; omega
                              case rel => exact ⟨(wrap64 (Int.tdiv x4_2 2)), (wrap64 (x13_2 + 1)), (by first | rfl | (simp; done) | (simp [*]; done)), (by first | rfl | (simp; done) | (simp [*]; done)), H', ⟨by have := HJ14.out; have := HK2.out; omega⟩, by repeat (first | exact Drawn0.refl _ | apply Drawn0.step)⟩
                          · rw [if_neg c30] at H
                            exact absurd H (by simp)
                        · rw [if_neg c29] at H
                          have c29b0 : decide (x13_2 < (l3.length : Int)) = false := decide_eq_false c29
                          clear c29
                          obtain rfl := Option.some.inj H
                          go_wp2
                          go_ret
                          exact ⟨by first | rfl | (simp; done) | (simp [*]; done), by repeat (first | exact Drawn0.refl _ | apply Drawn0.step)⟩
    · rw [if_neg c7] at H
      exact absurd H (by simp)
  · rw [if_neg c6] at H
    exact absurd H (by simp)

/-! ### foretellref_TruthsOf: function 34 -/
mutual
def foretellref_TruthsOf.l0 : Nat → List (S63) → List Bool → Int → List Int → Int → Int → Option (List Bool × Int)
  | 0, _, _, _, _, _, _ => none
  | k + 1, x0, x1, x2, x8, x10, x11 => if x11 < (x8.length : Int) then (foretellref_TruthsOf.l0 k x0 x1 x2 x8 (wrap64 (x10 * 2)) (wrap64 (x11 + 1))) else ((foretellref_In.f x2 0 (wrap64 (x10 - 1))).bind fun t196 => (if t196 = true then (foretellref_TruthsOf.l1 k x0 x1 x2 x8 ([] : List Bool) 0) else (some (([] : List Bool), 2))))
def foretellref_TruthsOf.l1 : Nat → List (S63) → List Bool → Int → List Int → List Bool → Int → Option (List Bool × Int)
  | 0, _, _, _, _, _, _ => none
  | k + 1, x0, x1, x2, x8, x12, x13 => if x13 < (x0.length : Int) then ((foretellref_truthAt.f k x0 x13 x1 x8 x2).bind fun t197 => (if x12.length < 140737488355328 then (foretellref_TruthsOf.l1 k x0 x1 x2 x8 (x12 ++ [t197]) (wrap64 (x13 + 1))) else (none))) else (some (x12, 0))
end
def foretellref_TruthsOf.f (k : Nat) (l0 : List (S63)) (l1 : List Bool) (a2 : Int) : Option (List Bool × Int) := (foretellref_AheadOf.f k l0 (l1.length : Int)).bind fun bt192 => (if bt192.2 = 0 then (foretellref_TruthsOf.l0 k l0 l1 a2 bt192.1 1 0) else (some (([] : List Bool), bt192.2)))
theorem foretellref_TruthsOf.mono_l : ∀ k, (∀ y0 y1 y2 y3 y4 y5, LeO (foretellref_TruthsOf.l0 k y0 y1 y2 y3 y4 y5) (foretellref_TruthsOf.l0 (k + 1) y0 y1 y2 y3 y4 y5)) ∧ (∀ y0 y1 y2 y3 y4 y5, LeO (foretellref_TruthsOf.l1 k y0 y1 y2 y3 y4 y5) (foretellref_TruthsOf.l1 (k + 1) y0 y1 y2 y3 y4 y5))
  | 0 => ⟨fun _ _ _ _ _ _ r h => by simp [foretellref_TruthsOf.l0] at h, fun _ _ _ _ _ _ r h => by simp [foretellref_TruthsOf.l1] at h⟩
  | k + 1 => by
    obtain ⟨ih0, ih1⟩ := foretellref_TruthsOf.mono_l k
    refine ⟨?_, ?_⟩
    · intro y0 y1 y2 y3 y4 y5
      unfold foretellref_TruthsOf.l0
      repeat' first
      | (with_reducible exact ih0 _ _ _ _ _ _)
      | (with_reducible exact ih1 _ _ _ _ _ _)
      | (with_reducible exact foretellref_AheadOf.mono _ _ _)
      | (with_reducible exact foretellref_truthAt.mono _ _ _ _ _ _)
      | (with_reducible exact LeO.refl _)
      | (with_reducible exact LeO.none _)
      | (with_reducible refine LeO.ite ?_ ?_)
      | (with_reducible refine LeO.bind ?_ (fun _ => ?_))
      | exact ih0 _ _ _ _ _ _
      | exact ih1 _ _ _ _ _ _
      | exact foretellref_AheadOf.mono _ _ _
      | exact foretellref_truthAt.mono _ _ _ _ _ _
      | exact LeO.none _
      | refine LeO.ite ?_ ?_
      | refine LeO.bind ?_ (fun _ => ?_)
    · intro y0 y1 y2 y3 y4 y5
      unfold foretellref_TruthsOf.l1
      repeat' first
      | (with_reducible exact ih0 _ _ _ _ _ _)
      | (with_reducible exact ih1 _ _ _ _ _ _)
      | (with_reducible exact foretellref_AheadOf.mono _ _ _)
      | (with_reducible exact foretellref_truthAt.mono _ _ _ _ _ _)
      | (with_reducible exact LeO.refl _)
      | (with_reducible exact LeO.none _)
      | (with_reducible refine LeO.ite ?_ ?_)
      | (with_reducible refine LeO.bind ?_ (fun _ => ?_))
      | exact ih0 _ _ _ _ _ _
      | exact ih1 _ _ _ _ _ _
      | exact foretellref_AheadOf.mono _ _ _
      | exact foretellref_truthAt.mono _ _ _ _ _ _
      | exact LeO.none _
      | refine LeO.ite ?_ ?_
      | refine LeO.bind ?_ (fun _ => ?_)
theorem foretellref_TruthsOf.mono : ∀ a0 a1 a2 k, LeO (foretellref_TruthsOf.f k a0 a1 a2) (foretellref_TruthsOf.f (k + 1) a0 a1 a2) := by
  intro a0 a1 a2 k
  obtain ⟨ih0, ih1⟩ := foretellref_TruthsOf.mono_l k
  unfold foretellref_TruthsOf.f
  repeat' first
      | (with_reducible exact ih0 _ _ _ _ _ _)
      | (with_reducible exact ih1 _ _ _ _ _ _)
      | (with_reducible exact foretellref_AheadOf.mono _ _ _)
      | (with_reducible exact foretellref_truthAt.mono _ _ _ _ _ _)
      | (with_reducible exact LeO.refl _)
      | (with_reducible exact LeO.none _)
      | (with_reducible refine LeO.ite ?_ ?_)
      | (with_reducible refine LeO.bind ?_ (fun _ => ?_))
      | exact ih0 _ _ _ _ _ _
      | exact ih1 _ _ _ _ _ _
      | exact foretellref_AheadOf.mono _ _ _
      | exact foretellref_truthAt.mono _ _ _ _ _ _
      | exact LeO.none _
      | refine LeO.ite ?_ ?_
      | refine LeO.bind ?_ (fun _ => ?_)
set_option maxHeartbeats 8000000 in
set_option maxRecDepth 100000 in
theorem foretellref_TruthsOf.calls (k : Nat) (A0 : Option Addr) (c0 : Nat) (l0 : List (S63)) (A1 : Option Addr) (c1 : Nat) (l1 : List Bool) (a2 : Int) (r1 : List Bool) (r2 : Int) (w : World) (hr0 : Kd.C k63 w A0 l0.length l0) (hc0 : l0.length ≤ c0) (hr1 : Kd.C Kd.bool w A1 l1.length l1) (hc1 : l1.length ≤ c1) (h : foretellref_TruthsOf.f k l0 l1 a2 = some (r1, r2)) :
    Calls Tryd.prog 34 #[.slice A0 l0.length c0, .slice A1 l1.length c1, .int .i64 a2] w fun e w' => ∃ v0_ : Value, e = .returned (.tuple #[v0_, .int .i64 r2]) ∧ Kd.R Kd.bool 4 w' w.heap.size (fun _ => True) v0_ r1 ∧ Below w.heap.size w w' := by
  have HR0 := Aside0.mk hr0
  have HC0 := Aside0.mk hc0
  clear hr0 hc0
  have HR1 := Aside0.mk hr1
  have HC1 := Aside0.mk hc1
  clear hr1 hc1
  have HB := Aside0.mk (Below.refl w.heap.size w)
  have H : ((foretellref_AheadOf.f k l0 (l1.length : Int)).bind fun bt192 => (if bt192.2 = 0 then (foretellref_TruthsOf.l0 k l0 l1 a2 bt192.1 1 0) else (some (([] : List Bool), bt192.2)))) = some (r1, r2) := h
  clear h
  replace H := Option.bind_eq_some_iff.mp H
  obtain ⟨⟨t192, t193⟩, A40, H⟩ := H
  replace H : (if t193 = 0 then (foretellref_TruthsOf.l0 k l0 l1 a2 t192 1 0) else (some (([] : List Bool), t193))) = some (r1, r2) := H
  have A4 := Aside0.mk A40
  clear A40
  by_cases c5 : t193 = 0
  · rw [if_pos c5] at H
    have c5b0 : (t193 == 0) = true := beq_iff_eq.mpr c5
    have c5b1 : (t193 != 0) = false := bne_eq_false_iff_eq.mpr c5
    clear c5
    have H' := Aside0.mk H
    clear H
    go_enter Tryd.func34, Tryd.ntmps34
    go_wp2_with (first | ((with_reducible refine gate_callee (f := 29) rfl ?_); refine goesL_ (some 19) rfl rfl Tryd.func29 (by kernel_rfl) rfl #[.slice A0 l0.length c0, .int .i64 (l1.length : Int)] rfl (by (try simp only [List.map_toArray, List.map_cons, List.map_nil]); first | done | rfl | (simp only [List.length_drop, List.length_take]; rfl)) ?_; (with_reducible refine (foretellref_AheadOf.calls k _ _ l0 (l1.length : Int) t192 t193 _ ?side1 ?side2 A4.out).mono ?_); (case side1 => repeat (first | exact HR0.out | (with_reducible refine Kd.C_alloc ?_ _) | (with_reducible refine Kd.C_drewN ?_ _) | (with_reducible refine Kd.C_drew ?_))); (case side2 => exact HC0.out); rintro e w6 ⟨v194, rfl, ho0, hb⟩; refine ⟨_, rfl, ?_⟩; have n0_ := Aside0.mk (Kd.R_lower ho0 (below_size (by repeat (first | (with_reducible first | exact HB.out | apply below_alloc | apply pw_below_drewN | apply below_drew1) | exact HB.out)))); have n1_ := Aside0.mk (below_step (by repeat (first | (with_reducible first | exact HB.out | apply below_alloc | apply pw_below_drewN | apply below_drew1) | exact HB.out)) hb); clear HB; have HO195 := n0_; have HB := n1_; clear n0_ n1_; (try clear hb); (try clear hb2); (try clear hk); (try clear hi); (try clear ho0)))
    go_loopg [10, 11] k (fun kq v10 v11 w' => ∃ (x10_1 : Int) (x11_1 : Int), v10 = .int .i64 x10_1 ∧ v11 = .int .i64 x11_1 ∧ Aside0 (foretellref_TruthsOf.l0 kq l0 l1 a2 t192 x10_1 x11_1 = some (r1, r2)) ∧ Aside0 (kq ≤ k) ∧ Aside0 (Kd.R (Kd.int .i64) 3 w' w.heap.size (fun _ => True) v194 t192) ∧ Aside0 (Below w.heap.size w w'))
    case atStart => exact ⟨(1), (0), (by first | rfl | (simp; done) | (simp [*]; done)), (by first | rfl | (simp; done) | (simp [*]; done)), H', ⟨Nat.le_refl _⟩, ⟨by (with_reducible repeat (first | apply Kd.R_alloc | apply Kd.R_drewN | apply Kd.R_drew)); exact HO195.out⟩, ⟨by repeat (first | (with_reducible first | exact HB.out | apply below_alloc | apply pw_below_drewN | apply below_drew1) | exact HB.out)⟩⟩
    case round =>
      clear H'
      try clear c1
      try clear c2
      try clear p2
      try clear c3
      try clear c5
      try clear c5b0
      try clear c5b1
      obtain ⟨x10_1, x11_1, rfl, rfl, HA, HK1, HO_8, HB⟩ := hrel
      cases gk with
      | zero => exact absurd HA.out (by simp [foretellref_TruthsOf.l0])
      | succ k1 =>
        have H := HA.out
        clear HA
        simp only [foretellref_TruthsOf.l0] at H
        by_cases c7 : x11_1 < (t192.length : Int)
        · rw [if_pos c7] at H
          have c7b0 : decide (x11_1 < (t192.length : Int)) = true := decide_eq_true c7
          clear c7
          have H' := Aside0.mk H
          clear H
          obtain ⟨Ao8, co8, eo8⟩ := Kd.R_slice HO_8.out
          subst eo8
          go_wp2
          go_roundg k1
          case measure => have := HK1.out; omega
          case rel => exact ⟨(wrap64 (x10_1 * 2)), (wrap64 (x11_1 + 1)), (by first | rfl | (simp; done) | (simp [*]; done)), (by first | rfl | (simp; done) | (simp [*]; done)), H', ⟨by have := HK1.out; omega⟩, ⟨by (with_reducible repeat (first | apply Kd.R_alloc | apply Kd.R_drewN | apply Kd.R_drew)); exact HO_8.out⟩, ⟨by repeat (first | (with_reducible first | exact HB.out | apply below_alloc | apply pw_below_drewN | apply below_drew1) | exact HB.out)⟩⟩
        · rw [if_neg c7] at H
          have c7b0 : decide (x11_1 < (t192.length : Int)) = false := decide_eq_false c7
          clear c7
          replace H := Option.bind_eq_some_iff.mp H
          obtain ⟨t196, A90, H⟩ := H
          replace H : (if t196 = true then (foretellref_TruthsOf.l1 k1 l0 l1 a2 t192 ([] : List Bool) 0) else (some (([] : List Bool), 2))) = some (r1, r2) := H
          have A9 := Aside0.mk A90
          clear A90
          by_cases c10 : t196 = true
          · subst c10
            have H1 : (foretellref_TruthsOf.l1 k1 l0 l1 a2 t192 ([] : List Bool) 0) = some (r1, r2) := by rw [if_pos rfl] at H; exact H
            clear H
            have H := H1
            clear H1
            have H' := Aside0.mk H
            clear H
            obtain ⟨Ao11, co11, eo11⟩ := Kd.R_slice HO_8.out
            subst eo11
            go_wp2_with (first | ((with_reducible refine gate_callee (f := 49) rfl ?_); refine goesL_ (some 36) rfl rfl Tryd.func49 (by kernel_rfl) rfl #[.int .i64 a2, .int .i64 0, .int .i64 (wrap64 (x10_1 - 1))] rfl (by (try simp only [List.map_toArray, List.map_cons, List.map_nil]); first | done | rfl | (simp only [List.length_drop, List.length_take]; rfl)) ?_; (with_reducible refine (foretellref_In.calls a2 0 (wrap64 (x10_1 - 1)) true _ A9.out).mono ?_); rintro e w' ⟨rfl, ⟨nd, rfl⟩⟩; refine ⟨_, rfl, ?_⟩))
            go_loopg [12, 13] k1 (fun kq v12 v13 w' => ∃ (x12_2 : List Bool) (x13_2 : Int), v13 = .int .i64 x13_2 ∧ Aside0 (foretellref_TruthsOf.l1 kq l0 l1 a2 t192 x12_2 x13_2 = some (r1, r2)) ∧ Aside0 (kq ≤ k1) ∧ Aside0 (Kd.R (Kd.int .i64) 3 w' w.heap.size (fun _ => True) (.slice Ao11 t192.length co11) t192) ∧ Aside0 (Kd.R Kd.bool 4 w' w.heap.size (fun _ => True) v12 x12_2) ∧ Aside0 (Below w.heap.size w w'))
            case atStart => exact ⟨(([] : List Bool)), (0), (by first | rfl | (simp; done) | (simp [*]; done)), H', ⟨Nat.le_refl _⟩, ⟨by (with_reducible repeat (first | apply Kd.R_alloc | apply Kd.R_drewN | apply Kd.R_drew)); exact HO_8.out⟩, ⟨by first | exact Kd.R_nil _ _ _ _ _ | exact Kd.N_nil _ _ _ _ _ | exact Kd.V_nil _ _ _ _ _ | exact Kd.Q_nil _ _ _ _ _ | exact Kd.S_nil _ _ _ _ _⟩, ⟨by repeat (first | (with_reducible first | exact HB.out | apply below_alloc | apply pw_below_drewN | apply below_drew1) | exact HB.out)⟩⟩
            case round =>
              clear H'
              try clear c1
              try clear c2
              try clear p2
              try clear c3
              try clear c4
              try clear c5
              try clear c5b0
              try clear c5b1
              try clear p6
              try clear c7
              try clear c7b0
              try clear c10
              try clear p2
              obtain ⟨x12_2, x13_2, rfl, HA, HK2, HO_8, HO_12, HB⟩ := hrel
              cases gk with
              | zero => exact absurd HA.out (by simp [foretellref_TruthsOf.l1])
              | succ k2 =>
                have H := HA.out
                clear HA
                simp only [foretellref_TruthsOf.l1] at H
                by_cases c12 : x13_2 < (l0.length : Int)
                · rw [if_pos c12] at H
                  have c12b0 : decide (x13_2 < (l0.length : Int)) = true := decide_eq_true c12
                  clear c12
                  replace H := Option.bind_eq_some_iff.mp H
                  obtain ⟨t197, A130, H⟩ := H
                  replace H : (if x12_2.length < 140737488355328 then (foretellref_TruthsOf.l1 k2 l0 l1 a2 t192 (x12_2 ++ [t197]) (wrap64 (x13_2 + 1))) else (none)) = some (r1, r2) := H
                  have A13 := Aside0.mk A130
                  clear A130
                  by_cases c14 : x12_2.length < 140737488355328
                  · rw [if_pos c14] at H
                    have LMc14 := Aside0.mk c14
                    clear c14
                    obtain ⟨y198, hy198⟩ : ∃ y_ : List Bool, y_ = (x12_2 ++ [t197]) := ⟨_, rfl⟩
                    replace H : (foretellref_TruthsOf.l1 k2 l0 l1 a2 t192 y198 (wrap64 (x13_2 + 1))) = some (r1, r2) := by first | (rw [hy198]; with_reducible exact H) | (have H2_ := (Option.bind_some _ _).symm.trans H; rw [hy198]; with_reducible exact H2_) | (have H2_ := (Option.bind_some _ _).symm.trans H; with_reducible exact H2_) | with_reducible exact H | (rw [hy198]; exact H) | exact H
                    have Ny198 := Aside0.mk hy198
                    clear hy198
                    have H' := Aside0.mk H
                    clear H
                    go_wp2_with (first | ((with_reducible refine gate_callee (f := 57) rfl ?_); refine goesL_ (some 49) rfl rfl Tryd.func57 (by kernel_rfl) rfl #[.slice A0 l0.length c0, .int .i64 x13_2, .slice A1 l1.length c1, .slice Ao11 t192.length co11, .int .i64 a2] rfl (by (try simp only [List.map_toArray, List.map_cons, List.map_nil]); first | done | rfl | (simp only [List.length_drop, List.length_take]; rfl)) ?_; (with_reducible refine (foretellref_truthAt.calls k2 _ _ l0 x13_2 _ _ l1 _ _ t192 a2 t197 _ ?side1 ?side2 ?side3 ?side4 ?side5 ?side6 A13.out).mono ?_); (case side1 => repeat (first | exact (Kd.C_below HR0.out HB.out) | (with_reducible refine Kd.C_alloc ?_ _) | (with_reducible refine Kd.C_drewN ?_ _) | (with_reducible refine Kd.C_drew ?_))); (case side2 => exact HC0.out); (case side3 => repeat (first | exact (Kd.C_below HR1.out HB.out) | (with_reducible refine Kd.C_alloc ?_ _) | (with_reducible refine Kd.C_drewN ?_ _) | (with_reducible refine Kd.C_drew ?_))); (case side4 => exact HC1.out); (case side5 => repeat (first | exact (Kd.R_reads' HO_8.out).2.2 | (with_reducible refine Kd.C_alloc ?_ _) | (with_reducible refine Kd.C_drewN ?_ _) | (with_reducible refine Kd.C_drew ?_))); (case side6 => exact (Kd.R_reads' HO_8.out).2.1); rintro e w' ⟨rfl, ⟨nd, rfl⟩⟩; refine ⟨_, rfl, ?_⟩) | ((with_reducible refine gate_builtin (b := .append) (xs := #[.tmp 50, .tmp 52]) rfl ?_); at_builtin; refine Kd.R_append Kd.bool (w0 := w) w.heap.size rfl (.tmp 50) (.tmp 52) 44 4 (.bool false) 1 rfl Tryd.underlying44 info4 rfl (by decide) (by omega) u12 x12_2 t197 [.bool t197] (fun _ => True) (fun _ => False) rfl rfl ?aP (fun _ hk => hk.elim) ?aF ?aO ?aB ?aS ?aL ?_; (case aP => exact rfl); (case aB => exact (by repeat (first | (with_reducible first | exact HB.out | apply below_alloc | apply pw_below_drewN | apply below_drew1) | exact HB.out))); (case aF => exact (fun _ _ => trivial)); (case aO => exact (by (with_reducible repeat (first | apply Kd.R_alloc | apply Kd.R_drewN | apply Kd.R_drew)); exact HO_12.out)); (case aS => exact (below_size (by repeat (first | (with_reducible first | exact HB.out | apply below_alloc | apply pw_below_drewN | apply below_drew1) | exact HB.out)))); (case aL => have := LMc14.out; omega); intro v199 w15 ho hb hg hat; rw [← Ny198.out] at ho; have n0_ := Aside0.mk (Kd.R_over' (by (with_reducible repeat (first | apply Kd.R_alloc | apply Kd.R_drewN | apply Kd.R_drew)); exact HO_8.out) (Kd.R_typed (by (with_reducible repeat (first | apply Kd.R_alloc | apply Kd.R_drewN | apply Kd.R_drew)); exact HO_12.out)) (by decide) hg); have n1_ := Aside0.mk (hb); have n2_ := Aside0.mk (ho); clear HO_8; clear HB; clear HO_12; have HO_8 := n0_; have HB := n1_; have HO200 := n2_; clear n0_ n1_ n2_; clear ho hb hg hat))
                    go_roundg k2
                    case measure => have := HK1.out; have := HK2.out; omega
                    case rel => exact ⟨(y198), (wrap64 (x13_2 + 1)), (by first | rfl | (simp; done) | (simp [*]; done)), H', ⟨by have := HK1.out; have := HK2.out; omega⟩, ⟨by (with_reducible repeat (first | apply Kd.R_alloc | apply Kd.R_drewN | apply Kd.R_drew)); exact HO_8.out⟩, ⟨by (with_reducible repeat (first | apply Kd.R_alloc | apply Kd.R_drewN | apply Kd.R_drew)); exact HO200.out⟩, ⟨by repeat (first | (with_reducible first | exact HB.out | apply below_alloc | apply pw_below_drewN | apply below_drew1) | exact HB.out)⟩⟩
                  · rw [if_neg c14] at H
                    exact absurd H (by simp)
                · rw [if_neg c12] at H
                  have c12b0 : decide (x13_2 < (l0.length : Int)) = false := decide_eq_false c12
                  clear c12
                  simp only [Option.some.injEq, Prod.mk.injEq] at H
                  obtain ⟨rfl, rfl⟩ := H
                  go_wp2
                  go_ret2
                  exact ⟨_, by first | rfl | (simp [errW_none, errW_some] <;> rfl) | (simp [*, errW_none, errW_some] <;> rfl), by (with_reducible repeat (first | apply Kd.R_alloc | apply Kd.R_drewN | apply Kd.R_drew)); exact HO_12.out, by repeat (first | (with_reducible first | exact HB.out | apply below_alloc | apply pw_below_drewN | apply below_drew1) | exact HB.out)⟩
          · replace c10 := Bool.eq_false_iff.mpr c10
            subst c10
            have H1 : (some (([] : List Bool), 2)) = some (r1, r2) := by rw [if_neg (show ¬ (false = true) by decide)] at H; exact H
            clear H
            have H := H1
            clear H1
            simp only [Option.some.injEq, Prod.mk.injEq] at H
            obtain ⟨rfl, rfl⟩ := H
            obtain ⟨Ao16, co16, eo16⟩ := Kd.R_slice HO_8.out
            subst eo16
            go_wp2_with (first | ((with_reducible refine gate_callee (f := 49) rfl ?_); refine goesL_ (some 36) rfl rfl Tryd.func49 (by kernel_rfl) rfl #[.int .i64 a2, .int .i64 0, .int .i64 (wrap64 (x10_1 - 1))] rfl (by (try simp only [List.map_toArray, List.map_cons, List.map_nil]); first | done | rfl | (simp only [List.length_drop, List.length_take]; rfl)) ?_; (with_reducible refine (foretellref_In.calls a2 0 (wrap64 (x10_1 - 1)) false _ A9.out).mono ?_); rintro e w' ⟨rfl, ⟨nd, rfl⟩⟩; refine ⟨_, rfl, ?_⟩))
            go_ret2
            exact ⟨_, by first | rfl | (simp [errW_none, errW_some] <;> rfl) | (simp [*, errW_none, errW_some] <;> rfl), by first | exact Kd.R_nil _ _ _ _ _ | exact Kd.N_nil _ _ _ _ _ | exact Kd.V_nil _ _ _ _ _ | exact Kd.Q_nil _ _ _ _ _ | exact Kd.S_nil _ _ _ _ _, by repeat (first | (with_reducible first | exact HB.out | apply below_alloc | apply pw_below_drewN | apply below_drew1) | exact HB.out)⟩
  · rw [if_neg c5] at H
    have c5b0 : (t193 == 0) = false := beq_eq_false_iff_ne.mpr c5
    have c5b1 : (t193 != 0) = true := bne_iff_ne.mpr c5
    simp only [Option.some.injEq, Prod.mk.injEq] at H
    obtain ⟨rfl, rfl⟩ := H
    go_enter Tryd.func34, Tryd.ntmps34
    go_wp2_with (first | ((with_reducible refine gate_callee (f := 29) rfl ?_); refine goesL_ (some 19) rfl rfl Tryd.func29 (by kernel_rfl) rfl #[.slice A0 l0.length c0, .int .i64 (l1.length : Int)] rfl (by (try simp only [List.map_toArray, List.map_cons, List.map_nil]); first | done | rfl | (simp only [List.length_drop, List.length_take]; rfl)) ?_; (with_reducible refine (foretellref_AheadOf.calls k _ _ l0 (l1.length : Int) t192 t193 _ ?side1 ?side2 A4.out).mono ?_); (case side1 => repeat (first | exact HR0.out | (with_reducible refine Kd.C_alloc ?_ _) | (with_reducible refine Kd.C_drewN ?_ _) | (with_reducible refine Kd.C_drew ?_))); (case side2 => exact HC0.out); rintro e w17 ⟨v194, rfl, ho0, hb⟩; refine ⟨_, rfl, ?_⟩; have n0_ := Aside0.mk (Kd.R_lower ho0 (below_size (by repeat (first | (with_reducible first | exact HB.out | apply below_alloc | apply pw_below_drewN | apply below_drew1) | exact HB.out)))); have n1_ := Aside0.mk (below_step (by repeat (first | (with_reducible first | exact HB.out | apply below_alloc | apply pw_below_drewN | apply below_drew1) | exact HB.out)) hb); clear HB; have HO195 := n0_; have HB := n1_; clear n0_ n1_; (try clear hb); (try clear hb2); (try clear hk); (try clear hi); (try clear ho0)))
    go_ret2
    exact ⟨_, by first | rfl | (simp [errW_none, errW_some] <;> rfl) | (simp [*, errW_none, errW_some] <;> rfl), by first | exact Kd.R_nil _ _ _ _ _ | exact Kd.N_nil _ _ _ _ _ | exact Kd.V_nil _ _ _ _ _ | exact Kd.Q_nil _ _ _ _ _ | exact Kd.S_nil _ _ _ _ _, by repeat (first | (with_reducible first | exact HB.out | apply below_alloc | apply pw_below_drewN | apply below_drew1) | exact HB.out)⟩

/-! ### foretelllaw_sameTruths: function 35 -/
def foretelllaw_sameTruths.l0 : Nat → List Bool → List Bool → Int → Option (Bool)
  | 0, _, _, _ => none
  | k + 1, x0, x1, x5 => if x5 < (x0.length : Int) then (if 0 ≤ x5 then (if x5 < (x1.length : Int) then (if ((rdOf false x0 x5) != (rdOf false x1 x5)) = true then (some false) else (foretelllaw_sameTruths.l0 k x0 x1 (wrap64 (x5 + 1)))) else (none)) else (none)) else (some true)
def foretelllaw_sameTruths.f (k : Nat) (l0 : List Bool) (l1 : List Bool) : Option (Bool) := if (l0.length : Int) = (l1.length : Int) then (foretelllaw_sameTruths.l0 k l0 l1 0) else (some false)
theorem foretelllaw_sameTruths.mono_l : ∀ k, (∀ y0 y1 y2, LeO (foretelllaw_sameTruths.l0 k y0 y1 y2) (foretelllaw_sameTruths.l0 (k + 1) y0 y1 y2))
  | 0 => fun _ _ _ r h => by simp [foretelllaw_sameTruths.l0] at h
  | k + 1 => by
    have ih0 := foretelllaw_sameTruths.mono_l k
    · intro y0 y1 y2
      unfold foretelllaw_sameTruths.l0
      repeat' first
      | (with_reducible exact ih0 _ _ _)
      | (with_reducible exact LeO.refl _)
      | (with_reducible exact LeO.none _)
      | (with_reducible refine LeO.ite ?_ ?_)
      | (with_reducible refine LeO.bind ?_ (fun _ => ?_))
      | exact ih0 _ _ _
      | exact LeO.none _
      | refine LeO.ite ?_ ?_
      | refine LeO.bind ?_ (fun _ => ?_)
theorem foretelllaw_sameTruths.mono : ∀ a0 a1 k, LeO (foretelllaw_sameTruths.f k a0 a1) (foretelllaw_sameTruths.f (k + 1) a0 a1) := by
  intro a0 a1 k
  have ih0 := foretelllaw_sameTruths.mono_l k
  unfold foretelllaw_sameTruths.f
  repeat' first
      | (with_reducible exact ih0 _ _ _)
      | (with_reducible exact LeO.refl _)
      | (with_reducible exact LeO.none _)
      | (with_reducible refine LeO.ite ?_ ?_)
      | (with_reducible refine LeO.bind ?_ (fun _ => ?_))
      | exact ih0 _ _ _
      | exact LeO.none _
      | refine LeO.ite ?_ ?_
      | refine LeO.bind ?_ (fun _ => ?_)
set_option maxHeartbeats 8000000 in
set_option maxRecDepth 100000 in
theorem foretelllaw_sameTruths.calls (k : Nat) (A0 : Option Addr) (c0 : Nat) (l0 : List Bool) (A1 : Option Addr) (c1 : Nat) (l1 : List Bool) (r : Bool) (w : World) (hr0 : Kd.C Kd.bool w A0 l0.length l0) (hc0 : l0.length ≤ c0) (hr1 : Kd.C Kd.bool w A1 l1.length l1) (hc1 : l1.length ≤ c1) (h : foretelllaw_sameTruths.f k l0 l1 = some r) :
    Calls Tryd.prog 35 #[.slice A0 l0.length c0, .slice A1 l1.length c1] w fun e w' => e = .returned (.bool r) ∧ Drawn0 w w' := by
  have HR0 := Aside0.mk hr0
  have HC0 := Aside0.mk hc0
  clear hr0 hc0
  have HR1 := Aside0.mk hr1
  have HC1 := Aside0.mk hc1
  clear hr1 hc1
  have H : (if (l0.length : Int) = (l1.length : Int) then (foretelllaw_sameTruths.l0 k l0 l1 0) else (some false)) = some r := h
  clear h
  by_cases c3 : (l0.length : Int) = (l1.length : Int)
  · rw [if_pos c3] at H
    have c3b0 : ((l0.length : Int) == (l1.length : Int)) = true := beq_iff_eq.mpr c3
    have c3b1 : ((l0.length : Int) != (l1.length : Int)) = false := bne_eq_false_iff_eq.mpr c3
    have c3b2 : (l0.length == l1.length) = true := by first | simpa using c3 | (simp at c3 ⊢; omega)
    clear c3
    have H' := Aside0.mk H
    clear H
    go_enter Tryd.func35, Tryd.ntmps35
    go_wp2
    repeat (go_quiet (fail); try go_wp2)
    go_loopg [5] k (fun kq v5 w' => ∃ (x5_1 : Int), v5 = .int .i64 x5_1 ∧ Aside0 (foretelllaw_sameTruths.l0 kq l0 l1 x5_1 = some r) ∧ Aside0 (kq ≤ k) ∧ Drawn0 w w')
    case atStart => exact ⟨(0), (by first | rfl | (simp; done) | (simp [*]; done)), H', ⟨Nat.le_refl _⟩, by repeat (first | exact Drawn0.refl _ | apply Drawn0.step)⟩
    case round =>
      clear H'
      try clear c1
      try clear p2
      try clear c3
      try clear c3b0
      try clear c3b1
      try clear c3b2
      obtain ⟨x5_1, rfl, HA, HK1, ⟨m1, rfl⟩⟩ := hrel
      cases gk with
      | zero => exact absurd HA.out (by simp [foretelllaw_sameTruths.l0])
      | succ k1 =>
        have H := HA.out
        clear HA
        simp only [foretelllaw_sameTruths.l0] at H
        by_cases c4 : x5_1 < (l0.length : Int)
        · rw [if_pos c4] at H
          have c4b0 : decide (x5_1 < (l0.length : Int)) = true := decide_eq_true c4
          clear c4
          by_cases c5 : 0 ≤ x5_1
          · rw [if_pos c5] at H
            have c5b0 : decide (0 ≤ x5_1) = true := decide_eq_true c5
            clear c5
            by_cases c6 : x5_1 < (l1.length : Int)
            · rw [if_pos c6] at H
              have c6b0 : decide (x5_1 < (l1.length : Int)) = true := decide_eq_true c6
              clear c6
              by_cases c7 : ((rdOf false l0 x5_1) != (rdOf false l1 x5_1)) = true
              · rw [if_pos c7] at H
                have c7b0 : ((rdOf false l0 x5_1) != (rdOf false l1 x5_1)) = true := c7
                (try (have c7b1 : decide ((rdOf false l0 x5_1) = (rdOf false l1 x5_1)) = false := by simpa using c7))
                (try (have c7b2 : ((rdOf false l0 x5_1) == (rdOf false l1 x5_1)) = false := by simpa using c7))
                (try (have c7b3 : ¬ ((rdOf false l0 x5_1) = (rdOf false l1 x5_1)) := by simpa using c7))
                clear c7
                obtain rfl := Option.some.inj H
                have p201 : 0 ≤ (x5_1 : Int) := of_decide_eq_true (by first | (with_reducible assumption) | assumption)
                have q201 : x5_1 < (l0.length : Int) := of_decide_eq_true (by first | (with_reducible assumption) | assumption)
                obtain ⟨ad201, e201, hx201_0⟩ := Kd.at_bool HR0.out x5_1 p201 q201
                cases e201
                replace p201 := eq_true p201
                replace q201 := eq_true q201
                have p202 : 0 ≤ (x5_1 : Int) := of_decide_eq_true (by first | (with_reducible assumption) | assumption)
                have q202 : x5_1 < (l1.length : Int) := of_decide_eq_true (by first | (with_reducible assumption) | assumption)
                obtain ⟨ad202, e202, hx202_0⟩ := Kd.at_bool HR1.out x5_1 p202 q202
                cases e202
                replace p202 := eq_true p202
                replace q202 := eq_true q202
                go_wp2
                repeat (go_quiet (fail); try go_wp2)
                go_ret
                exact ⟨by first | rfl | (simp; done) | (simp [*]; done), by repeat (first | exact Drawn0.refl _ | apply Drawn0.step)⟩
              · rw [if_neg c7] at H
                have c7b0 : ((rdOf false l0 x5_1) != (rdOf false l1 x5_1)) = false := by simpa using c7
                (try (have c7b1 : decide ((rdOf false l0 x5_1) = (rdOf false l1 x5_1)) = true := by simpa using c7))
                (try (have c7b2 : ((rdOf false l0 x5_1) == (rdOf false l1 x5_1)) = true := by simpa using c7))
                clear c7
                have H' := Aside0.mk H
                clear H
                have p201 : 0 ≤ (x5_1 : Int) := of_decide_eq_true (by first | (with_reducible assumption) | assumption)
                have q201 : x5_1 < (l0.length : Int) := of_decide_eq_true (by first | (with_reducible assumption) | assumption)
                obtain ⟨ad201, e201, hx201_0⟩ := Kd.at_bool HR0.out x5_1 p201 q201
                cases e201
                replace p201 := eq_true p201
                replace q201 := eq_true q201
                have p202 : 0 ≤ (x5_1 : Int) := of_decide_eq_true (by first | (with_reducible assumption) | assumption)
                have q202 : x5_1 < (l1.length : Int) := of_decide_eq_true (by first | (with_reducible assumption) | assumption)
                obtain ⟨ad202, e202, hx202_0⟩ := Kd.at_bool HR1.out x5_1 p202 q202
                cases e202
                replace p202 := eq_true p202
                replace q202 := eq_true q202
                go_wp2
                repeat (go_quiet (fail); try go_wp2)
                go_roundg k1
                case measure => have := HK1.out; omega
                case rel => exact ⟨(wrap64 (x5_1 + 1)), (by first | rfl | (simp; done) | (simp [*]; done)), H', ⟨by have := HK1.out; omega⟩, by repeat (first | exact Drawn0.refl _ | apply Drawn0.step)⟩
            · rw [if_neg c6] at H
              exact absurd H (by simp)
          · rw [if_neg c5] at H
            exact absurd H (by simp)
        · rw [if_neg c4] at H
          have c4b0 : decide (x5_1 < (l0.length : Int)) = false := decide_eq_false c4
          clear c4
          obtain rfl := Option.some.inj H
          go_wp2
          repeat (go_quiet (fail); try go_wp2)
          go_ret
          exact ⟨by first | rfl | (simp; done) | (simp [*]; done), by repeat (first | exact Drawn0.refl _ | apply Drawn0.step)⟩
  · rw [if_neg c3] at H
    have c3b0 : ((l0.length : Int) == (l1.length : Int)) = false := beq_eq_false_iff_ne.mpr c3
    have c3b1 : ((l0.length : Int) != (l1.length : Int)) = true := bne_iff_ne.mpr c3
    have c3b2 : (l0.length == l1.length) = false := by first | simpa using c3 | (simp at c3 ⊢; omega)
    obtain rfl := Option.some.inj H
    go_enter Tryd.func35, Tryd.ntmps35
    go_wp2
    repeat (go_quiet (fail); try go_wp2)
    go_ret
    exact ⟨by first | rfl | (simp; done) | (simp [*]; done), by repeat (first | exact Drawn0.refl _ | apply Drawn0.step)⟩

/-! ### foretelllaw_LogicTruths: function 10 -/
def foretelllaw_LogicTruths.f (k : Nat) (l0 : List (S63)) (l1 : List Bool) (a2 : Int) : Option (Bool) := (foretelllaw_truths.f l1).bind fun t203 => ((foretelllaw_ops.f l0).bind fun t206 => ((logic_Truths.f t206 t203 a2).bind fun bt209 => ((foretellref_TruthsOf.f k l0 l1 a2).bind fun bt213 => (if bt209.2 = bt213.2 then ((foretelllaw_sameTruths.f k bt209.1 bt213.1).bind fun t217 => (if t217 = true then ((foretelllaw_sameTruths.f k t203 l1).bind fun t218 => (some t218)) else (some false))) else (some false)))))
theorem foretelllaw_LogicTruths.mono : ∀ a0 a1 a2 k, LeO (foretelllaw_LogicTruths.f k a0 a1 a2) (foretelllaw_LogicTruths.f (k + 1) a0 a1 a2) := by
  intro a0 a1 a2 k
  unfold foretelllaw_LogicTruths.f
  repeat' first
      | (with_reducible exact foretelllaw_sameTruths.mono _ _ _)
      | (with_reducible exact foretellref_TruthsOf.mono _ _ _ _)
      | (with_reducible exact LeO.refl _)
      | (with_reducible exact LeO.none _)
      | (with_reducible refine LeO.ite ?_ ?_)
      | (with_reducible refine LeO.bind ?_ (fun _ => ?_))
      | exact foretelllaw_sameTruths.mono _ _ _
      | exact foretellref_TruthsOf.mono _ _ _ _
      | exact LeO.none _
      | refine LeO.ite ?_ ?_
      | refine LeO.bind ?_ (fun _ => ?_)
set_option maxHeartbeats 8000000 in
set_option maxRecDepth 100000 in
theorem foretelllaw_LogicTruths.calls (k : Nat) (A0 : Option Addr) (c0 : Nat) (l0 : List (S63)) (A1 : Option Addr) (c1 : Nat) (l1 : List Bool) (a2 : Int) (r : Bool) (w : World) (hr0 : Kd.C k63 w A0 l0.length l0) (hc0 : l0.length ≤ c0) (hr1 : Kd.C Kd.bool w A1 l1.length l1) (hc1 : l1.length ≤ c1) (hL : LaidG w) (h : foretelllaw_LogicTruths.f k l0 l1 a2 = some r) :
    Calls Tryd.prog 10 #[.slice A0 l0.length c0, .slice A1 l1.length c1, .int .i64 a2] w fun e w' => e = .returned (.bool r) ∧ Below w.heap.size w w' := by
  have HLd := Aside0.mk hL
  clear hL
  have HR0 := Aside0.mk hr0
  have HC0 := Aside0.mk hc0
  clear hr0 hc0
  have HR1 := Aside0.mk hr1
  have HC1 := Aside0.mk hc1
  clear hr1 hc1
  have HB := Aside0.mk (Below.refl w.heap.size w)
  have H : ((foretelllaw_truths.f l1).bind fun t203 => ((foretelllaw_ops.f l0).bind fun t206 => ((logic_Truths.f t206 t203 a2).bind fun bt209 => ((foretellref_TruthsOf.f k l0 l1 a2).bind fun bt213 => (if bt209.2 = bt213.2 then ((foretelllaw_sameTruths.f k bt209.1 bt213.1).bind fun t217 => (if t217 = true then ((foretelllaw_sameTruths.f k t203 l1).bind fun t218 => (some t218)) else (some false))) else (some false)))))) = some r := h
  clear h
  replace H := Option.bind_eq_some_iff.mp H
  obtain ⟨t203, A40, H⟩ := H
  replace H : ((foretelllaw_ops.f l0).bind fun t206 => ((logic_Truths.f t206 t203 a2).bind fun bt209 => ((foretellref_TruthsOf.f k l0 l1 a2).bind fun bt213 => (if bt209.2 = bt213.2 then ((foretelllaw_sameTruths.f k bt209.1 bt213.1).bind fun t217 => (if t217 = true then ((foretelllaw_sameTruths.f k t203 l1).bind fun t218 => (some t218)) else (some false))) else (some false))))) = some r := H
  have A4 := Aside0.mk A40
  clear A40
  replace H := Option.bind_eq_some_iff.mp H
  obtain ⟨t206, A50, H⟩ := H
  replace H : ((logic_Truths.f t206 t203 a2).bind fun bt209 => ((foretellref_TruthsOf.f k l0 l1 a2).bind fun bt213 => (if bt209.2 = bt213.2 then ((foretelllaw_sameTruths.f k bt209.1 bt213.1).bind fun t217 => (if t217 = true then ((foretelllaw_sameTruths.f k t203 l1).bind fun t218 => (some t218)) else (some false))) else (some false)))) = some r := H
  have A5 := Aside0.mk A50
  clear A50
  replace H := Option.bind_eq_some_iff.mp H
  obtain ⟨⟨t209, t210⟩, A60, H⟩ := H
  replace H : ((foretellref_TruthsOf.f k l0 l1 a2).bind fun bt213 => (if t210 = bt213.2 then ((foretelllaw_sameTruths.f k t209 bt213.1).bind fun t217 => (if t217 = true then ((foretelllaw_sameTruths.f k t203 l1).bind fun t218 => (some t218)) else (some false))) else (some false))) = some r := H
  have A6 := Aside0.mk A60
  clear A60
  replace H := Option.bind_eq_some_iff.mp H
  obtain ⟨⟨t213, t214⟩, A70, H⟩ := H
  replace H : (if t210 = t214 then ((foretelllaw_sameTruths.f k t209 t213).bind fun t217 => (if t217 = true then ((foretelllaw_sameTruths.f k t203 l1).bind fun t218 => (some t218)) else (some false))) else (some false)) = some r := H
  have A7 := Aside0.mk A70
  clear A70
  by_cases c8 : t210 = t214
  · rw [if_pos c8] at H
    have c8b0 : (t210 == t214) = true := beq_iff_eq.mpr c8
    have c8b1 : (t210 != t214) = false := bne_eq_false_iff_eq.mpr c8
    clear c8
    replace H := Option.bind_eq_some_iff.mp H
    obtain ⟨t217, A90, H⟩ := H
    replace H : (if t217 = true then ((foretelllaw_sameTruths.f k t203 l1).bind fun t218 => (some t218)) else (some false)) = some r := H
    have A9 := Aside0.mk A90
    clear A90
    by_cases c10 : t217 = true
    · subst c10
      have H1 : ((foretelllaw_sameTruths.f k t203 l1).bind fun t218 => (some t218)) = some r := by rw [if_pos rfl] at H; exact H
      clear H
      have H := H1
      clear H1
      replace H := Option.bind_eq_some_iff.mp H
      obtain ⟨t218, A110, H⟩ := H
      replace H : (some t218) = some r := H
      have A11 := Aside0.mk A110
      clear A110
      obtain rfl := Option.some.inj H
      go_enter Tryd.func10, Tryd.ntmps10
      go_wp2_with (first | ((with_reducible refine gate_callee (f := 32) rfl ?_); refine goesL_ (some 13) rfl rfl Tryd.func32 (by kernel_rfl) rfl #[.slice A1 l1.length c1] rfl (by (try simp only [List.map_toArray, List.map_cons, List.map_nil]); first | done | rfl | (simp only [List.length_drop, List.length_take]; rfl)) ?_; (with_reducible refine (foretelllaw_truths.calls _ _ l1 t203 _ ?side1 ?side2 A4.out).mono ?_); (case side1 => repeat (first | exact HR1.out | (with_reducible refine Kd.C_alloc ?_ _) | (with_reducible refine Kd.C_drewN ?_ _) | (with_reducible refine Kd.C_drew ?_))); (case side2 => exact HC1.out); rintro e w12 ⟨v204, rfl, ho0, hb⟩; refine ⟨_, rfl, ?_⟩; have n0_ := Aside0.mk (Kd.R_lower ho0 (below_size (by repeat (first | (with_reducible first | exact HB.out | apply below_alloc | apply pw_below_drewN | apply below_drew1) | exact HB.out)))); have n1_ := Aside0.mk (below_step (by repeat (first | (with_reducible first | exact HB.out | apply below_alloc | apply pw_below_drewN | apply below_drew1) | exact HB.out)) hb); clear HB; have HO205 := n0_; have HB := n1_; clear n0_ n1_; (try clear hb); (try clear hb2); (try clear hk); (try clear hi); (try clear ho0)) | ((with_reducible refine gate_callee (f := 16) rfl ?_); refine goesL_ (some 16) rfl rfl Tryd.func16 (by kernel_rfl) rfl #[.slice A0 l0.length c0] rfl (by (try simp only [List.map_toArray, List.map_cons, List.map_nil]); first | done | rfl | (simp only [List.length_drop, List.length_take]; rfl)) ?_; (with_reducible refine (foretelllaw_ops.calls _ _ l0 t206 _ ?side1 ?side2 A5.out).mono ?_); (case side1 => repeat (first | exact (Kd.C_below HR0.out HB.out) | (with_reducible refine Kd.C_alloc ?_ _) | (with_reducible refine Kd.C_drewN ?_ _) | (with_reducible refine Kd.C_drew ?_))); (case side2 => exact HC0.out); rintro e w13 ⟨v207, rfl, ho0, hb⟩; refine ⟨_, rfl, ?_⟩; have n0_ := Aside0.mk (Kd.R_below (by (with_reducible repeat (first | apply Kd.R_alloc | apply Kd.R_drewN | apply Kd.R_drew)); exact HO205.out) hb); have n1_ := Aside0.mk (Kd.R_lower ho0 (below_size (by repeat (first | (with_reducible first | exact HB.out | apply below_alloc | apply pw_below_drewN | apply below_drew1) | exact HB.out)))); have n2_ := Aside0.mk (below_step (by repeat (first | (with_reducible first | exact HB.out | apply below_alloc | apply pw_below_drewN | apply below_drew1) | exact HB.out)) hb); clear HO205; clear HB; have HO205 := n0_; have HO208 := n1_; have HB := n2_; clear n0_ n1_ n2_; (try clear hb); (try clear hb2); (try clear hk); (try clear hi); (try clear ho0); obtain ⟨Ao14, co14, eo14⟩ := Kd.R_slice HO208.out; subst eo14; obtain ⟨Ao15, co15, eo15⟩ := Kd.R_slice HO205.out; subst eo15) | ((with_reducible refine gate_callee (f := 33) rfl ?_); refine goesL_ (some 19) rfl rfl Tryd.func33 (by kernel_rfl) rfl #[.slice Ao14 t206.length co14, .slice Ao15 t203.length co15, .int .i64 a2] rfl (by (try simp only [List.map_toArray, List.map_cons, List.map_nil]); first | done | rfl | (simp only [List.length_drop, List.length_take]; rfl)) ?_; (with_reducible refine (logic_Truths.calls _ _ t206 _ _ t203 a2 t209 t210 _ ?side1 ?side2 ?side3 ?side4 ?side5 A6.out).mono ?_); (case side1 => repeat (first | exact (Kd.R_reads' HO208.out).2.2 | (with_reducible refine Kd.C_alloc ?_ _) | (with_reducible refine Kd.C_drewN ?_ _) | (with_reducible refine Kd.C_drew ?_))); (case side2 => exact (Kd.R_reads' HO208.out).2.1); (case side3 => repeat (first | exact (Kd.R_reads' HO205.out).2.2 | (with_reducible refine Kd.C_alloc ?_ _) | (with_reducible refine Kd.C_drewN ?_ _) | (with_reducible refine Kd.C_drew ?_))); (case side4 => exact (Kd.R_reads' HO205.out).2.1); (case side5 => first | (refine LaidG.below HLd.out ?_; repeat (first | (with_reducible exact HB.out) | (with_reducible exact Below.refl _ _) | apply below_alloc | apply pw_below_drewN | apply below_drew1); done) | exact LaidG.below HLd.out (by repeat (first | (with_reducible first | exact HB.out | apply below_alloc | apply pw_below_drewN | apply below_drew1) | exact HB.out))); rintro e w16 ⟨v211, rfl, ho0, hb⟩; refine ⟨_, rfl, ?_⟩; have n0_ := Aside0.mk (Kd.R_elder' (by (with_reducible repeat (first | apply Kd.R_alloc | apply Kd.R_drewN | apply Kd.R_drew)); exact HO205.out) (Kd.R_base ho0) hb); have n1_ := Aside0.mk (Kd.R_below (by (with_reducible repeat (first | apply Kd.R_alloc | apply Kd.R_drewN | apply Kd.R_drew)); exact HO208.out) hb); have n2_ := Aside0.mk (Kd.R_lower (Kd.R_new' ho0 (Kd.R_lt (by (with_reducible repeat (first | apply Kd.R_alloc | apply Kd.R_drewN | apply Kd.R_drew)); exact HO205.out))) (below_size (by repeat (first | (with_reducible first | exact HB.out | apply below_alloc | apply pw_below_drewN | apply below_drew1) | exact HB.out)))); have n3_ := Aside0.mk (below_step (by repeat (first | (with_reducible first | exact HB.out | apply below_alloc | apply pw_below_drewN | apply below_drew1) | exact HB.out)) hb); clear HO205; clear HO208; clear HB; have HO205 := n0_; have HO208 := n1_; have HO212 := n2_; have HB := n3_; clear n0_ n1_ n2_ n3_; (try clear hb); (try clear hb2); (try clear hk); (try clear hi); (try clear ho0)) | ((with_reducible refine gate_callee (f := 34) rfl ?_); refine goesL_ (some 26) rfl rfl Tryd.func34 (by kernel_rfl) rfl #[.slice A0 l0.length c0, .slice A1 l1.length c1, .int .i64 a2] rfl (by (try simp only [List.map_toArray, List.map_cons, List.map_nil]); first | done | rfl | (simp only [List.length_drop, List.length_take]; rfl)) ?_; (with_reducible refine (foretellref_TruthsOf.calls k _ _ l0 _ _ l1 a2 t213 t214 _ ?side1 ?side2 ?side3 ?side4 A7.out).mono ?_); (case side1 => repeat (first | exact (Kd.C_below HR0.out HB.out) | (with_reducible refine Kd.C_alloc ?_ _) | (with_reducible refine Kd.C_drewN ?_ _) | (with_reducible refine Kd.C_drew ?_))); (case side2 => exact HC0.out); (case side3 => repeat (first | exact (Kd.C_below HR1.out HB.out) | (with_reducible refine Kd.C_alloc ?_ _) | (with_reducible refine Kd.C_drewN ?_ _) | (with_reducible refine Kd.C_drew ?_))); (case side4 => exact HC1.out); rintro e w17 ⟨v215, rfl, ho0, hb⟩; refine ⟨_, rfl, ?_⟩; have n0_ := Aside0.mk (Kd.R_elder' (by (with_reducible repeat (first | apply Kd.R_alloc | apply Kd.R_drewN | apply Kd.R_drew)); exact HO205.out) (Kd.R_base ho0) hb); have n1_ := Aside0.mk (Kd.R_below (by (with_reducible repeat (first | apply Kd.R_alloc | apply Kd.R_drewN | apply Kd.R_drew)); exact HO208.out) hb); have n2_ := Aside0.mk (Kd.R_elder' (by (with_reducible repeat (first | apply Kd.R_alloc | apply Kd.R_drewN | apply Kd.R_drew)); exact HO212.out) (Kd.R_base ho0) hb); have n3_ := Aside0.mk (Kd.R_lower (Kd.R_new' (Kd.R_new' ho0 (Kd.R_lt (by (with_reducible repeat (first | apply Kd.R_alloc | apply Kd.R_drewN | apply Kd.R_drew)); exact HO205.out))) (Kd.R_lt (by (with_reducible repeat (first | apply Kd.R_alloc | apply Kd.R_drewN | apply Kd.R_drew)); exact HO212.out))) (below_size (by repeat (first | (with_reducible first | exact HB.out | apply below_alloc | apply pw_below_drewN | apply below_drew1) | exact HB.out)))); have n4_ := Aside0.mk (below_step (by repeat (first | (with_reducible first | exact HB.out | apply below_alloc | apply pw_below_drewN | apply below_drew1) | exact HB.out)) hb); clear HO205; clear HO208; clear HO212; clear HB; have HO205 := n0_; have HO208 := n1_; have HO212 := n2_; have HO216 := n3_; have HB := n4_; clear n0_ n1_ n2_ n3_ n4_; (try clear hb); (try clear hb2); (try clear hk); (try clear hi); (try clear ho0); obtain ⟨Ao18, co18, eo18⟩ := Kd.R_slice HO212.out; subst eo18; obtain ⟨Ao19, co19, eo19⟩ := Kd.R_slice HO216.out; subst eo19) | (go_at_call 35; (with_reducible refine (foretelllaw_sameTruths.calls k _ _ t209 _ _ t213 true _ ?side1 ?side2 ?side3 ?side4 A9.out).mono ?_); (case side1 => repeat (first | exact (Kd.R_reads' HO212.out).2.2 | (with_reducible refine Kd.C_alloc ?_ _) | (with_reducible refine Kd.C_drewN ?_ _) | (with_reducible refine Kd.C_drew ?_))); (case side2 => exact (Kd.R_reads' HO212.out).2.1); (case side3 => repeat (first | exact (Kd.R_reads' HO216.out).2.2 | (with_reducible refine Kd.C_alloc ?_ _) | (with_reducible refine Kd.C_drewN ?_ _) | (with_reducible refine Kd.C_drew ?_))); (case side4 => exact (Kd.R_reads' HO216.out).2.1); rintro e w' ⟨rfl, ⟨nd, rfl⟩⟩) | (go_at_call 35; (with_reducible refine (foretelllaw_sameTruths.calls k _ _ t203 _ _ l1 t218 _ ?side1 ?side2 ?side3 ?side4 A11.out).mono ?_); (case side1 => repeat (first | exact (Kd.R_reads' HO205.out).2.2 | (with_reducible refine Kd.C_alloc ?_ _) | (with_reducible refine Kd.C_drewN ?_ _) | (with_reducible refine Kd.C_drew ?_))); (case side2 => exact (Kd.R_reads' HO205.out).2.1); (case side3 => repeat (first | exact (Kd.C_below HR1.out (by repeat (first | (with_reducible first | exact HB.out | apply below_alloc | apply pw_below_drewN | apply below_drew1) | exact HB.out))) | (with_reducible refine Kd.C_alloc ?_ _) | (with_reducible refine Kd.C_drewN ?_ _) | (with_reducible refine Kd.C_drew ?_))); (case side4 => exact HC1.out); rintro e w' ⟨rfl, ⟨nd, rfl⟩⟩))
      go_ret
      exact ⟨by first | rfl | (simp [errW_none, errW_some] <;> rfl) | (simp [*, errW_none, errW_some] <;> rfl), by repeat (first | (with_reducible first | exact HB.out | apply below_alloc | apply pw_below_drewN | apply below_drew1) | exact HB.out)⟩
    · replace c10 := Bool.eq_false_iff.mpr c10
      subst c10
      have H1 : (some false) = some r := by rw [if_neg (show ¬ (false = true) by decide)] at H; exact H
      clear H
      have H := H1
      clear H1
      obtain rfl := Option.some.inj H
      go_enter Tryd.func10, Tryd.ntmps10
      go_wp2_with (first | ((with_reducible refine gate_callee (f := 32) rfl ?_); refine goesL_ (some 13) rfl rfl Tryd.func32 (by kernel_rfl) rfl #[.slice A1 l1.length c1] rfl (by (try simp only [List.map_toArray, List.map_cons, List.map_nil]); first | done | rfl | (simp only [List.length_drop, List.length_take]; rfl)) ?_; (with_reducible refine (foretelllaw_truths.calls _ _ l1 t203 _ ?side1 ?side2 A4.out).mono ?_); (case side1 => repeat (first | exact HR1.out | (with_reducible refine Kd.C_alloc ?_ _) | (with_reducible refine Kd.C_drewN ?_ _) | (with_reducible refine Kd.C_drew ?_))); (case side2 => exact HC1.out); rintro e w20 ⟨v204, rfl, ho0, hb⟩; refine ⟨_, rfl, ?_⟩; have n0_ := Aside0.mk (Kd.R_lower ho0 (below_size (by repeat (first | (with_reducible first | exact HB.out | apply below_alloc | apply pw_below_drewN | apply below_drew1) | exact HB.out)))); have n1_ := Aside0.mk (below_step (by repeat (first | (with_reducible first | exact HB.out | apply below_alloc | apply pw_below_drewN | apply below_drew1) | exact HB.out)) hb); clear HB; have HO205 := n0_; have HB := n1_; clear n0_ n1_; (try clear hb); (try clear hb2); (try clear hk); (try clear hi); (try clear ho0)) | ((with_reducible refine gate_callee (f := 16) rfl ?_); refine goesL_ (some 16) rfl rfl Tryd.func16 (by kernel_rfl) rfl #[.slice A0 l0.length c0] rfl (by (try simp only [List.map_toArray, List.map_cons, List.map_nil]); first | done | rfl | (simp only [List.length_drop, List.length_take]; rfl)) ?_; (with_reducible refine (foretelllaw_ops.calls _ _ l0 t206 _ ?side1 ?side2 A5.out).mono ?_); (case side1 => repeat (first | exact (Kd.C_below HR0.out HB.out) | (with_reducible refine Kd.C_alloc ?_ _) | (with_reducible refine Kd.C_drewN ?_ _) | (with_reducible refine Kd.C_drew ?_))); (case side2 => exact HC0.out); rintro e w21 ⟨v207, rfl, ho0, hb⟩; refine ⟨_, rfl, ?_⟩; have n0_ := Aside0.mk (Kd.R_below (by (with_reducible repeat (first | apply Kd.R_alloc | apply Kd.R_drewN | apply Kd.R_drew)); exact HO205.out) hb); have n1_ := Aside0.mk (Kd.R_lower ho0 (below_size (by repeat (first | (with_reducible first | exact HB.out | apply below_alloc | apply pw_below_drewN | apply below_drew1) | exact HB.out)))); have n2_ := Aside0.mk (below_step (by repeat (first | (with_reducible first | exact HB.out | apply below_alloc | apply pw_below_drewN | apply below_drew1) | exact HB.out)) hb); clear HO205; clear HB; have HO205 := n0_; have HO208 := n1_; have HB := n2_; clear n0_ n1_ n2_; (try clear hb); (try clear hb2); (try clear hk); (try clear hi); (try clear ho0); obtain ⟨Ao22, co22, eo22⟩ := Kd.R_slice HO208.out; subst eo22; obtain ⟨Ao23, co23, eo23⟩ := Kd.R_slice HO205.out; subst eo23) | ((with_reducible refine gate_callee (f := 33) rfl ?_); refine goesL_ (some 19) rfl rfl Tryd.func33 (by kernel_rfl) rfl #[.slice Ao22 t206.length co22, .slice Ao23 t203.length co23, .int .i64 a2] rfl (by (try simp only [List.map_toArray, List.map_cons, List.map_nil]); first | done | rfl | (simp only [List.length_drop, List.length_take]; rfl)) ?_; (with_reducible refine (logic_Truths.calls _ _ t206 _ _ t203 a2 t209 t210 _ ?side1 ?side2 ?side3 ?side4 ?side5 A6.out).mono ?_); (case side1 => repeat (first | exact (Kd.R_reads' HO208.out).2.2 | (with_reducible refine Kd.C_alloc ?_ _) | (with_reducible refine Kd.C_drewN ?_ _) | (with_reducible refine Kd.C_drew ?_))); (case side2 => exact (Kd.R_reads' HO208.out).2.1); (case side3 => repeat (first | exact (Kd.R_reads' HO205.out).2.2 | (with_reducible refine Kd.C_alloc ?_ _) | (with_reducible refine Kd.C_drewN ?_ _) | (with_reducible refine Kd.C_drew ?_))); (case side4 => exact (Kd.R_reads' HO205.out).2.1); (case side5 => first | (refine LaidG.below HLd.out ?_; repeat (first | (with_reducible exact HB.out) | (with_reducible exact Below.refl _ _) | apply below_alloc | apply pw_below_drewN | apply below_drew1); done) | exact LaidG.below HLd.out (by repeat (first | (with_reducible first | exact HB.out | apply below_alloc | apply pw_below_drewN | apply below_drew1) | exact HB.out))); rintro e w24 ⟨v211, rfl, ho0, hb⟩; refine ⟨_, rfl, ?_⟩; have n0_ := Aside0.mk (Kd.R_elder' (by (with_reducible repeat (first | apply Kd.R_alloc | apply Kd.R_drewN | apply Kd.R_drew)); exact HO205.out) (Kd.R_base ho0) hb); have n1_ := Aside0.mk (Kd.R_below (by (with_reducible repeat (first | apply Kd.R_alloc | apply Kd.R_drewN | apply Kd.R_drew)); exact HO208.out) hb); have n2_ := Aside0.mk (Kd.R_lower (Kd.R_new' ho0 (Kd.R_lt (by (with_reducible repeat (first | apply Kd.R_alloc | apply Kd.R_drewN | apply Kd.R_drew)); exact HO205.out))) (below_size (by repeat (first | (with_reducible first | exact HB.out | apply below_alloc | apply pw_below_drewN | apply below_drew1) | exact HB.out)))); have n3_ := Aside0.mk (below_step (by repeat (first | (with_reducible first | exact HB.out | apply below_alloc | apply pw_below_drewN | apply below_drew1) | exact HB.out)) hb); clear HO205; clear HO208; clear HB; have HO205 := n0_; have HO208 := n1_; have HO212 := n2_; have HB := n3_; clear n0_ n1_ n2_ n3_; (try clear hb); (try clear hb2); (try clear hk); (try clear hi); (try clear ho0)) | ((with_reducible refine gate_callee (f := 34) rfl ?_); refine goesL_ (some 26) rfl rfl Tryd.func34 (by kernel_rfl) rfl #[.slice A0 l0.length c0, .slice A1 l1.length c1, .int .i64 a2] rfl (by (try simp only [List.map_toArray, List.map_cons, List.map_nil]); first | done | rfl | (simp only [List.length_drop, List.length_take]; rfl)) ?_; (with_reducible refine (foretellref_TruthsOf.calls k _ _ l0 _ _ l1 a2 t213 t214 _ ?side1 ?side2 ?side3 ?side4 A7.out).mono ?_); (case side1 => repeat (first | exact (Kd.C_below HR0.out HB.out) | (with_reducible refine Kd.C_alloc ?_ _) | (with_reducible refine Kd.C_drewN ?_ _) | (with_reducible refine Kd.C_drew ?_))); (case side2 => exact HC0.out); (case side3 => repeat (first | exact (Kd.C_below HR1.out HB.out) | (with_reducible refine Kd.C_alloc ?_ _) | (with_reducible refine Kd.C_drewN ?_ _) | (with_reducible refine Kd.C_drew ?_))); (case side4 => exact HC1.out); rintro e w25 ⟨v215, rfl, ho0, hb⟩; refine ⟨_, rfl, ?_⟩; have n0_ := Aside0.mk (Kd.R_elder' (by (with_reducible repeat (first | apply Kd.R_alloc | apply Kd.R_drewN | apply Kd.R_drew)); exact HO205.out) (Kd.R_base ho0) hb); have n1_ := Aside0.mk (Kd.R_below (by (with_reducible repeat (first | apply Kd.R_alloc | apply Kd.R_drewN | apply Kd.R_drew)); exact HO208.out) hb); have n2_ := Aside0.mk (Kd.R_elder' (by (with_reducible repeat (first | apply Kd.R_alloc | apply Kd.R_drewN | apply Kd.R_drew)); exact HO212.out) (Kd.R_base ho0) hb); have n3_ := Aside0.mk (Kd.R_lower (Kd.R_new' (Kd.R_new' ho0 (Kd.R_lt (by (with_reducible repeat (first | apply Kd.R_alloc | apply Kd.R_drewN | apply Kd.R_drew)); exact HO205.out))) (Kd.R_lt (by (with_reducible repeat (first | apply Kd.R_alloc | apply Kd.R_drewN | apply Kd.R_drew)); exact HO212.out))) (below_size (by repeat (first | (with_reducible first | exact HB.out | apply below_alloc | apply pw_below_drewN | apply below_drew1) | exact HB.out)))); have n4_ := Aside0.mk (below_step (by repeat (first | (with_reducible first | exact HB.out | apply below_alloc | apply pw_below_drewN | apply below_drew1) | exact HB.out)) hb); clear HO205; clear HO208; clear HO212; clear HB; have HO205 := n0_; have HO208 := n1_; have HO212 := n2_; have HO216 := n3_; have HB := n4_; clear n0_ n1_ n2_ n3_ n4_; (try clear hb); (try clear hb2); (try clear hk); (try clear hi); (try clear ho0); obtain ⟨Ao26, co26, eo26⟩ := Kd.R_slice HO212.out; subst eo26; obtain ⟨Ao27, co27, eo27⟩ := Kd.R_slice HO216.out; subst eo27) | (go_at_call 35; (with_reducible refine (foretelllaw_sameTruths.calls k _ _ t209 _ _ t213 false _ ?side1 ?side2 ?side3 ?side4 A9.out).mono ?_); (case side1 => repeat (first | exact (Kd.R_reads' HO212.out).2.2 | (with_reducible refine Kd.C_alloc ?_ _) | (with_reducible refine Kd.C_drewN ?_ _) | (with_reducible refine Kd.C_drew ?_))); (case side2 => exact (Kd.R_reads' HO212.out).2.1); (case side3 => repeat (first | exact (Kd.R_reads' HO216.out).2.2 | (with_reducible refine Kd.C_alloc ?_ _) | (with_reducible refine Kd.C_drewN ?_ _) | (with_reducible refine Kd.C_drew ?_))); (case side4 => exact (Kd.R_reads' HO216.out).2.1); rintro e w' ⟨rfl, ⟨nd, rfl⟩⟩))
      go_ret
      exact ⟨by first | rfl | (simp [errW_none, errW_some] <;> rfl) | (simp [*, errW_none, errW_some] <;> rfl), by repeat (first | (with_reducible first | exact HB.out | apply below_alloc | apply pw_below_drewN | apply below_drew1) | exact HB.out)⟩
  · rw [if_neg c8] at H
    have c8b0 : (t210 == t214) = false := beq_eq_false_iff_ne.mpr c8
    have c8b1 : (t210 != t214) = true := bne_iff_ne.mpr c8
    obtain rfl := Option.some.inj H
    go_enter Tryd.func10, Tryd.ntmps10
    go_wp2_with (first | ((with_reducible refine gate_callee (f := 32) rfl ?_); refine goesL_ (some 13) rfl rfl Tryd.func32 (by kernel_rfl) rfl #[.slice A1 l1.length c1] rfl (by (try simp only [List.map_toArray, List.map_cons, List.map_nil]); first | done | rfl | (simp only [List.length_drop, List.length_take]; rfl)) ?_; (with_reducible refine (foretelllaw_truths.calls _ _ l1 t203 _ ?side1 ?side2 A4.out).mono ?_); (case side1 => repeat (first | exact HR1.out | (with_reducible refine Kd.C_alloc ?_ _) | (with_reducible refine Kd.C_drewN ?_ _) | (with_reducible refine Kd.C_drew ?_))); (case side2 => exact HC1.out); rintro e w28 ⟨v204, rfl, ho0, hb⟩; refine ⟨_, rfl, ?_⟩; have n0_ := Aside0.mk (Kd.R_lower ho0 (below_size (by repeat (first | (with_reducible first | exact HB.out | apply below_alloc | apply pw_below_drewN | apply below_drew1) | exact HB.out)))); have n1_ := Aside0.mk (below_step (by repeat (first | (with_reducible first | exact HB.out | apply below_alloc | apply pw_below_drewN | apply below_drew1) | exact HB.out)) hb); clear HB; have HO205 := n0_; have HB := n1_; clear n0_ n1_; (try clear hb); (try clear hb2); (try clear hk); (try clear hi); (try clear ho0)) | ((with_reducible refine gate_callee (f := 16) rfl ?_); refine goesL_ (some 16) rfl rfl Tryd.func16 (by kernel_rfl) rfl #[.slice A0 l0.length c0] rfl (by (try simp only [List.map_toArray, List.map_cons, List.map_nil]); first | done | rfl | (simp only [List.length_drop, List.length_take]; rfl)) ?_; (with_reducible refine (foretelllaw_ops.calls _ _ l0 t206 _ ?side1 ?side2 A5.out).mono ?_); (case side1 => repeat (first | exact (Kd.C_below HR0.out HB.out) | (with_reducible refine Kd.C_alloc ?_ _) | (with_reducible refine Kd.C_drewN ?_ _) | (with_reducible refine Kd.C_drew ?_))); (case side2 => exact HC0.out); rintro e w29 ⟨v207, rfl, ho0, hb⟩; refine ⟨_, rfl, ?_⟩; have n0_ := Aside0.mk (Kd.R_below (by (with_reducible repeat (first | apply Kd.R_alloc | apply Kd.R_drewN | apply Kd.R_drew)); exact HO205.out) hb); have n1_ := Aside0.mk (Kd.R_lower ho0 (below_size (by repeat (first | (with_reducible first | exact HB.out | apply below_alloc | apply pw_below_drewN | apply below_drew1) | exact HB.out)))); have n2_ := Aside0.mk (below_step (by repeat (first | (with_reducible first | exact HB.out | apply below_alloc | apply pw_below_drewN | apply below_drew1) | exact HB.out)) hb); clear HO205; clear HB; have HO205 := n0_; have HO208 := n1_; have HB := n2_; clear n0_ n1_ n2_; (try clear hb); (try clear hb2); (try clear hk); (try clear hi); (try clear ho0); obtain ⟨Ao30, co30, eo30⟩ := Kd.R_slice HO208.out; subst eo30; obtain ⟨Ao31, co31, eo31⟩ := Kd.R_slice HO205.out; subst eo31) | ((with_reducible refine gate_callee (f := 33) rfl ?_); refine goesL_ (some 19) rfl rfl Tryd.func33 (by kernel_rfl) rfl #[.slice Ao30 t206.length co30, .slice Ao31 t203.length co31, .int .i64 a2] rfl (by (try simp only [List.map_toArray, List.map_cons, List.map_nil]); first | done | rfl | (simp only [List.length_drop, List.length_take]; rfl)) ?_; (with_reducible refine (logic_Truths.calls _ _ t206 _ _ t203 a2 t209 t210 _ ?side1 ?side2 ?side3 ?side4 ?side5 A6.out).mono ?_); (case side1 => repeat (first | exact (Kd.R_reads' HO208.out).2.2 | (with_reducible refine Kd.C_alloc ?_ _) | (with_reducible refine Kd.C_drewN ?_ _) | (with_reducible refine Kd.C_drew ?_))); (case side2 => exact (Kd.R_reads' HO208.out).2.1); (case side3 => repeat (first | exact (Kd.R_reads' HO205.out).2.2 | (with_reducible refine Kd.C_alloc ?_ _) | (with_reducible refine Kd.C_drewN ?_ _) | (with_reducible refine Kd.C_drew ?_))); (case side4 => exact (Kd.R_reads' HO205.out).2.1); (case side5 => first | (refine LaidG.below HLd.out ?_; repeat (first | (with_reducible exact HB.out) | (with_reducible exact Below.refl _ _) | apply below_alloc | apply pw_below_drewN | apply below_drew1); done) | exact LaidG.below HLd.out (by repeat (first | (with_reducible first | exact HB.out | apply below_alloc | apply pw_below_drewN | apply below_drew1) | exact HB.out))); rintro e w32 ⟨v211, rfl, ho0, hb⟩; refine ⟨_, rfl, ?_⟩; have n0_ := Aside0.mk (Kd.R_elder' (by (with_reducible repeat (first | apply Kd.R_alloc | apply Kd.R_drewN | apply Kd.R_drew)); exact HO205.out) (Kd.R_base ho0) hb); have n1_ := Aside0.mk (Kd.R_below (by (with_reducible repeat (first | apply Kd.R_alloc | apply Kd.R_drewN | apply Kd.R_drew)); exact HO208.out) hb); have n2_ := Aside0.mk (Kd.R_lower (Kd.R_new' ho0 (Kd.R_lt (by (with_reducible repeat (first | apply Kd.R_alloc | apply Kd.R_drewN | apply Kd.R_drew)); exact HO205.out))) (below_size (by repeat (first | (with_reducible first | exact HB.out | apply below_alloc | apply pw_below_drewN | apply below_drew1) | exact HB.out)))); have n3_ := Aside0.mk (below_step (by repeat (first | (with_reducible first | exact HB.out | apply below_alloc | apply pw_below_drewN | apply below_drew1) | exact HB.out)) hb); clear HO205; clear HO208; clear HB; have HO205 := n0_; have HO208 := n1_; have HO212 := n2_; have HB := n3_; clear n0_ n1_ n2_ n3_; (try clear hb); (try clear hb2); (try clear hk); (try clear hi); (try clear ho0)) | ((with_reducible refine gate_callee (f := 34) rfl ?_); refine goesL_ (some 26) rfl rfl Tryd.func34 (by kernel_rfl) rfl #[.slice A0 l0.length c0, .slice A1 l1.length c1, .int .i64 a2] rfl (by (try simp only [List.map_toArray, List.map_cons, List.map_nil]); first | done | rfl | (simp only [List.length_drop, List.length_take]; rfl)) ?_; (with_reducible refine (foretellref_TruthsOf.calls k _ _ l0 _ _ l1 a2 t213 t214 _ ?side1 ?side2 ?side3 ?side4 A7.out).mono ?_); (case side1 => repeat (first | exact (Kd.C_below HR0.out HB.out) | (with_reducible refine Kd.C_alloc ?_ _) | (with_reducible refine Kd.C_drewN ?_ _) | (with_reducible refine Kd.C_drew ?_))); (case side2 => exact HC0.out); (case side3 => repeat (first | exact (Kd.C_below HR1.out HB.out) | (with_reducible refine Kd.C_alloc ?_ _) | (with_reducible refine Kd.C_drewN ?_ _) | (with_reducible refine Kd.C_drew ?_))); (case side4 => exact HC1.out); rintro e w33 ⟨v215, rfl, ho0, hb⟩; refine ⟨_, rfl, ?_⟩; have n0_ := Aside0.mk (Kd.R_elder' (by (with_reducible repeat (first | apply Kd.R_alloc | apply Kd.R_drewN | apply Kd.R_drew)); exact HO205.out) (Kd.R_base ho0) hb); have n1_ := Aside0.mk (Kd.R_below (by (with_reducible repeat (first | apply Kd.R_alloc | apply Kd.R_drewN | apply Kd.R_drew)); exact HO208.out) hb); have n2_ := Aside0.mk (Kd.R_elder' (by (with_reducible repeat (first | apply Kd.R_alloc | apply Kd.R_drewN | apply Kd.R_drew)); exact HO212.out) (Kd.R_base ho0) hb); have n3_ := Aside0.mk (Kd.R_lower (Kd.R_new' (Kd.R_new' ho0 (Kd.R_lt (by (with_reducible repeat (first | apply Kd.R_alloc | apply Kd.R_drewN | apply Kd.R_drew)); exact HO205.out))) (Kd.R_lt (by (with_reducible repeat (first | apply Kd.R_alloc | apply Kd.R_drewN | apply Kd.R_drew)); exact HO212.out))) (below_size (by repeat (first | (with_reducible first | exact HB.out | apply below_alloc | apply pw_below_drewN | apply below_drew1) | exact HB.out)))); have n4_ := Aside0.mk (below_step (by repeat (first | (with_reducible first | exact HB.out | apply below_alloc | apply pw_below_drewN | apply below_drew1) | exact HB.out)) hb); clear HO205; clear HO208; clear HO212; clear HB; have HO205 := n0_; have HO208 := n1_; have HO212 := n2_; have HO216 := n3_; have HB := n4_; clear n0_ n1_ n2_ n3_ n4_; (try clear hb); (try clear hb2); (try clear hk); (try clear hi); (try clear ho0)))
    go_ret
    exact ⟨by first | rfl | (simp [errW_none, errW_some] <;> rfl) | (simp [*, errW_none, errW_some] <;> rfl), by repeat (first | (with_reducible first | exact HB.out | apply below_alloc | apply pw_below_drewN | apply below_drew1) | exact HB.out)⟩

end Go.Proofs.YtmlkkpkaaicobaaDoor.L
