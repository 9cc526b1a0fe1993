-- WRITTEN by this session's own program (wip/pp.py) over the translation. Not trusted: Lean checks it.
import Derived.Test.YtmlkkpkaaicobaaDoorEx0
import Derived.Test.YtmlkkpkaaicobaaDoorEx2
import Derived.Test.YtmlkkpkaaicobaaDoorEx3
import Derived.Test.YtmlkkpkaaicobaaDoorEx4
import Derived.Test.YtmlkkpkaaicobaaDoorMEval
import Derived.Test.YtmlkkpkaaicobaaDoorMapIs
namespace Go.Proofs.YtmlkkpkaaicobaaDoor.E
open Go.RowKit Go.Proofs.YtmlkkpkaaicobaaDoorW.PrintWords Go.Proofs.YtmlkkpkaaicobaaDoorW.PrintLast Go.Proofs.YtmlkkpkaaicobaaDoorW.PrintMore
attribute [local go_sem] max2_int min2_int max_two min_two max_three min_three max_four min_four   -- for this text's walks alone
set_option linter.unusedVariables false
set_option linter.unusedSimpArgs false

-- IMPORT Derived.Test.YtmlkkpkaaicobaaDoorMEval
-- IMPORT Derived.Test.YtmlkkpkaaicobaaDoorMapIs
/-! ### expr_Eval: function 41 -/
section
open Go.Proofs.YtmlkkpkaaicobaaDoor.Hand
open Go.Proofs.YtmlkkpkaaicobaaDoor.Pure (doVal pushS)
/-- A machine: its stack is the call's own, behind it. -/
structure MachOK (w : World) (gm : Nat) (v : Value) (stk : List Int) (A : Option Addr) (c : Nat) (env : List Int) : Prop where
  cells : w.heap[gm]? = some (.cells #[v, .slice A env.length c] 77 (0, 0))
  own : Kd.R (Kd.int .i64) 3 w (gm + 1) (fun _ => True) v stk
  env : ∀ W, Below gm w W → Kd.C (Kd.int .i64) W A env.length env
  len : stk.length ≤ 60
theorem below_le {B B' : Nat} {w w' : World} (h : Below B w w') (hb : B' ≤ B) (hs : B ≤ w.heap.size) : Below B' w w' := h.mono hb
theorem pop_calls (gm : Nat) (v : Value) (s : List Int) (x : Int) (A : Option Addr) (c : Nat) (env : List Int) (w : World) (hM : MachOK w gm v (s ++ [x]) A c env) :
    Calls Tryd.prog 62 #[.pointer (some ⟨gm, 0, none⟩)] w fun e w' => e = .returned (.int .i64 x) ∧ ∃ v', MachOK w' gm v' s A c env ∧ Below gm w w' ∧ w.grownBy w' (some gm) := by
  obtain ⟨hc, ho, he, hl⟩ := hM
  have hlen : (s ++ [x]).length = s.length + 1 := by simp
  rw [hlen] at hl
  obtain ⟨A1, c1, hv⟩ := Kd.R_slice ho
  rw [hlen] at hv
  subst hv
  obtain ⟨hn, hcap, hC⟩ := Kd.R_reads' ho
  obtain ⟨ad, ead, k1⟩ := Kd.at_int hC (s.length : Int) (by omega) (by omega)
  subst ead
  have hrd : rd (s ++ [x]) (s.length : Int) = x := by simp [rd]
  rw [hrd, Int.toNat_natCast] at k1
  have k0 : w.cell? ⟨gm, 0, none⟩ = some (.slice (some ad) (s.length + 1) c1) := blk_cell hc 0
  have z0 : w.frozen? ⟨gm, 0, none⟩ = false := blk_frozen hc 0
  have e1 : IntKind.i64.wrap (((s.length + 1 : Nat) : Int) - 1) = (s.length : Int) := by rw [IntKind.wrap_i64]; omega
  have e2 : IntKind.i64.wrap (s.length : Int) = (s.length : Int) := by rw [IntKind.wrap_i64]; omega
  have hq1 : decide ((s.length : Int) < ((s.length + 1 : Nat) : Int)) = true := decide_eq_true (by omega)
  have hp1 : (0 ≤ (s.length : Int)) = True := eq_true (by omega)
  obtain ⟨i0, hi0, hz0, hz1, hz2⟩ := info_parts info3
  have hcut := cut_to (P := Tryd.prog) 28 3 .i64 Tryd.underlying28 hi0 (some ad) (s.length + 1) c1 (s.length : Int) (by omega) (by omega) hcap
  rw [Int.toNat_natCast] at hcut
  clear hi0 hz0 hz1 hz2
  have HC := Aside0.mk hc
  have HO := Aside0.mk ho
  have HE := Aside0.mk he
  have HL := Aside0.mk hl
  clear hc ho he hC hl hn
  go_enter Tryd.func62, Tryd.ntmps62
  go_wp2
  go_region
  go_wp2
  go_region
  go_wp2
  go_ret
  have hb : Below gm w (w.setCell ⟨gm, 0, none⟩ (.slice (some ad) s.length c1)).drew.drew := ((Below.refl gm w).setCell (Nat.le_refl _) _).drew.drew
  refine ⟨rfl, .slice (some ad) s.length c1, ⟨?_, ?_, fun W hW => HE.out W (hb.trans hW), by have := HL.out; omega⟩, hb, grownBy_drewN (grownBy_drewN (grownBy_set (World.grownBy.refl w _) 0 _) 1) 1⟩
  · show (w.setCell ⟨gm, 0, none⟩ (.slice (some ad) s.length c1)).heap[gm]? = _
    rw [blk_set HC.out]
    rfl
  · have h := Kd.R_take HO.out (show s.length ≤ (s ++ [x]).length by simp)
    rw [List.take_left' rfl] at h
    exact Kd.R_drew (Kd.R_drew (R_setb h (show gm < gm + 1 by omega) _))
section
variable (ga gb : Nat) (a b : Int) (w : World) (ha : w.heap[ga]? = some (.cells #[.int .i64 a] 3 (0, 0))) (hb : w.heap[gb]? = some (.cells #[.int .i64 b] 3 (0, 0)))
include ha hb
theorem do_add (h0 : -1000000 ≤ a ∧ a ≤ 1000000) (h1 : -1000000 ≤ b ∧ b ≤ 1000000) : Calls Tryd.prog 65 #[.pointer (some ⟨ga, 0, none⟩), .pointer (some ⟨gb, 0, none⟩)] w fun e w' => e = .returned (.int .i64 (a + b)) ∧ w' = w := by
  have k1 : w.cell? ⟨ga, 0, none⟩ = some (.int .i64 a) := blk_cell ha 0
  have k2 : w.cell? ⟨gb, 0, none⟩ = some (.int .i64 b) := blk_cell hb 0
  have e1 : IntKind.i64.wrap (a + b) = a + b := by rw [IntKind.wrap_i64]; omega
  go_enter Tryd.func65, Tryd.ntmps65
  go_wp2
  go_ret
  exact ⟨rfl, rfl⟩
theorem do_sub (h0 : -1000000 ≤ a ∧ a ≤ 1000000) (h1 : -1000000 ≤ b ∧ b ≤ 1000000) : Calls Tryd.prog 66 #[.pointer (some ⟨ga, 0, none⟩), .pointer (some ⟨gb, 0, none⟩)] w fun e w' => e = .returned (.int .i64 (a - b)) ∧ w' = w := by
  have k1 : w.cell? ⟨ga, 0, none⟩ = some (.int .i64 a) := blk_cell ha 0
  have k2 : w.cell? ⟨gb, 0, none⟩ = some (.int .i64 b) := blk_cell hb 0
  have e1 : IntKind.i64.wrap (a - b) = a - b := by rw [IntKind.wrap_i64]; omega
  go_enter Tryd.func66, Tryd.ntmps66
  go_wp2
  go_ret
  exact ⟨rfl, rfl⟩
theorem do_mul (h0 : -1000000 ≤ a ∧ a ≤ 1000000) (h1 : -1000000 ≤ b ∧ b ≤ 1000000) : Calls Tryd.prog 67 #[.pointer (some ⟨ga, 0, none⟩), .pointer (some ⟨gb, 0, none⟩)] w fun e w' => e = .returned (.int .i64 (a * b)) ∧ w' = w := by
  have k1 : w.cell? ⟨ga, 0, none⟩ = some (.int .i64 a) := blk_cell ha 0
  have k2 : w.cell? ⟨gb, 0, none⟩ = some (.int .i64 b) := blk_cell hb 0
  have hm : (a * b).natAbs ≤ 1000000 * 1000000 := by rw [Int.natAbs_mul]; exact Nat.mul_le_mul (by omega) (by omega)
  have e1 : IntKind.i64.wrap (a * b) = a * b := by rw [IntKind.wrap_i64]; omega
  clear hm
  go_enter Tryd.func67, Tryd.ntmps67
  go_wp2
  go_ret
  exact ⟨rfl, rfl⟩
theorem do_eq : Calls Tryd.prog 68 #[.pointer (some ⟨ga, 0, none⟩), .pointer (some ⟨gb, 0, none⟩)] w fun e w' => e = .returned (.int .i64 (if a = b then 1 else 0)) ∧ w' = w := by
  have k1 : w.cell? ⟨ga, 0, none⟩ = some (.int .i64 a) := blk_cell ha 0
  have k2 : w.cell? ⟨gb, 0, none⟩ = some (.int .i64 b) := blk_cell hb 0
  by_cases h : a = b
  · have hq : (a == b) = true := beq_iff_eq.2 h
    rw [if_pos h]
    clear h
    go_enter Tryd.func68, Tryd.ntmps68
    go_wp2
    go_ret
    exact ⟨rfl, rfl⟩
  · have hq : (a == b) = false := beq_eq_false_iff_ne.2 h
    rw [if_neg h]
    go_enter Tryd.func68, Tryd.ntmps68
    go_wp2
    go_ret
    exact ⟨rfl, rfl⟩
theorem do_lt : Calls Tryd.prog 70 #[.pointer (some ⟨ga, 0, none⟩), .pointer (some ⟨gb, 0, none⟩)] w fun e w' => e = .returned (.int .i64 (if a < b then 1 else 0)) ∧ w' = w := by
  have k1 : w.cell? ⟨ga, 0, none⟩ = some (.int .i64 a) := blk_cell ha 0
  have k2 : w.cell? ⟨gb, 0, none⟩ = some (.int .i64 b) := blk_cell hb 0
  by_cases h : a < b
  · have hq : decide (a < b) = true := decide_eq_true h
    rw [if_pos h]
    go_enter Tryd.func70, Tryd.ntmps70
    go_wp2
    go_ret
    exact ⟨rfl, rfl⟩
  · have hq : decide (a < b) = false := decide_eq_false h
    rw [if_neg h]
    go_enter Tryd.func70, Tryd.ntmps70
    go_wp2
    go_ret
    exact ⟨rfl, rfl⟩
theorem do_and : Calls Tryd.prog 71 #[.pointer (some ⟨ga, 0, none⟩), .pointer (some ⟨gb, 0, none⟩)] w fun e w' => e = .returned (.int .i64 (Go.bits .and .i64 a b)) ∧ w' = w := by
  have k1 : w.cell? ⟨ga, 0, none⟩ = some (.int .i64 a) := blk_cell ha 0
  have k2 : w.cell? ⟨gb, 0, none⟩ = some (.int .i64 b) := blk_cell hb 0
  go_enter Tryd.func71, Tryd.ntmps71
  go_wp2
  go_ret
  exact ⟨rfl, rfl⟩
theorem do_or : Calls Tryd.prog 72 #[.pointer (some ⟨ga, 0, none⟩), .pointer (some ⟨gb, 0, none⟩)] w fun e w' => e = .returned (.int .i64 (Go.bits .or .i64 a b)) ∧ w' = w := by
  have k1 : w.cell? ⟨ga, 0, none⟩ = some (.int .i64 a) := blk_cell ha 0
  have k2 : w.cell? ⟨gb, 0, none⟩ = some (.int .i64 b) := blk_cell hb 0
  go_enter Tryd.func72, Tryd.ntmps72
  go_wp2
  go_ret
  exact ⟨rfl, rfl⟩
end
/-- The closure that the map holds at a kind. -/
def cloN (kd : Int) : Nat := if kd = 3 then 65 else if kd = 4 then 66 else if kd = 5 then 67 else if kd = 6 then 68 else if kd = 7 then 70 else if kd = 8 then 71 else 72
theorem clo_calls (kd : Int) (hk : 3 ≤ kd ∧ kd ≤ 9) (ga gb : Nat) (a b : Int) (w : World) (ha : w.heap[ga]? = some (.cells #[.int .i64 a] 3 (0, 0))) (hb : w.heap[gb]? = some (.cells #[.int .i64 b] 3 (0, 0)))
    (h0 : -1000000 ≤ a ∧ a ≤ 1000000) (h1 : -1000000 ≤ b ∧ b ≤ 1000000) : Calls Tryd.prog (cloN kd) #[.pointer (some ⟨ga, 0, none⟩), .pointer (some ⟨gb, 0, none⟩)] w fun e w' => e = .returned (.int .i64 (doVal kd a b)) ∧ w' = w := by
  have : kd = 3 ∨ kd = 4 ∨ kd = 5 ∨ kd = 6 ∨ kd = 7 ∨ kd = 8 ∨ kd = 9 := by omega
  rcases this with e | e | e | e | e | e | e <;> subst e
  · exact do_add ga gb a b w ha hb h0 h1
  · exact do_sub ga gb a b w ha hb h0 h1
  · exact do_mul ga gb a b w ha hb h0 h1
  · exact do_eq ga gb a b w ha hb
  · exact do_lt ga gb a b w ha hb
  · exact do_and ga gb a b w ha hb
  · exact do_or ga gb a b w ha hb
/-- What a call of do leaves, n being what it pushes on s. -/
def DoPost (n : Int) (s : List Int) (gm : Nat) (A : Option Addr) (c : Nat) (env : List Int) (w : World) (e : Ending) (w' : World) : Prop :=
  Below gm w w' ∧ match pushS n s with
    | .error cc => e = .panicked [{ v := .iface 22 (.int .i64 cc), recovered := false }]
    | .ok s' => e = .returned (.tuple #[]) ∧ ∃ v', MachOK w' gm v' s' A c env
theorem MachOK.mono {w w' : World} {gm : Nat} {v : Value} {stk : List Int} {A : Option Addr} {c : Nat} {env : List Int} (h : MachOK w gm v stk A c env) (hb : Below w.heap.size w w') : MachOK w' gm v stk A c env :=
  ⟨(hb.block gm (blk_lt h.cells)).trans h.cells, Kd.R_below h.own hb, fun W hW => h.env W (((hb.mono (Nat.le_of_lt (blk_lt h.cells)))).trans hW), h.len⟩
theorem MachOK.pushed {w w1 : World} {gm : Nat} {v v1 : Value} {stk : List Int} {n : Int} {A : Option Addr} {c : Nat} {env : List Int} (h : MachOK w gm v stk A c env) (hl : stk.length < 60) (ho : Kd.R (Kd.int .i64) 3 w1 (gm + 1) (fun _ => True) v1 (stk ++ [n])) (hb : Below (gm + 1) w w1) :
    MachOK (w1.setCell ⟨gm, 0, none⟩ v1) gm v1 (stk ++ [n]) A c env := by
  have hg : w1.heap[gm]? = some (.cells #[v, .slice A env.length c] 77 (0, 0)) := (hb.block gm (by omega)).trans h.cells
  refine ⟨?_, R_setb ho (show gm < gm + 1 by omega) _, fun W hW => h.env W (((hb.mono (Nat.le_succ gm)).setCell (p := ⟨gm, 0, none⟩) (Nat.le_refl _) _).trans hW), by simp; omega⟩
  rw [blk_set hg]
  rfl
set_option maxHeartbeats 2000000 in
theorem do_num (gm : Nat) (v : Value) (s : List Int) (A : Option Addr) (c : Nat) (env : List Int) (o : S63) (hk : o.f0 = 1) (w0 : World) (hl : s.length < 60) (hM0 : MachOK w0 gm v (s) A c env) :
    Calls Tryd.prog 61 #[.pointer (some ⟨gm, 0, none⟩), .agg #[.int .i64 o.f0, .int .i64 o.f1]] w0 (DoPost (o.f1) s gm A c env w0) := by
  have kb1 : (o.f0 == 1) = true := beq_iff_eq.2 hk
  obtain ⟨A1, c1, ev⟩ := Kd.R_slice hM0.own
  subst ev
  have HM0 := Aside0.mk hM0
  have HL := Aside0.mk hl
  clear hM0 hl hk
  by_cases h1 : o.f1 < -1000000
  · have q1 : decide (o.f1 < -1000000) = true := decide_eq_true h1
    have HP := Aside0.mk (show pushS (o.f1) s = .error 8 by unfold pushS; rw [if_pos (.inl h1)])
    go_enter Tryd.func61, Tryd.ntmps61
    go_wp2_with (first | ((with_reducible refine gate_dst (N := 3) rfl ?_); refine box_event ?hg (N := 3) ?hd (cs := #[.int .i64 o.f0, .int .i64 o.f1]) (t := 63) ?hr ?_; (case hd => rfl); (case hg => rfl); (case hr => first | (go_simp; done) | (go_simp; rfl)); intro gb hg w hbox hb; have HM := Aside0.mk (HM0.out.mono hb); have HBW := Aside0.mk (hb.mono (Nat.le_of_lt (blk_lt HM0.out.cells))); have HZ := Aside0.mk (show gm + 1 ≤ w.heap.size from blk_lt HM.out.cells); have k0 : w.cell? ⟨gb, 0, none⟩ = some (.int .i64 o.f0) := blk_cell hbox 0; have k1 : w.cell? ⟨gb, 1, none⟩ = some (.int .i64 o.f1) := blk_cell hbox 1; have c0 : w.cell? ⟨gm, 0, none⟩ = some (.slice A1 (s).length c1) := blk_cell HM.out.cells 0; clear hb hbox hg))
    exact ⟨rfl, by unfold DoPost; exact ⟨HBW.out, by rw [HP.out]⟩⟩
  have q1 : decide (o.f1 < -1000000) = false := decide_eq_false h1
  by_cases h2 : o.f1 > 1000000
  · have q2 : decide (o.f1 > 1000000) = true := decide_eq_true h2
    have HP := Aside0.mk (show pushS (o.f1) s = .error 8 by unfold pushS; rw [if_pos (.inr h2)])
    go_enter Tryd.func61, Tryd.ntmps61
    go_wp2_with (first | ((with_reducible refine gate_dst (N := 3) rfl ?_); refine box_event ?hg (N := 3) ?hd (cs := #[.int .i64 o.f0, .int .i64 o.f1]) (t := 63) ?hr ?_; (case hd => rfl); (case hg => rfl); (case hr => first | (go_simp; done) | (go_simp; rfl)); intro gb hg w hbox hb; have HM := Aside0.mk (HM0.out.mono hb); have HBW := Aside0.mk (hb.mono (Nat.le_of_lt (blk_lt HM0.out.cells))); have HZ := Aside0.mk (show gm + 1 ≤ w.heap.size from blk_lt HM.out.cells); have k0 : w.cell? ⟨gb, 0, none⟩ = some (.int .i64 o.f0) := blk_cell hbox 0; have k1 : w.cell? ⟨gb, 1, none⟩ = some (.int .i64 o.f1) := blk_cell hbox 1; have c0 : w.cell? ⟨gm, 0, none⟩ = some (.slice A1 (s).length c1) := blk_cell HM.out.cells 0; clear hb hbox hg))
    exact ⟨rfl, by unfold DoPost; exact ⟨HBW.out, by rw [HP.out]⟩⟩
  have q2 : decide (o.f1 > 1000000) = false := decide_eq_false h2
  have HP := Aside0.mk (show pushS (o.f1) s = .ok (s ++ [o.f1]) by unfold pushS; rw [if_neg (by omega)])
  go_enter Tryd.func61, Tryd.ntmps61
  go_wp2_with (first | ((with_reducible refine gate_dst (N := 3) rfl ?_); refine box_event ?hg (N := 3) ?hd (cs := #[.int .i64 o.f0, .int .i64 o.f1]) (t := 63) ?hr ?_; (case hd => rfl); (case hg => rfl); (case hr => first | (go_simp; done) | (go_simp; rfl)); intro gb hg w hbox hb; have HM := Aside0.mk (HM0.out.mono hb); have HBW := Aside0.mk (hb.mono (Nat.le_of_lt (blk_lt HM0.out.cells))); have HZ := Aside0.mk (show gm + 1 ≤ w.heap.size from blk_lt HM.out.cells); have k0 : w.cell? ⟨gb, 0, none⟩ = some (.int .i64 o.f0) := blk_cell hbox 0; have k1 : w.cell? ⟨gb, 1, none⟩ = some (.int .i64 o.f1) := blk_cell hbox 1; have c0 : w.cell? ⟨gm, 0, none⟩ = some (.slice A1 (s).length c1) := blk_cell HM.out.cells 0; clear hb hbox hg) | (at_builtin; refine Kd.R_append (Kd.int .i64) (gm + 1) rfl (.tmp 60) (.tmp 62) 28 3 (.int .i64 0) 8 rfl Tryd.underlying28 info3 rfl (by decide) (by decide) (.slice A1 (s).length c1) (s) (o.f1) [.int .i64 (o.f1)] (fun _ => True) (fun _ => False) rfl rfl ?aP (fun _ h => h.elim) (fun _ _ => trivial) ?aO (Below.refl _ _) ?aB ?aL ?_; (case aP => rfl); (case aO => exact HM.out.own); (case aB => exact HZ.out); (case aL => have := HL.out; omega); intro v1 w1 ho hb hg hat; obtain ⟨A2, c2, e2⟩ := Kd.R_slice ho; subst e2; have HO1 := Aside0.mk ho; have HB1 := Aside0.mk hb; have kc : w1.cell? ⟨gm, 0, none⟩ = some (.slice A1 (s).length c1) := blk_cell ((hb.block gm (Nat.lt_succ_self gm)).trans HM.out.cells) 0; have kz : w1.frozen? ⟨gm, 0, none⟩ = false := blk_frozen ((hb.block gm (Nat.lt_succ_self gm)).trans HM.out.cells) 0; clear ho hb hg hat))
  go_end0
  have ho := HO1.out
  rw [show ((s) ++ [o.f1]).length = (s).length + 1 by simp] at ho
  have hb := HBW.out.trans ((HB1.out.mono (Nat.le_succ gm)).setCell (p := ⟨gm, 0, none⟩) (Nat.le_refl _) (.slice A2 ((s).length + 1) c2))
  unfold DoPost
  exact ⟨hb, by rw [HP.out]; exact ⟨rfl, _, HM.out.pushed HL.out ho HB1.out⟩⟩
set_option maxHeartbeats 2000000 in
theorem do_not (gm : Nat) (v : Value) (s : List Int) (x : Int) (A : Option Addr) (c : Nat) (env : List Int) (o : S63) (hk : o.f0 = 10) (hx : -1000000 ≤ x ∧ x ≤ 1000000) (w0 : World) (hl : s.length < 60) (hM0 : MachOK w0 gm v (s ++ [x]) A c env) :
    Calls Tryd.prog 61 #[.pointer (some ⟨gm, 0, none⟩), .agg #[.int .i64 o.f0, .int .i64 o.f1]] w0 (DoPost (1 - x) s gm A c env w0) := by
  have kb1 : (o.f0 == 1) = false := by rw [beq_eq_false_iff_ne]; omega
  have kb2 : (o.f0 == 2) = false := by rw [beq_eq_false_iff_ne]; omega
  have kb11 : (o.f0 == 11) = false := by rw [beq_eq_false_iff_ne]; omega
  have kb12 : (o.f0 == 12) = false := by rw [beq_eq_false_iff_ne]; omega
  have kb10 : (o.f0 == 10) = true := beq_iff_eq.2 hk
  obtain ⟨A1, c1, ev⟩ := Kd.R_slice hM0.own
  subst ev
  have HM0 := Aside0.mk hM0
  have HL := Aside0.mk hl
  have e1 : IntKind.i64.wrap (1 - x) = 1 - x := by rw [IntKind.wrap_i64]; omega
  clear hM0 hl hk
  have h1 : ¬ (1 - x < -1000000) := by omega
  have q1 : decide (1 - x < -1000000) = false := decide_eq_false h1
  by_cases h2 : 1 - x > 1000000
  · have q2 : decide (1 - x > 1000000) = true := decide_eq_true h2
    have HP := Aside0.mk (show pushS (1 - x) s = .error 8 by unfold pushS; rw [if_pos (.inr h2)])
    go_enter Tryd.func61, Tryd.ntmps61
    go_wp2_with (first | ((with_reducible refine gate_dst (N := 3) rfl ?_); refine box_event ?hg (N := 3) ?hd (cs := #[.int .i64 o.f0, .int .i64 o.f1]) (t := 63) ?hr ?_; (case hd => rfl); (case hg => rfl); (case hr => first | (go_simp; done) | (go_simp; rfl)); intro gb hg w hbox hb; have HM := Aside0.mk (HM0.out.mono hb); have HBP1 := Aside0.mk (hb.mono (Nat.le_of_lt (blk_lt HM0.out.cells))); have HZ := Aside0.mk (show gm + 1 ≤ w.heap.size from blk_lt HM.out.cells); have k0 : w.cell? ⟨gb, 0, none⟩ = some (.int .i64 o.f0) := blk_cell hbox 0; have k1 : w.cell? ⟨gb, 1, none⟩ = some (.int .i64 o.f1) := blk_cell hbox 1; have c0 : w.cell? ⟨gm, 0, none⟩ = some (.slice A1 (s ++ [x]).length c1) := blk_cell HM.out.cells 0; clear hb hbox hg) | (go_at_call 62; (with_reducible refine (pop_calls gm _ (s) x A c env _ HM.out).mono ?_); rintro e wp1 ⟨rfl, vp1, hmp, hbp, hgp⟩; obtain ⟨Ap1, cp1, evp⟩ := Kd.R_slice hmp.own; subst evp; have HMP1 := Aside0.mk hmp; have HBP1 := Aside0.mk (HBP1.out.trans hbp); have HZP1 := Aside0.mk (show gm + 1 ≤ wp1.heap.size from blk_lt hmp.cells); have c0p1 : wp1.cell? ⟨gm, 0, none⟩ = some (.slice Ap1 (s).length cp1) := blk_cell hmp.cells 0; clear hmp hbp hgp))
    exact ⟨rfl, by unfold DoPost; exact ⟨HBP1.out, by rw [HP.out]⟩⟩
  have q2 : decide (1 - x > 1000000) = false := decide_eq_false h2
  have HP := Aside0.mk (show pushS (1 - x) s = .ok (s ++ [1 - x]) by unfold pushS; rw [if_neg (by omega)])
  go_enter Tryd.func61, Tryd.ntmps61
  go_wp2_with (first | ((with_reducible refine gate_dst (N := 3) rfl ?_); refine box_event ?hg (N := 3) ?hd (cs := #[.int .i64 o.f0, .int .i64 o.f1]) (t := 63) ?hr ?_; (case hd => rfl); (case hg => rfl); (case hr => first | (go_simp; done) | (go_simp; rfl)); intro gb hg w hbox hb; have HM := Aside0.mk (HM0.out.mono hb); have HBW := Aside0.mk (hb.mono (Nat.le_of_lt (blk_lt HM0.out.cells))); have HZ := Aside0.mk (show gm + 1 ≤ w.heap.size from blk_lt HM.out.cells); have k0 : w.cell? ⟨gb, 0, none⟩ = some (.int .i64 o.f0) := blk_cell hbox 0; have k1 : w.cell? ⟨gb, 1, none⟩ = some (.int .i64 o.f1) := blk_cell hbox 1; have c0 : w.cell? ⟨gm, 0, none⟩ = some (.slice A1 (s ++ [x]).length c1) := blk_cell HM.out.cells 0; clear hb hbox hg) | (go_at_call 62; (with_reducible refine (pop_calls gm _ (s) x A c env _ HM.out).mono ?_); rintro e wp1 ⟨rfl, vp1, hmp, hbp, hgp⟩; obtain ⟨Ap1, cp1, evp⟩ := Kd.R_slice hmp.own; subst evp; have HMP1 := Aside0.mk hmp; have HBP1 := Aside0.mk (HBW.out.trans hbp); have HZP1 := Aside0.mk (show gm + 1 ≤ wp1.heap.size from blk_lt hmp.cells); have c0p1 : wp1.cell? ⟨gm, 0, none⟩ = some (.slice Ap1 (s).length cp1) := blk_cell hmp.cells 0; clear hmp hbp hgp) | (at_builtin; refine Kd.R_append (Kd.int .i64) (gm + 1) rfl (.tmp 60) (.tmp 62) 28 3 (.int .i64 0) 8 rfl Tryd.underlying28 info3 rfl (by decide) (by decide) (.slice Ap1 (s).length cp1) (s) (1 - x) [.int .i64 (1 - x)] (fun _ => True) (fun _ => False) rfl rfl ?aP (fun _ h => h.elim) (fun _ _ => trivial) ?aO (Below.refl _ _) ?aB ?aL ?_; (case aP => rfl); (case aO => exact HMP1.out.own); (case aB => exact HZP1.out); (case aL => have := HL.out; omega); intro v1 w1 ho hb hg hat; obtain ⟨A2, c2, e2⟩ := Kd.R_slice ho; subst e2; have HO1 := Aside0.mk ho; have HB1 := Aside0.mk hb; have kc : w1.cell? ⟨gm, 0, none⟩ = some (.slice Ap1 (s).length cp1) := blk_cell ((hb.block gm (Nat.lt_succ_self gm)).trans HMP1.out.cells) 0; have kz : w1.frozen? ⟨gm, 0, none⟩ = false := blk_frozen ((hb.block gm (Nat.lt_succ_self gm)).trans HMP1.out.cells) 0; clear ho hb hg hat))
  go_end0
  have ho := HO1.out
  rw [show ((s) ++ [1 - x]).length = (s).length + 1 by simp] at ho
  have hb := HBP1.out.trans ((HB1.out.mono (Nat.le_succ gm)).setCell (p := ⟨gm, 0, none⟩) (Nat.le_refl _) (.slice A2 ((s).length + 1) c2))
  unfold DoPost
  exact ⟨hb, by rw [HP.out]; exact ⟨rfl, _, HMP1.out.pushed HL.out ho HB1.out⟩⟩
set_option maxHeartbeats 2000000 in
theorem do_yes (gm : Nat) (v : Value) (s : List Int) (A : Option Addr) (c : Nat) (env : List Int) (o : S63) (hk : o.f0 = 11) (w0 : World) (hl : s.length < 60) (hM0 : MachOK w0 gm v (s) A c env) :
    Calls Tryd.prog 61 #[.pointer (some ⟨gm, 0, none⟩), .agg #[.int .i64 o.f0, .int .i64 o.f1]] w0 (DoPost ((1 : Int)) s gm A c env w0) := by
  have kb1 : (o.f0 == 1) = false := by rw [beq_eq_false_iff_ne]; omega
  have kb2 : (o.f0 == 2) = false := by rw [beq_eq_false_iff_ne]; omega
  have kb11 : (o.f0 == 11) = true := beq_iff_eq.2 hk
  obtain ⟨A1, c1, ev⟩ := Kd.R_slice hM0.own
  subst ev
  have HM0 := Aside0.mk hM0
  have HL := Aside0.mk hl
  clear hM0 hl hk
  have h1 : ¬ ((1 : Int) < -1000000) := by omega
  have q1 : decide ((1 : Int) < -1000000) = false := decide_eq_false h1
  have h2 : ¬ ((1 : Int) > 1000000) := by omega
  have q2 : decide ((1 : Int) > 1000000) = false := decide_eq_false h2
  have HP := Aside0.mk (show pushS ((1 : Int)) s = .ok (s ++ [(1 : Int)]) by unfold pushS; rw [if_neg (by omega)])
  go_enter Tryd.func61, Tryd.ntmps61
  go_wp2_with (first | ((with_reducible refine gate_dst (N := 3) rfl ?_); refine box_event ?hg (N := 3) ?hd (cs := #[.int .i64 o.f0, .int .i64 o.f1]) (t := 63) ?hr ?_; (case hd => rfl); (case hg => rfl); (case hr => first | (go_simp; done) | (go_simp; rfl)); intro gb hg w hbox hb; have HM := Aside0.mk (HM0.out.mono hb); have HBW := Aside0.mk (hb.mono (Nat.le_of_lt (blk_lt HM0.out.cells))); have HZ := Aside0.mk (show gm + 1 ≤ w.heap.size from blk_lt HM.out.cells); have k0 : w.cell? ⟨gb, 0, none⟩ = some (.int .i64 o.f0) := blk_cell hbox 0; have k1 : w.cell? ⟨gb, 1, none⟩ = some (.int .i64 o.f1) := blk_cell hbox 1; have c0 : w.cell? ⟨gm, 0, none⟩ = some (.slice A1 (s).length c1) := blk_cell HM.out.cells 0; clear hb hbox hg) | (at_builtin; refine Kd.R_append (Kd.int .i64) (gm + 1) rfl (.tmp 60) (.tmp 62) 28 3 (.int .i64 0) 8 rfl Tryd.underlying28 info3 rfl (by decide) (by decide) (.slice A1 (s).length c1) (s) ((1 : Int)) [.int .i64 ((1 : Int))] (fun _ => True) (fun _ => False) rfl rfl ?aP (fun _ h => h.elim) (fun _ _ => trivial) ?aO (Below.refl _ _) ?aB ?aL ?_; (case aP => rfl); (case aO => exact HM.out.own); (case aB => exact HZ.out); (case aL => have := HL.out; omega); intro v1 w1 ho hb hg hat; obtain ⟨A2, c2, e2⟩ := Kd.R_slice ho; subst e2; have HO1 := Aside0.mk ho; have HB1 := Aside0.mk hb; have kc : w1.cell? ⟨gm, 0, none⟩ = some (.slice A1 (s).length c1) := blk_cell ((hb.block gm (Nat.lt_succ_self gm)).trans HM.out.cells) 0; have kz : w1.frozen? ⟨gm, 0, none⟩ = false := blk_frozen ((hb.block gm (Nat.lt_succ_self gm)).trans HM.out.cells) 0; clear ho hb hg hat))
  go_end0
  have ho := HO1.out
  rw [show ((s) ++ [(1 : Int)]).length = (s).length + 1 by simp] at ho
  have hb := HBW.out.trans ((HB1.out.mono (Nat.le_succ gm)).setCell (p := ⟨gm, 0, none⟩) (Nat.le_refl _) (.slice A2 ((s).length + 1) c2))
  unfold DoPost
  exact ⟨hb, by rw [HP.out]; exact ⟨rfl, _, HM.out.pushed HL.out ho HB1.out⟩⟩
set_option maxHeartbeats 2000000 in
theorem do_no (gm : Nat) (v : Value) (s : List Int) (A : Option Addr) (c : Nat) (env : List Int) (o : S63) (hk : o.f0 = 12) (w0 : World) (hl : s.length < 60) (hM0 : MachOK w0 gm v (s) A c env) :
    Calls Tryd.prog 61 #[.pointer (some ⟨gm, 0, none⟩), .agg #[.int .i64 o.f0, .int .i64 o.f1]] w0 (DoPost ((0 : Int)) s gm A c env w0) := by
  have kb1 : (o.f0 == 1) = false := by rw [beq_eq_false_iff_ne]; omega
  have kb2 : (o.f0 == 2) = false := by rw [beq_eq_false_iff_ne]; omega
  have kb11 : (o.f0 == 11) = false := by rw [beq_eq_false_iff_ne]; omega
  have kb12 : (o.f0 == 12) = true := beq_iff_eq.2 hk
  obtain ⟨A1, c1, ev⟩ := Kd.R_slice hM0.own
  subst ev
  have HM0 := Aside0.mk hM0
  have HL := Aside0.mk hl
  clear hM0 hl hk
  have h1 : ¬ ((0 : Int) < -1000000) := by omega
  have q1 : decide ((0 : Int) < -1000000) = false := decide_eq_false h1
  have h2 : ¬ ((0 : Int) > 1000000) := by omega
  have q2 : decide ((0 : Int) > 1000000) = false := decide_eq_false h2
  have HP := Aside0.mk (show pushS ((0 : Int)) s = .ok (s ++ [(0 : Int)]) by unfold pushS; rw [if_neg (by omega)])
  go_enter Tryd.func61, Tryd.ntmps61
  go_wp2_with (first | ((with_reducible refine gate_dst (N := 3) rfl ?_); refine box_event ?hg (N := 3) ?hd (cs := #[.int .i64 o.f0, .int .i64 o.f1]) (t := 63) ?hr ?_; (case hd => rfl); (case hg => rfl); (case hr => first | (go_simp; done) | (go_simp; rfl)); intro gb hg w hbox hb; have HM := Aside0.mk (HM0.out.mono hb); have HBW := Aside0.mk (hb.mono (Nat.le_of_lt (blk_lt HM0.out.cells))); have HZ := Aside0.mk (show gm + 1 ≤ w.heap.size from blk_lt HM.out.cells); have k0 : w.cell? ⟨gb, 0, none⟩ = some (.int .i64 o.f0) := blk_cell hbox 0; have k1 : w.cell? ⟨gb, 1, none⟩ = some (.int .i64 o.f1) := blk_cell hbox 1; have c0 : w.cell? ⟨gm, 0, none⟩ = some (.slice A1 (s).length c1) := blk_cell HM.out.cells 0; clear hb hbox hg) | (at_builtin; refine Kd.R_append (Kd.int .i64) (gm + 1) rfl (.tmp 60) (.tmp 62) 28 3 (.int .i64 0) 8 rfl Tryd.underlying28 info3 rfl (by decide) (by decide) (.slice A1 (s).length c1) (s) ((0 : Int)) [.int .i64 ((0 : Int))] (fun _ => True) (fun _ => False) rfl rfl ?aP (fun _ h => h.elim) (fun _ _ => trivial) ?aO (Below.refl _ _) ?aB ?aL ?_; (case aP => rfl); (case aO => exact HM.out.own); (case aB => exact HZ.out); (case aL => have := HL.out; omega); intro v1 w1 ho hb hg hat; obtain ⟨A2, c2, e2⟩ := Kd.R_slice ho; subst e2; have HO1 := Aside0.mk ho; have HB1 := Aside0.mk hb; have kc : w1.cell? ⟨gm, 0, none⟩ = some (.slice A1 (s).length c1) := blk_cell ((hb.block gm (Nat.lt_succ_self gm)).trans HM.out.cells) 0; have kz : w1.frozen? ⟨gm, 0, none⟩ = false := blk_frozen ((hb.block gm (Nat.lt_succ_self gm)).trans HM.out.cells) 0; clear ho hb hg hat))
  go_end0
  have ho := HO1.out
  rw [show ((s) ++ [(0 : Int)]).length = (s).length + 1 by simp] at ho
  have hb := HBW.out.trans ((HB1.out.mono (Nat.le_succ gm)).setCell (p := ⟨gm, 0, none⟩) (Nat.le_refl _) (.slice A2 ((s).length + 1) c2))
  unfold DoPost
  exact ⟨hb, by rw [HP.out]; exact ⟨rfl, _, HM.out.pushed HL.out ho HB1.out⟩⟩
theorem MachOK.drew {w : World} {gm : Nat} {v : Value} {stk : List Int} {A : Option Addr} {c : Nat} {env : List Int} (h : MachOK w gm v stk A c env) : MachOK w.drew gm v stk A c env :=
  ⟨h.cells, Kd.R_drew h.own, fun W hW => h.env W ((Below.refl gm w).drew.trans hW), h.len⟩
set_option maxHeartbeats 2000000 in
theorem do_var (gm : Nat) (v : Value) (s : List Int) (A : Option Addr) (c : Nat) (env : List Int) (o : S63) (hk : o.f0 = 2) (n : Int) (hj0 : 0 ≤ o.f1) (hj1 : o.f1 < (env.length : Int)) (hm : env.length ≤ 9223372036854775807) (hn : rd env o.f1 = n) (w0 : World) (hl : s.length < 60) (hM0 : MachOK w0 gm v s A c env) :
    Calls Tryd.prog 61 #[.pointer (some ⟨gm, 0, none⟩), .agg #[.int .i64 o.f0, .int .i64 o.f1]] w0 (DoPost n s gm A c env w0) := by
  have kb1 : (o.f0 == 1) = false := by rw [beq_eq_false_iff_ne]; omega
  have kb2 : (o.f0 == 2) = true := beq_iff_eq.2 hk
  obtain ⟨A1, c1, ev⟩ := Kd.R_slice hM0.own
  subst ev
  obtain ⟨j, hj⟩ : ∃ j : Nat, o.f1 = (j : Int) := ⟨o.f1.toNat, by omega⟩
  obtain ⟨ad, ea, _⟩ := Kd.at_int (hM0.env w0 (Below.refl _ _)) (j : Int) (by omega) (by omega)
  subst ea
  have hrd : rd env (j : Int) = n := by rw [← hj]; exact hn
  have hp2 : (0 ≤ (j : Int)) = True := eq_true (by omega)
  have hq2 : ((j : Int) < (env.length : Int)) = True := eq_true (by omega)
  have hjl : j < env.length := by omega
  have HM0 := Aside0.mk hM0
  have HL := Aside0.mk hl
  rw [hj]
  clear hM0 hl hk hn hj0 hj1 hj
  by_cases h1 : n < -1000000
  · have q1 : decide (n < -1000000) = true := decide_eq_true h1
    have HP := Aside0.mk (show pushS n s = .error 8 by unfold pushS; rw [if_pos (.inl h1)])
    go_enter Tryd.func61, Tryd.ntmps61
    go_wp2_with (first | ((with_reducible refine gate_dst (N := 3) rfl ?_); refine box_event ?hg (N := 3) ?hd (cs := #[.int .i64 o.f0, .int .i64 (j : Int)]) (t := 63) ?hr ?_; (case hd => rfl); (case hg => rfl); (case hr => first | (go_simp; done) | (go_simp; rfl)); intro gb hg w hbox hb; have HM := Aside0.mk (HM0.out.mono hb); have HBW := Aside0.mk (hb.mono (Nat.le_of_lt (blk_lt HM0.out.cells))); have HZ := Aside0.mk (show gm + 1 ≤ w.heap.size from blk_lt HM.out.cells); have k0 : w.cell? ⟨gb, 0, none⟩ = some (.int .i64 o.f0) := blk_cell hbox 0; have k1 : w.cell? ⟨gb, 1, none⟩ = some (.int .i64 (j : Int)) := blk_cell hbox 1; have c0 : w.cell? ⟨gm, 0, none⟩ = some (.slice A1 (s).length c1) := blk_cell HM.out.cells 0; have ce : w.cell? ⟨gm, 1, none⟩ = some (.slice (some ad) env.length c) := blk_cell HM.out.cells 1; have cv : w.cell? (ad.add j) = some (.int .i64 n) := by { have := (Kd.at_int (HM.out.env w (Below.refl _ _)) (j : Int) (by omega) (by omega)); obtain ⟨ad', e', k'⟩ := this; cases e'; rw [hrd, Int.toNat_natCast] at k'; exact k' }; have HMP1 := Aside0.mk HM.out.drew; have HBP1 := Aside0.mk HBW.out.drew; have HZP1 := Aside0.mk (show gm + 1 ≤ w.drew.heap.size from blk_lt HM.out.cells); clear hb hbox hg))
    clear hp2 hq2
    have hp2 : (0 ≤ (j : Int)) = True := eq_true (by omega)
    have hq2 : ((j : Int) < (env.length : Int)) = True := eq_true (by omega)
    have hd2 : decide (j < env.length) = true := decide_eq_true hjl
    go_region
    have c0d : w.drew.cell? ⟨gm, 0, none⟩ = some (.slice A1 s.length c1) := c0
    obtain ⟨w2, hw2⟩ : ∃ w2, w2 = w.drew := ⟨_, rfl⟩
    rw [← hw2] at HMP1 HBP1 HZP1 c0d ⊢
    clear hw2 c0 ce cv
    go_wp2_with (first | fail)
    exact ⟨rfl, by unfold DoPost; exact ⟨HBP1.out, by rw [HP.out]⟩⟩
  have q1 : decide (n < -1000000) = false := decide_eq_false h1
  by_cases h2 : n > 1000000
  · have q2 : decide (n > 1000000) = true := decide_eq_true h2
    have HP := Aside0.mk (show pushS n s = .error 8 by unfold pushS; rw [if_pos (.inr h2)])
    go_enter Tryd.func61, Tryd.ntmps61
    go_wp2_with (first | ((with_reducible refine gate_dst (N := 3) rfl ?_); refine box_event ?hg (N := 3) ?hd (cs := #[.int .i64 o.f0, .int .i64 (j : Int)]) (t := 63) ?hr ?_; (case hd => rfl); (case hg => rfl); (case hr => first | (go_simp; done) | (go_simp; rfl)); intro gb hg w hbox hb; have HM := Aside0.mk (HM0.out.mono hb); have HBW := Aside0.mk (hb.mono (Nat.le_of_lt (blk_lt HM0.out.cells))); have HZ := Aside0.mk (show gm + 1 ≤ w.heap.size from blk_lt HM.out.cells); have k0 : w.cell? ⟨gb, 0, none⟩ = some (.int .i64 o.f0) := blk_cell hbox 0; have k1 : w.cell? ⟨gb, 1, none⟩ = some (.int .i64 (j : Int)) := blk_cell hbox 1; have c0 : w.cell? ⟨gm, 0, none⟩ = some (.slice A1 (s).length c1) := blk_cell HM.out.cells 0; have ce : w.cell? ⟨gm, 1, none⟩ = some (.slice (some ad) env.length c) := blk_cell HM.out.cells 1; have cv : w.cell? (ad.add j) = some (.int .i64 n) := by { have := (Kd.at_int (HM.out.env w (Below.refl _ _)) (j : Int) (by omega) (by omega)); obtain ⟨ad', e', k'⟩ := this; cases e'; rw [hrd, Int.toNat_natCast] at k'; exact k' }; have HMP1 := Aside0.mk HM.out.drew; have HBP1 := Aside0.mk HBW.out.drew; have HZP1 := Aside0.mk (show gm + 1 ≤ w.drew.heap.size from blk_lt HM.out.cells); clear hb hbox hg))
    clear hp2 hq2
    have hp2 : (0 ≤ (j : Int)) = True := eq_true (by omega)
    have hq2 : ((j : Int) < (env.length : Int)) = True := eq_true (by omega)
    have hd2 : decide (j < env.length) = true := decide_eq_true hjl
    go_region
    have c0d : w.drew.cell? ⟨gm, 0, none⟩ = some (.slice A1 s.length c1) := c0
    obtain ⟨w2, hw2⟩ : ∃ w2, w2 = w.drew := ⟨_, rfl⟩
    rw [← hw2] at HMP1 HBP1 HZP1 c0d ⊢
    clear hw2 c0 ce cv
    go_wp2_with (first | fail)
    exact ⟨rfl, by unfold DoPost; exact ⟨HBP1.out, by rw [HP.out]⟩⟩
  have q2 : decide (n > 1000000) = false := decide_eq_false h2
  have HP := Aside0.mk (show pushS n s = .ok (s ++ [n]) by unfold pushS; rw [if_neg (by omega)])
  go_enter Tryd.func61, Tryd.ntmps61
  go_wp2_with (first | ((with_reducible refine gate_dst (N := 3) rfl ?_); refine box_event ?hg (N := 3) ?hd (cs := #[.int .i64 o.f0, .int .i64 (j : Int)]) (t := 63) ?hr ?_; (case hd => rfl); (case hg => rfl); (case hr => first | (go_simp; done) | (go_simp; rfl)); intro gb hg w hbox hb; have HM := Aside0.mk (HM0.out.mono hb); have HBW := Aside0.mk (hb.mono (Nat.le_of_lt (blk_lt HM0.out.cells))); have HZ := Aside0.mk (show gm + 1 ≤ w.heap.size from blk_lt HM.out.cells); have k0 : w.cell? ⟨gb, 0, none⟩ = some (.int .i64 o.f0) := blk_cell hbox 0; have k1 : w.cell? ⟨gb, 1, none⟩ = some (.int .i64 (j : Int)) := blk_cell hbox 1; have c0 : w.cell? ⟨gm, 0, none⟩ = some (.slice A1 (s).length c1) := blk_cell HM.out.cells 0; have ce : w.cell? ⟨gm, 1, none⟩ = some (.slice (some ad) env.length c) := blk_cell HM.out.cells 1; have cv : w.cell? (ad.add j) = some (.int .i64 n) := by { have := (Kd.at_int (HM.out.env w (Below.refl _ _)) (j : Int) (by omega) (by omega)); obtain ⟨ad', e', k'⟩ := this; cases e'; rw [hrd, Int.toNat_natCast] at k'; exact k' }; have HMP1 := Aside0.mk HM.out.drew; have HBP1 := Aside0.mk HBW.out.drew; have HZP1 := Aside0.mk (show gm + 1 ≤ w.drew.heap.size from blk_lt HM.out.cells); clear hb hbox hg))
  clear hp2 hq2
  have hp2 : (0 ≤ (j : Int)) = True := eq_true (by omega)
  have hq2 : ((j : Int) < (env.length : Int)) = True := eq_true (by omega)
  have hd2 : decide (j < env.length) = true := decide_eq_true hjl
  go_region
  have c0d : w.drew.cell? ⟨gm, 0, none⟩ = some (.slice A1 s.length c1) := c0
  obtain ⟨w2, hw2⟩ : ∃ w2, w2 = w.drew := ⟨_, rfl⟩
  rw [← hw2] at HMP1 HBP1 HZP1 c0d ⊢
  clear hw2 c0 ce cv
  go_wp2_with (first | (at_builtin; refine Kd.R_append (Kd.int .i64) (gm + 1) rfl (.tmp 60) (.tmp 62) 28 3 (.int .i64 0) 8 rfl Tryd.underlying28 info3 rfl (by decide) (by decide) (.slice A1 (s).length c1) (s) (n) [.int .i64 (n)] (fun _ => True) (fun _ => False) rfl rfl ?aP (fun _ h => h.elim) (fun _ _ => trivial) ?aO (Below.refl _ _) ?aB ?aL ?_; (case aP => rfl); (case aO => exact HMP1.out.own); (case aB => exact HZP1.out); (case aL => have := HL.out; omega); intro v1 w1 ho hb hg hat; obtain ⟨A2, c2, e2⟩ := Kd.R_slice ho; subst e2; have HO1 := Aside0.mk ho; have HB1 := Aside0.mk hb; have kc : w1.cell? ⟨gm, 0, none⟩ = some (.slice A1 (s).length c1) := blk_cell ((hb.block gm (Nat.lt_succ_self gm)).trans HMP1.out.cells) 0; have kz : w1.frozen? ⟨gm, 0, none⟩ = false := blk_frozen ((hb.block gm (Nat.lt_succ_self gm)).trans HMP1.out.cells) 0; clear ho hb hg hat))
  go_end0
  have ho := HO1.out
  rw [show ((s) ++ [n]).length = (s).length + 1 by simp] at ho
  have hb := HBP1.out.trans ((HB1.out.mono (Nat.le_succ gm)).setCell (p := ⟨gm, 0, none⟩) (Nat.le_refl _) (.slice A2 ((s).length + 1) c2))
  unfold DoPost
  exact ⟨hb, by rw [HP.out]; exact ⟨rfl, _, HMP1.out.pushed HL.out ho HB1.out⟩⟩
theorem kind_wf {k : Int} (h : 3 ≤ k ∧ k ≤ 9) : (Lit.int .i64 k).wf = true := by simp [Lit.wf, IntKind.min, IntKind.max, IntKind.signed, IntKind.bits]; omega
def mapPs (cap : Array Value) : List (Value × Value) := [] ++ [(.int .i64 3, .func (Fn.func 65) #[] cap)] ++ [(.int .i64 4, .func (Fn.func 66) #[] cap)] ++ [(.int .i64 5, .func (Fn.func 67) #[] cap)] ++ [(.int .i64 6, .func (Fn.func 68) #[] cap)] ++ [(.int .i64 7, .func (Fn.func 70) #[] cap)] ++ [(.int .i64 8, .func (Fn.func 71) #[] cap)] ++ [(.int .i64 9, .func (Fn.func 72) #[] cap)]
theorem kind_one {k : Int} (h : 3 ≤ k ∧ k ≤ 9) (cap : Array Value) : ∀ p ∈ mapPs cap, p.1 = .int .i64 k → p.2 = .func (Fn.func (cloN k)) #[] cap := by
  intro p hp e
  have : k = 3 ∨ k = 4 ∨ k = 5 ∨ k = 6 ∨ k = 7 ∨ k = 8 ∨ k = 9 := by omega
  simp only [mapPs, List.nil_append, List.cons_append, List.mem_cons, List.not_mem_nil, or_false] at hp
  rcases hp with rfl | rfl | rfl | rfl | rfl | rfl | rfl <;> (simp only [Value.int.injEq, true_and] at e; subst e; rfl)
theorem kind_in {k : Int} (h : 3 ≤ k ∧ k ≤ 9) (cap : Array Value) : ∃ p ∈ mapPs cap, p.1 = .int .i64 k := by
  have : k = 3 ∨ k = 4 ∨ k = 5 ∨ k = 6 ∨ k = 7 ∨ k = 8 ∨ k = 9 := by omega
  rcases this with rfl | rfl | rfl | rfl | rfl | rfl | rfl
  · exact ⟨(.int .i64 3, .func (Fn.func 65) #[] cap), by simp [mapPs], rfl⟩
  · exact ⟨(.int .i64 4, .func (Fn.func 66) #[] cap), by simp [mapPs], rfl⟩
  · exact ⟨(.int .i64 5, .func (Fn.func 67) #[] cap), by simp [mapPs], rfl⟩
  · exact ⟨(.int .i64 6, .func (Fn.func 68) #[] cap), by simp [mapPs], rfl⟩
  · exact ⟨(.int .i64 7, .func (Fn.func 70) #[] cap), by simp [mapPs], rfl⟩
  · exact ⟨(.int .i64 8, .func (Fn.func 71) #[] cap), by simp [mapPs], rfl⟩
  · exact ⟨(.int .i64 9, .func (Fn.func 72) #[] cap), by simp [mapPs], rfl⟩
theorem enter65 (args : Array Value) (w : World) : (callFunc 65 args).run Tryd.prog w = .ok (.enter 65 args) w := by kernel_rfl
theorem enter66 (args : Array Value) (w : World) : (callFunc 66 args).run Tryd.prog w = .ok (.enter 66 args) w := by kernel_rfl
theorem enter67 (args : Array Value) (w : World) : (callFunc 67 args).run Tryd.prog w = .ok (.enter 67 args) w := by kernel_rfl
theorem enter68 (args : Array Value) (w : World) : (callFunc 68 args).run Tryd.prog w = .ok (.enter 68 args) w := by kernel_rfl
theorem enter70 (args : Array Value) (w : World) : (callFunc 70 args).run Tryd.prog w = .ok (.enter 70 args) w := by kernel_rfl
theorem enter71 (args : Array Value) (w : World) : (callFunc 71 args).run Tryd.prog w = .ok (.enter 71 args) w := by kernel_rfl
theorem enter72 (args : Array Value) (w : World) : (callFunc 72 args).run Tryd.prog w = .ok (.enter 72 args) w := by kernel_rfl
theorem clo_enter {kd : Int} (hk : 3 ≤ kd ∧ kd ≤ 9) (args : Array Value) (w : World) : (callFunc (cloN kd) args).run Tryd.prog w = .ok (.enter (cloN kd) args) w := by
  have : kd = 3 ∨ kd = 4 ∨ kd = 5 ∨ kd = 6 ∨ kd = 7 ∨ kd = 8 ∨ kd = 9 := by omega
  rcases this with e | e | e | e | e | e | e <;> subst e
  · exact enter65 _ _
  · exact enter66 _ _
  · exact enter67 _ _
  · exact enter68 _ _
  · exact enter70 _ _
  · exact enter71 _ _
  · exact enter72 _ _
theorem mapT81 : Tryd.prog.underlying 81 = some (.map 3 79) := by kernel_rfl
def KeysOk (ps : List (Value × Value)) : Prop := ∀ p ∈ ps, ∃ n : Int, p.1 = .int .i64 n ∧ (Lit.int .i64 n).wf = true
theorem keys_ok {ps : List (Value × Value)} (h : KeysOk ps) : ∀ p ∈ ps, ∃ l, keyOf Tryd.prog 3 p.1 = some l := fun p hp => by
  obtain ⟨n, e, hw⟩ := h p hp
  exact ⟨_, by rw [e]; exact Go.Maps.keyOf_int_mk Tryd.underlying3 hw⟩
theorem keys_nil : KeysOk [] := fun p hp => by cases hp
theorem keys_add {ps : List (Value × Value)} {n : Int} {v : Value} (h : KeysOk ps) (hw : (Lit.int .i64 n).wf = true) : KeysOk (ps ++ [(.int .i64 n, v)]) := fun p hp => by
  rcases List.mem_append.1 hp with hp | hp
  · exact h p hp
  · rw [List.mem_singleton.1 hp]; exact ⟨n, rfl, hw⟩
set_option maxHeartbeats 4000000 in
theorem do_bin (gm : Nat) (v : Value) (s : List Int) (a b : Int) (A : Option Addr) (c : Nat) (env : List Int) (o : S63) (n : Int) (hn : doVal o.f0 a b = n) (hk : 3 ≤ o.f0 ∧ o.f0 ≤ 9) (ha : -1000000 ≤ a ∧ a ≤ 1000000) (hb : -1000000 ≤ b ∧ b ≤ 1000000) (w0 : World) (hl : s.length < 60) (hM0 : MachOK w0 gm v (s ++ [b] ++ [a]) A c env) :
    Calls Tryd.prog 61 #[.pointer (some ⟨gm, 0, none⟩), .agg #[.int .i64 o.f0, .int .i64 o.f1]] w0 (DoPost n s gm A c env w0) := by
  have hmf : ∀ (fn : Fn) (first cap : Array Value) (w : World), (Instr.makeFunc fn first cap).run Tryd.prog w = .ok (.func fn first cap) w := fun _ _ _ _ => rfl
  have kb1 : (o.f0 == 1) = false := by rw [beq_eq_false_iff_ne]; omega
  have kb2 : (o.f0 == 2) = false := by rw [beq_eq_false_iff_ne]; omega
  have kb11 : (o.f0 == 11) = false := by rw [beq_eq_false_iff_ne]; omega
  have kb12 : (o.f0 == 12) = false := by rw [beq_eq_false_iff_ne]; omega
  have kb10 : (o.f0 == 10) = false := by rw [beq_eq_false_iff_ne]; omega
  obtain ⟨A1, c1, ev⟩ := Kd.R_slice hM0.own
  subst ev
  have HM0 := Aside0.mk hM0
  have HL := Aside0.mk hl
  have HK := Aside0.mk hk
  have HN := Aside0.mk hn
  have HA := Aside0.mk ha
  have HB := Aside0.mk hb
  clear hM0 hl hk ha hb hn
  go_enter Tryd.func61, Tryd.ntmps61
  go_wp2_with (first | ((with_reducible refine gate_dst (N := 3) rfl ?_); refine box_event ?hg (N := 3) ?hd (cs := #[.int .i64 o.f0, .int .i64 o.f1]) (t := 63) ?hr ?_; (case hd => rfl); (case hg => rfl); (case hr => first | (go_simp; done) | (go_simp; rfl)); intro gb hg w hbox hb; have HM := Aside0.mk (HM0.out.mono hb); have HBW := Aside0.mk (hb.mono (Nat.le_of_lt (blk_lt HM0.out.cells))); have HZ := Aside0.mk (show gm + 1 ≤ w.heap.size from blk_lt HM.out.cells); have k0 : w.cell? ⟨gb, 0, none⟩ = some (.int .i64 o.f0) := blk_cell hbox 0; have k1 : w.cell? ⟨gb, 1, none⟩ = some (.int .i64 o.f1) := blk_cell hbox 1; have c0 : w.cell? ⟨gm, 0, none⟩ = some (.slice A1 (s ++ [b] ++ [a]).length c1) := blk_cell HM.out.cells 0; have HBX0 := Aside0.mk hbox; have HGB0 := Aside0.mk (show gm ≠ gb by rw [hg]; have := blk_lt HM0.out.cells; omega); clear hb hbox hg) | (go_at_call 62; (with_reducible refine (pop_calls gm _ (s ++ [b]) a A c env _ HM.out).mono ?_); rintro e wp1 ⟨rfl, vp1, hmp, hbp, hgp⟩; obtain ⟨Ap1, cp1, evp⟩ := Kd.R_slice hmp.own; subst evp; have HMP1 := Aside0.mk hmp; have HBP1 := Aside0.mk (HBW.out.trans hbp); have HZP1 := Aside0.mk (show gm + 1 ≤ wp1.heap.size from blk_lt hmp.cells); have c0p1 : wp1.cell? ⟨gm, 0, none⟩ = some (.slice Ap1 (s ++ [b]).length cp1) := blk_cell hmp.cells 0; have HBX1 := Aside0.mk ((hgp.block gb (blk_lt HBX0.out) (by intro e; injection e with e; exact HGB0.out e.symm)).trans HBX0.out); clear hmp hbp hgp))
  refine (pop_calls gm _ s b A c env _ HMP1.out).mono ?_
  rintro e wp2 ⟨rfl, vp2, hmp, hbp, hgp⟩
  obtain ⟨Ap2, cp2, evp⟩ := Kd.R_slice hmp.own
  subst evp
  have HBX2 := Aside0.mk ((hgp.block gb (blk_lt HBX1.out) (by intro e; injection e with e; exact HGB0.out e.symm)).trans HBX1.out)
  have HMP2 := Aside0.mk hmp
  have HBP2 := Aside0.mk (HBP1.out.trans hbp)
  clear hmp hbp hgp k0 k1 c0 c0p1
  go_wp2_with fail
  have hszA : ∀ (W : World) (o : Obj), (W.alloc o).heap.size = W.heap.size + 1 := size_alloc
  obtain ⟨w3, hw3⟩ : ∃ w3, w3 = (wp2.alloc (Obj.cells #[Value.int IntKind.i64 a] 3)).alloc (Obj.cells #[Value.int IntKind.i64 b] 3) := ⟨_, rfl⟩
  have hs3 : w3.heap.size = wp2.heap.size + 1 + 1 := by rw [hw3]; simp [hszA]
  have hb3 : Below wp2.heap.size wp2 w3 := by rw [hw3]; exact below_alloc (below_alloc (Below.refl _ _) _) _
  have ha3 : w3.heap[wp2.heap.size]? = some (Obj.cells #[Value.int IntKind.i64 a] 3 (0, 0)) := by rw [hw3, heap_old _ (by simp)]; exact heap_new _ _
  have hb3' : w3.heap[wp2.heap.size + 1]? = some (Obj.cells #[Value.int IntKind.i64 b] 3 (0, 0)) := by rw [hw3, ← hszA wp2 (Obj.cells #[Value.int IntKind.i64 a] 3)]; exact heap_new _ _
  rw [← hw3]
  clear hw3
  have HGB := Aside0.mk (Nat.lt_of_lt_of_le (blk_lt HBX2.out) hb3.size)
  have HBX := Aside0.mk ((hb3.block gb (blk_lt HBX2.out)).trans HBX2.out)
  have HMap := Aside0.mk (MapIs.made w3)
  have HG := Aside0.mk (World.grownBy.refl (w3.alloc (.map #[] 0)) (some w3.heap.size))
  have HKs := Aside0.mk keys_nil
  have hHBX := (heap_old (.map #[] 0) HGB.out).trans HBX.out
  clear HBX
  have HBX := Aside0.mk hHBX
  have HZ3 := Aside0.mk (show gb < (w3.alloc (.map #[] 0)).heap.size by have := HGB.out; simp; omega)
  clear hHBX
  have HA3 := Aside0.mk ha3
  have HB3 := Aside0.mk hb3'
  have HBB3 := Aside0.mk hb3
  have HS3 := Aside0.mk hs3
  clear ha3 hb3' hb3 hs3 hszA
  rw [run_makeMap]
  go_simp
  go_wp2_with (first | (refine wpList_insert_is _ rfl (.tmp 13) (.const (.int .i64 3)) (.tmp 14) 81 rfl 3 79 (Go.Maps.int_keyed Tryd.underlying3) mapT81 w3.heap.size _ rfl HMap.out (.int .i64 3) (.func (Fn.func 65) #[] #[.pointer (some ⟨wp2.heap.size, 0, none⟩), .pointer (some ⟨wp2.heap.size + 1, 0, none⟩)]) (.int .i64 3) rfl rfl (Go.Maps.keyOf_int_mk Tryd.underlying3 (by decide)) (keys_ok HKs.out) ?hn ?_; (case hn => simp); intro wi hmi hgi; have n0 := Aside0.mk hmi; have n1 := Aside0.mk (grownBy_trans HG.out hgi); have n2 := Aside0.mk (keys_add (n := 3) (v := (.func (Fn.func 65) #[] #[.pointer (some ⟨wp2.heap.size, 0, none⟩), .pointer (some ⟨wp2.heap.size + 1, 0, none⟩)])) HKs.out (by decide)); clear HMap HG HKs hmi hgi; have HMap := n0; have HG := n1; have HKs := n2; clear n0 n1 n2; (try clear kk); have kk : wi.cell? ⟨gb, 0, none⟩ = some (.int .i64 o.f0) := blk_cell ((HG.out.block gb HZ3.out (by have := HGB.out; intro e; injection e with e; omega)).trans HBX.out) 0) | (refine wpList_insert_is _ rfl (.tmp 13) (.const (.int .i64 4)) (.tmp 15) 81 rfl 3 79 (Go.Maps.int_keyed Tryd.underlying3) mapT81 w3.heap.size _ rfl HMap.out (.int .i64 4) (.func (Fn.func 66) #[] #[.pointer (some ⟨wp2.heap.size, 0, none⟩), .pointer (some ⟨wp2.heap.size + 1, 0, none⟩)]) (.int .i64 4) rfl rfl (Go.Maps.keyOf_int_mk Tryd.underlying3 (by decide)) (keys_ok HKs.out) ?hn ?_; (case hn => simp); intro wi hmi hgi; have n0 := Aside0.mk hmi; have n1 := Aside0.mk (grownBy_trans HG.out hgi); have n2 := Aside0.mk (keys_add (n := 4) (v := (.func (Fn.func 66) #[] #[.pointer (some ⟨wp2.heap.size, 0, none⟩), .pointer (some ⟨wp2.heap.size + 1, 0, none⟩)])) HKs.out (by decide)); clear HMap HG HKs hmi hgi; have HMap := n0; have HG := n1; have HKs := n2; clear n0 n1 n2; (try clear kk); have kk : wi.cell? ⟨gb, 0, none⟩ = some (.int .i64 o.f0) := blk_cell ((HG.out.block gb HZ3.out (by have := HGB.out; intro e; injection e with e; omega)).trans HBX.out) 0) | (refine wpList_insert_is _ rfl (.tmp 13) (.const (.int .i64 5)) (.tmp 16) 81 rfl 3 79 (Go.Maps.int_keyed Tryd.underlying3) mapT81 w3.heap.size _ rfl HMap.out (.int .i64 5) (.func (Fn.func 67) #[] #[.pointer (some ⟨wp2.heap.size, 0, none⟩), .pointer (some ⟨wp2.heap.size + 1, 0, none⟩)]) (.int .i64 5) rfl rfl (Go.Maps.keyOf_int_mk Tryd.underlying3 (by decide)) (keys_ok HKs.out) ?hn ?_; (case hn => simp); intro wi hmi hgi; have n0 := Aside0.mk hmi; have n1 := Aside0.mk (grownBy_trans HG.out hgi); have n2 := Aside0.mk (keys_add (n := 5) (v := (.func (Fn.func 67) #[] #[.pointer (some ⟨wp2.heap.size, 0, none⟩), .pointer (some ⟨wp2.heap.size + 1, 0, none⟩)])) HKs.out (by decide)); clear HMap HG HKs hmi hgi; have HMap := n0; have HG := n1; have HKs := n2; clear n0 n1 n2; (try clear kk); have kk : wi.cell? ⟨gb, 0, none⟩ = some (.int .i64 o.f0) := blk_cell ((HG.out.block gb HZ3.out (by have := HGB.out; intro e; injection e with e; omega)).trans HBX.out) 0) | (refine wpList_insert_is _ rfl (.tmp 13) (.const (.int .i64 6)) (.tmp 17) 81 rfl 3 79 (Go.Maps.int_keyed Tryd.underlying3) mapT81 w3.heap.size _ rfl HMap.out (.int .i64 6) (.func (Fn.func 68) #[] #[.pointer (some ⟨wp2.heap.size, 0, none⟩), .pointer (some ⟨wp2.heap.size + 1, 0, none⟩)]) (.int .i64 6) rfl rfl (Go.Maps.keyOf_int_mk Tryd.underlying3 (by decide)) (keys_ok HKs.out) ?hn ?_; (case hn => simp); intro wi hmi hgi; have n0 := Aside0.mk hmi; have n1 := Aside0.mk (grownBy_trans HG.out hgi); have n2 := Aside0.mk (keys_add (n := 6) (v := (.func (Fn.func 68) #[] #[.pointer (some ⟨wp2.heap.size, 0, none⟩), .pointer (some ⟨wp2.heap.size + 1, 0, none⟩)])) HKs.out (by decide)); clear HMap HG HKs hmi hgi; have HMap := n0; have HG := n1; have HKs := n2; clear n0 n1 n2; (try clear kk); have kk : wi.cell? ⟨gb, 0, none⟩ = some (.int .i64 o.f0) := blk_cell ((HG.out.block gb HZ3.out (by have := HGB.out; intro e; injection e with e; omega)).trans HBX.out) 0) | (refine wpList_insert_is _ rfl (.tmp 13) (.const (.int .i64 7)) (.tmp 18) 81 rfl 3 79 (Go.Maps.int_keyed Tryd.underlying3) mapT81 w3.heap.size _ rfl HMap.out (.int .i64 7) (.func (Fn.func 70) #[] #[.pointer (some ⟨wp2.heap.size, 0, none⟩), .pointer (some ⟨wp2.heap.size + 1, 0, none⟩)]) (.int .i64 7) rfl rfl (Go.Maps.keyOf_int_mk Tryd.underlying3 (by decide)) (keys_ok HKs.out) ?hn ?_; (case hn => simp); intro wi hmi hgi; have n0 := Aside0.mk hmi; have n1 := Aside0.mk (grownBy_trans HG.out hgi); have n2 := Aside0.mk (keys_add (n := 7) (v := (.func (Fn.func 70) #[] #[.pointer (some ⟨wp2.heap.size, 0, none⟩), .pointer (some ⟨wp2.heap.size + 1, 0, none⟩)])) HKs.out (by decide)); clear HMap HG HKs hmi hgi; have HMap := n0; have HG := n1; have HKs := n2; clear n0 n1 n2; (try clear kk); have kk : wi.cell? ⟨gb, 0, none⟩ = some (.int .i64 o.f0) := blk_cell ((HG.out.block gb HZ3.out (by have := HGB.out; intro e; injection e with e; omega)).trans HBX.out) 0) | (refine wpList_insert_is _ rfl (.tmp 13) (.const (.int .i64 8)) (.tmp 19) 81 rfl 3 79 (Go.Maps.int_keyed Tryd.underlying3) mapT81 w3.heap.size _ rfl HMap.out (.int .i64 8) (.func (Fn.func 71) #[] #[.pointer (some ⟨wp2.heap.size, 0, none⟩), .pointer (some ⟨wp2.heap.size + 1, 0, none⟩)]) (.int .i64 8) rfl rfl (Go.Maps.keyOf_int_mk Tryd.underlying3 (by decide)) (keys_ok HKs.out) ?hn ?_; (case hn => simp); intro wi hmi hgi; have n0 := Aside0.mk hmi; have n1 := Aside0.mk (grownBy_trans HG.out hgi); have n2 := Aside0.mk (keys_add (n := 8) (v := (.func (Fn.func 71) #[] #[.pointer (some ⟨wp2.heap.size, 0, none⟩), .pointer (some ⟨wp2.heap.size + 1, 0, none⟩)])) HKs.out (by decide)); clear HMap HG HKs hmi hgi; have HMap := n0; have HG := n1; have HKs := n2; clear n0 n1 n2; (try clear kk); have kk : wi.cell? ⟨gb, 0, none⟩ = some (.int .i64 o.f0) := blk_cell ((HG.out.block gb HZ3.out (by have := HGB.out; intro e; injection e with e; omega)).trans HBX.out) 0) | (refine wpList_insert_is _ rfl (.tmp 13) (.const (.int .i64 9)) (.tmp 20) 81 rfl 3 79 (Go.Maps.int_keyed Tryd.underlying3) mapT81 w3.heap.size _ rfl HMap.out (.int .i64 9) (.func (Fn.func 72) #[] #[.pointer (some ⟨wp2.heap.size, 0, none⟩), .pointer (some ⟨wp2.heap.size + 1, 0, none⟩)]) (.int .i64 9) rfl rfl (Go.Maps.keyOf_int_mk Tryd.underlying3 (by decide)) (keys_ok HKs.out) ?hn ?_; (case hn => simp); intro wi hmi hgi; have n0 := Aside0.mk hmi; have n1 := Aside0.mk (grownBy_trans HG.out hgi); have n2 := Aside0.mk (keys_add (n := 9) (v := (.func (Fn.func 72) #[] #[.pointer (some ⟨wp2.heap.size, 0, none⟩), .pointer (some ⟨wp2.heap.size + 1, 0, none⟩)])) HKs.out (by decide)); clear HMap HG HKs hmi hgi; have HMap := n0; have HG := n1; have HKs := n2; clear n0 n1 n2; (try clear kk); have kk : wi.cell? ⟨gb, 0, none⟩ = some (.int .i64 o.f0) := blk_cell ((HG.out.block gb HZ3.out (by have := HGB.out; intro e; injection e with e; omega)).trans HBX.out) 0))
  have hlook := MapIs.look_some HMap.out (Go.Maps.int_keyed Tryd.underlying3) mapT81 (keys_ok HKs.out) (key := .int .i64 o.f0) (v := .func (Fn.func (cloN o.f0)) #[] #[.pointer (some ⟨wp2.heap.size, 0, none⟩), .pointer (some ⟨wp2.heap.size + 1, 0, none⟩)]) (Go.Maps.keyOf_int_mk Tryd.underlying3 (kind_wf HK.out)) false (kind_one HK.out _) (kind_in HK.out _)
  simp only [Bool.false_eq_true, if_false] at hlook
  rw [hlook]
  clear hlook kk
  have hbi : Below wp2.heap.size wp2 wi := (below_alloc HBB3.out _).grown HG.out (by have := HBB3.out.size; simp; omega) (fun k hk => by injection hk with hk; rw [← hk]; exact HBB3.out.size)
  have hai : wi.heap[wp2.heap.size]? = some (Obj.cells #[Value.int IntKind.i64 a] 3 (0, 0)) := (HG.out.block _ (by have := blk_lt HA3.out; simp; omega) (by have := blk_lt HA3.out; intro e; injection e with e; omega)).trans ((heap_old _ (blk_lt HA3.out)).trans HA3.out)
  have hbi' : wi.heap[wp2.heap.size + 1]? = some (Obj.cells #[Value.int IntKind.i64 b] 3 (0, 0)) := (HG.out.block _ (by have := blk_lt HB3.out; simp; omega) (by have := blk_lt HB3.out; intro e; injection e with e; omega)).trans ((heap_old _ (blk_lt HB3.out)).trans HB3.out)
  have HCl := Aside0.mk (clo_calls o.f0 HK.out wp2.heap.size (wp2.heap.size + 1) a b wi hai hbi' HA.out HB.out)
  have HM5 := Aside0.mk (HMP2.out.mono hbi)
  have HZ5 := Aside0.mk (show gm + 1 ≤ wi.heap.size from blk_lt HM5.out.cells)
  have HBP5 := Aside0.mk (HBP2.out.trans (hbi.mono (Nat.le_of_lt (blk_lt HMP2.out.cells))))
  have c05 : wi.cell? ⟨gm, 0, none⟩ = some (.slice Ap2 s.length cp2) := blk_cell HM5.out.cells 0
  clear hai hbi hbi'
  rw [HN.out] at HCl
  go_simp
  go_wp2_with fail
  rw [clo_enter HK.out, Oper.upon_enter]
  refine HCl.out.mono ?_
  rintro e w5 ⟨rfl, rfl⟩
  by_cases h1 : n < -1000000
  · have q1 : decide (n < -1000000) = true := decide_eq_true h1
    have HP := Aside0.mk (show pushS n s = .error 8 by unfold pushS; rw [if_pos (.inl h1)])
    go_wp2_with fail
    exact ⟨rfl, by unfold DoPost; exact ⟨HBP5.out, by rw [HP.out]⟩⟩
  have q1 : decide (n < -1000000) = false := decide_eq_false h1
  by_cases h2 : n > 1000000
  · have q2 : decide (n > 1000000) = true := decide_eq_true h2
    have HP := Aside0.mk (show pushS n s = .error 8 by unfold pushS; rw [if_pos (.inr h2)])
    go_wp2_with fail
    exact ⟨rfl, by unfold DoPost; exact ⟨HBP5.out, by rw [HP.out]⟩⟩
  have q2 : decide (n > 1000000) = false := decide_eq_false h2
  have HP := Aside0.mk (show pushS n s = .ok (s ++ [n]) by unfold pushS; rw [if_neg (by omega)])
  go_wp2_with (first | (at_builtin; refine Kd.R_append (Kd.int .i64) (gm + 1) rfl (.tmp 60) (.tmp 62) 28 3 (.int .i64 0) 8 rfl Tryd.underlying28 info3 rfl (by decide) (by decide) (.slice Ap2 (s).length cp2) (s) (n) [.int .i64 (n)] (fun _ => True) (fun _ => False) rfl rfl ?aP (fun _ h => h.elim) (fun _ _ => trivial) ?aO (Below.refl _ _) ?aB ?aL ?_; (case aP => rfl); (case aO => exact HM5.out.own); (case aB => exact HZ5.out); (case aL => have := HL.out; omega); intro v1 w1 ho hb hg hat; obtain ⟨A2, c2, e2⟩ := Kd.R_slice ho; subst e2; have HO1 := Aside0.mk ho; have HB1 := Aside0.mk hb; have kc : w1.cell? ⟨gm, 0, none⟩ = some (.slice Ap2 (s).length cp2) := blk_cell ((hb.block gm (Nat.lt_succ_self gm)).trans HM5.out.cells) 0; have kz : w1.frozen? ⟨gm, 0, none⟩ = false := blk_frozen ((hb.block gm (Nat.lt_succ_self gm)).trans HM5.out.cells) 0; clear ho hb hg hat))
  go_end0
  have ho := HO1.out
  rw [show ((s) ++ [n]).length = (s).length + 1 by simp] at ho
  have hb := HBP5.out.trans ((HB1.out.mono (Nat.le_succ gm)).setCell (p := ⟨gm, 0, none⟩) (Nat.le_refl _) (.slice A2 ((s).length + 1) c2))
  unfold DoPost
  exact ⟨hb, by rw [HP.out]; exact ⟨rfl, _, HM5.out.pushed HL.out ho HB1.out⟩⟩
theorem runS_err (env : List Int) : ∀ (l : List S63) (i : Nat) (c : Int), Pure.runS env (l.drop i) = .error c → Pure.runS env l = .error c
  | l, 0, c, h => h
  | [], i + 1, c, h => by simp at h; exact h
  | o :: l, i + 1, c, h => by
    have := runS_err env l i c h
    rw [Pure.runS, this]
/-- do, whatever the op: what it leaves is what stepS says. -/
theorem do_any (gm : Nat) (v : Value) (stk : List Int) (A : Option Addr) (c : Nat) (env : List Int) (o : S63) (hk1 : 1 ≤ o.f0) (hk2 : o.f0 ≤ 12) (h10 : o.f0 = 10 → 1 ≤ stk.length) (h3 : 3 ≤ o.f0 → o.f0 ≤ 9 → 2 ≤ stk.length) (hv : o.f0 = 2 → 0 ≤ o.f1 ∧ o.f1 < (env.length : Int)) (hm : env.length ≤ 6)
    (hb : ∀ x ∈ stk, -1000000 ≤ x ∧ x ≤ 1000000) (hl : stk.length < 60) (w : World) (hM : MachOK w gm v stk A c env) :
    Calls Tryd.prog 61 #[.pointer (some ⟨gm, 0, none⟩), .agg #[.int .i64 o.f0, .int .i64 o.f1]] w fun e w' => Below gm w w' ∧ match Pure.stepS env o stk with
      | .error cc => e = .panicked [{ v := .iface 22 (.int .i64 cc), recovered := false }]
      | .ok s' => e = .returned (.tuple #[]) ∧ ∃ v', MachOK w' gm v' s' A c env := by
  unfold Pure.stepS
  by_cases k1 : o.f0 = 1
  · rw [if_pos k1]; exact do_num gm v stk A c env o k1 w hl hM
  rw [if_neg k1]
  by_cases k2 : o.f0 = 2
  · rw [if_pos k2]; exact do_var gm v stk A c env o k2 _ (hv k2).1 (hv k2).2 (by omega) rfl w hl hM
  rw [if_neg k2]
  by_cases k3 : o.f0 = 11
  · rw [if_pos k3]; exact do_yes gm v stk A c env o k3 w hl hM
  rw [if_neg k3]
  by_cases k4 : o.f0 = 12
  · rw [if_pos k4]; exact do_no gm v stk A c env o k4 w hl hM
  rw [if_neg k4]
  by_cases k5 : o.f0 = 10
  · rw [if_pos k5]
    have hne : stk ≠ [] := by intro e; have := h10 k5; rw [e] at this; simp at this
    have hd := List.dropLast_concat_getLast hne
    have hg : stk.getLastD 0 = stk.getLast hne := by rw [List.getLastD_eq_getLast?, List.getLast?_eq_some_getLast hne]; rfl
    rw [hg]
    have hx := hb _ (List.getLast_mem hne)
    have hM2 : MachOK w gm v (stk.dropLast ++ [stk.getLast hne]) A c env := by rw [hd]; exact hM
    exact do_not gm v stk.dropLast (stk.getLast hne) A c env o k5 hx w (by rw [List.length_dropLast]; omega) hM2
  · rw [if_neg k5]
    have h2 := h3 (by omega) (by omega)
    have hne : stk ≠ [] := by intro e; rw [e] at h2; simp at h2
    have hd := List.dropLast_concat_getLast hne
    have hne2 : stk.dropLast ≠ [] := by intro e; have := congrArg List.length e; rw [List.length_dropLast] at this; simp at this; omega
    have hd2 := List.dropLast_concat_getLast hne2
    have hg : stk.getLastD 0 = stk.getLast hne := by rw [List.getLastD_eq_getLast?, List.getLast?_eq_some_getLast hne]; rfl
    have hg2 : stk.dropLast.getLastD 0 = stk.dropLast.getLast hne2 := by rw [List.getLastD_eq_getLast?, List.getLast?_eq_some_getLast hne2]; rfl
    rw [hg, hg2]
    have hx := hb _ (List.getLast_mem hne)
    have hx2 := hb _ ((List.dropLast_sublist _).subset (List.getLast_mem hne2))
    have hM2 : MachOK w gm v (stk.dropLast.dropLast ++ [stk.dropLast.getLast hne2] ++ [stk.getLast hne]) A c env := by rw [hd2, hd]; exact hM
    exact do_bin gm v stk.dropLast.dropLast (stk.getLast hne) (stk.dropLast.getLast hne2) A c env o _ rfl ⟨by omega, by omega⟩ hx hx2 w (by rw [List.length_dropLast, List.length_dropLast]; omega) hM2
theorem assert_errnoE (c : Int) (W : World) : (Instr.typeAssert (.iface 22 (.int .i64 c)) 20 22 false).run Tryd.prog W = .ok (.int .i64 c) W := by kernel_rfl
theorem catchE_panicking (b1 b2 : Nat) (hb : b1 ≠ b2) (c : Int) (older : List PanicEntry) (w : World) (hc : w.cell? ⟨b1, 0, none⟩ = some (.int .i64 0)) (hz : w.frozen? ⟨b1, 0, none⟩ = false) (hc2 : w.cell? ⟨b2, 0, none⟩ = some (.int .i64 0)) (hz2 : w.frozen? ⟨b2, 0, none⟩ = false) :
    CallsD Tryd.prog 60 #[.pointer (some ⟨b1, 0, none⟩), .pointer (some ⟨b2, 0, none⟩)] (.panicking ({ v := .iface 22 (.int .i64 c), recovered := false } :: older)) w fun e u' w' =>
      e = .returned (.tuple #[]) ∧ u' = .panicking ({ v := .iface 22 (.int .i64 c), recovered := true } :: older) ∧ Same w' ((w.setCell ⟨b1, 0, none⟩ (.int .i64 0)).setCell ⟨b2, 0, none⟩ (.int .i64 c)) := by
  have hc21 : (w.setCell ⟨b1, 0, none⟩ (.int .i64 0)).cell? ⟨b2, 0, none⟩ = some (.int .i64 0) := (World.cell?_setCell_other w ⟨b1, 0, none⟩ ⟨b2, 0, none⟩ _ (by intro e; injection e with e; exact hb e)).trans hc2
  have hc12 : (w.setCell ⟨b2, 0, none⟩ (.int .i64 c)).cell? ⟨b1, 0, none⟩ = some (.int .i64 0) := (World.cell?_setCell_other w ⟨b2, 0, none⟩ ⟨b1, 0, none⟩ _ (by intro e; injection e with e; exact hb e.symm)).trans hc
  refine callsD_of_wpS Tryd.func60 rfl fun c₀ cs hu => ?_
  apply wpS_seq
  apply wpS_region
  simp [wpOpsS, go_sem, recoverD, hu, Tryd.ntmps60, Exit.thenS]
  apply wpS_seq
  apply wpS_region
  simp [wpOpsS, go_sem, recoverD, hu, Tryd.ntmps60, Exit.thenS]
  refine wpS_cond (t := true) (by simp [Act.eval, Array.replicate]) ?_
  simp only [if_true]
  refine wpS_of_wp ?_
  have hta := assert_errnoE c
  go_region
  all_goals
    cases c₀
    simp_all [bodyPostS, results, Tryd.results60]
    exact Same.drew _
theorem catchE_idle (p q : Value) (w : World) :
    CallsD Tryd.prog 60 #[p, q] .returning w fun e u' w' => e = .returned (.tuple #[]) ∧ u' = .returning ∧ w' = w := by
  refine callsD_of_wpS Tryd.func60 rfl fun c₀ cs hu => ?_
  apply wpS_seq
  apply wpS_region
  simp [wpOpsS, go_sem, recoverD, hu, Tryd.ntmps60, Exit.thenS]
  apply wpS_seq
  apply wpS_region
  simp [wpOpsS, go_sem, Exit.thenS]
  refine wpS_cond (t := false) (by simp [Act.eval, Array.replicate]) ?_
  simp only [Bool.false_eq_true, if_false]
  refine wpS_of_wp (wp_skip ?_)
  cases c₀
  simp_all [bodyPostS, results, Tryd.results60]
def expr_Eval.f (l0 : List S63) (l1 : List Int) : Option (Int × Int) := some (Pure.evalS l0 l1)
set_option maxHeartbeats 2000000 in
theorem expr_Eval.calls (A0 : Option Addr) (c0 : Nat) (l0 : List S63) (A1 : Option Addr) (c1 : Nat) (l1 : List Int) (r1 : Int) (r2 : Int) (w : World) (hr0 : Kd.C k63 w A0 l0.length l0) (hc0 : l0.length ≤ c0) (hr1 : Kd.C (Kd.int .i64) w A1 l1.length l1) (hc1 : l1.length ≤ c1) (hL : LaidG w) (h : expr_Eval.f l0 l1 = some (r1, r2)) :
    Calls Tryd.prog 41 #[.slice A0 l0.length c0, .slice A1 l1.length c1] w fun e w' => e = .returned (.tuple #[.int .i64 r1, .int .i64 r2]) ∧ Below w.heap.size w w' := by
  have hmf : ∀ (fn : Fn) (first cap : Array Value) (w : World), (Instr.makeFunc fn first cap).run Tryd.prog w = .ok (.func fn first cap) w := fun _ _ _ _ => rfl
  have h := Option.some.inj h
  have hml : l1.length ≤ 9223372036854775807 := by have := hr1.2.1; unfold maxLen at this; exact this
  obtain ⟨K, hK⟩ := Pure.exprCheck_ev l0 (l1.length : Int) ⟨by omega, by omega⟩
  have hA := hK K (Nat.le_refl _)
  unfold Pure.evalS at h
  have hex : ∃ bb er, Pure.exprS l0 l1.length = (bb, er) := ⟨_, _, rfl⟩
  obtain ⟨bb, er, hex⟩ := hex
  rw [hex] at h hA
  have HR := Aside0.mk hr0
  have HC := Aside0.mk hc0
  have HR1 := Aside0.mk hr1
  have HC1 := Aside0.mk hc1
  have HLd := Aside0.mk hL
  have HA := Aside0.mk hA
  have HX := Aside0.mk hex
  clear hr0 hc0 hr1 hc1 hL hK hA hex
  have hszA : ∀ (W : World) (o : Obj), (W.alloc o).heap.size = W.heap.size + 1 := size_alloc
  obtain ⟨W2, hW2⟩ : ∃ W2, W2 = (w.alloc (Obj.cells #[Value.int IntKind.i64 0] 3)).alloc (Obj.cells #[Value.int IntKind.i64 0] 22) := ⟨_, rfl⟩
  have hB2 : Below w.heap.size w W2 := by rw [hW2]; exact below_alloc (below_alloc (Below.refl _ _) _) _
  have hs2 : W2.heap.size = w.heap.size + 1 + 1 := by rw [hW2]; simp [hszA]
  have a1 : W2.heap[w.heap.size]? = some (.cells #[Value.int IntKind.i64 0] 3 (0, 0)) := by rw [hW2, heap_old _ (by simp)]; exact heap_new _ _
  have a2 : W2.heap[w.heap.size + 1]? = some (.cells #[Value.int IntKind.i64 0] 22 (0, 0)) := by rw [hW2, ← hszA w (Obj.cells #[Value.int IntKind.i64 0] 3)]; exact heap_new _ _
  have HCk := Aside0.mk (expr_Check.calls K A0 c0 l0 (l1.length : Int) bb er W2 (Kd.C_below HR.out hB2) HC.out (HLd.out.below hB2) HA.out)
  have HA1 := Aside0.mk a1
  have HA2 := Aside0.mk a2
  have HB2 := Aside0.mk hB2
  have HS2 := Aside0.mk hs2
  clear a1 a2 hB2 hszA hs2
  by_cases her : er = 0
  · subst her
    rw [if_pos rfl] at h
    obtain ⟨⟨e0, e6⟩, hone, h60, hfit, -, -⟩ := Pure.exprS_ok (l := l0) (n := l1.length) (by rw [HX.out])
    have HH := Aside0.mk h
    clear h
    go_enter_defers Tryd.func41, Tryd.ntmps41
    go_wp2_with fail
    rw [← hW2]
    refine HCk.out.mono ?_
    rintro e w1 ⟨rfl, hb⟩
    have b1 := (hb.block _ (blk_lt HA1.out)).trans HA1.out
    have b2 := (hb.block _ (blk_lt HA2.out)).trans HA2.out
    have k1 : w1.cell? ⟨w.heap.size, 0, none⟩ = some (.int .i64 0) := blk_cell b1 0
    have k2 : w1.cell? ⟨w.heap.size + 1, 0, none⟩ = some (.int .i64 0) := blk_cell b2 0
    have z1 : w1.frozen? ⟨w.heap.size, 0, none⟩ = false := blk_frozen b1 0
    have z2 : w1.frozen? ⟨w.heap.size + 1, 0, none⟩ = false := blk_frozen b2 0
    have HB1 := Aside0.mk (below_step HB2.out hb)
    have HS1 := Aside0.mk (show w.heap.size + 1 + 1 ≤ w1.heap.size by rw [← HS2.out]; exact hb.size)
    have B1 := Aside0.mk b1
    have B2 := Aside0.mk b2
    clear hb b1 b2 hW2
    go_wp2_with fail
    go_loop [24] (fun t24 => ∃ j : Nat, t24 = .int .i64 (j : Int) ∧ Aside0 (j ≤ l1.length ∧ (l1.take j).all Pure.inR = true)) (fun t24 => l1.length - (intOf t24).toNat)
    case atStart => exact ⟨0, rfl, ⟨Nat.zero_le _, rfl⟩⟩
    case round =>
      obtain ⟨j, rfl, HJ⟩ := hrel
      by_cases hlt : j < l1.length
      · have hq : decide ((j : Int) < (l1.length : Int)) = true := decide_eq_true (by omega)
        have hq2 : decide (j < l1.length) = true := decide_eq_true hlt
        obtain ⟨ad, ea, y⟩ := Kd.at_int (Kd.C_below HR1.out HB1.out) (j : Int) (by omega) (by omega)
        subst ea
        obtain ⟨x, hx⟩ : ∃ x, x = rd l1 (j : Int) := ⟨_, rfl⟩
        rw [← hx, Int.toNat_natCast] at y
        have hx2 : x = l1[j] := by rw [hx]; exact Base.rd_get _ _ hlt
        have HXX := Aside0.mk hx2
        clear hx hx2
        have e1 : IntKind.i64.wrap ((j : Int) + 1) = (j : Int) + 1 := by rw [IntKind.wrap_i64]; omega
        have hbad : (x < -1000000 ∨ x > 1000000) → l1.all Pure.inR = false := by
          intro hb
          rw [List.all_eq_false]
          exact ⟨l1[j], List.getElem_mem hlt, by rw [← HXX.out]; unfold Pure.inR; simp; omega⟩
        have HBad := Aside0.mk hbad
        clear hbad
        by_cases g1 : x < -1000000
        · have q1 : decide (x < -1000000) = true := decide_eq_true g1
          have hr := HH.out
          rw [HBad.out (.inl g1)] at hr
          obtain ⟨rfl, rfl⟩ := Prod.mk.inj hr
          clear hr
          go_wp2
          simp [bodyPostD, Leaves, settle, results, Tryd.results41, go_sem, k1, k2]
          exact ((HB1.out.setCell (Nat.le_refl _) _).setCell (by simp) _)
        have q1 : decide (x < -1000000) = false := decide_eq_false g1
        by_cases g2 : x > 1000000
        · have q2 : decide (x > 1000000) = true := decide_eq_true g2
          have hr := HH.out
          rw [HBad.out (.inr g2)] at hr
          obtain ⟨rfl, rfl⟩ := Prod.mk.inj hr
          clear hr
          go_wp2
          simp [bodyPostD, Leaves, settle, results, Tryd.results41, go_sem, k1, k2]
          exact ((HB1.out.setCell (Nat.le_refl _) _).setCell (by simp) _)
        have q2 : decide (x > 1000000) = false := decide_eq_false g2
        go_wp2
        go_round
        case rel =>
          refine ⟨j + 1, by go_num, ⟨by omega, ?_⟩⟩
          rw [List.take_succ_eq_append_getElem hlt, List.all_append, HJ.out.2, ← HXX.out]
          simp [Pure.inR]
          omega
        case measure => simp [intOf]; omega
      · have hq : decide ((j : Int) < (l1.length : Int)) = false := decide_eq_false (by omega)
        have hj : j = l1.length := by have := HJ.out.1; omega
        have hall := HJ.out.2
        rw [hj, List.take_of_length_le (Nat.le_refl _)] at hall
        have hr := HH.out
        rw [hall, if_pos rfl] at hr
        have HH2 := Aside0.mk hr
        clear hr hall hj HH HJ
        go_wp2_with fail
        obtain ⟨gm, hgm⟩ : ∃ gm, gm = w1.heap.size := ⟨_, rfl⟩
        obtain ⟨wm, hwm⟩ : ∃ wm, wm = w1.alloc (Obj.cells #[Value.slice none 0 0, Value.slice A1 l1.length c1] 77) := ⟨_, rfl⟩
        have hBm : Below w1.heap.size w1 wm := by rw [hwm]; exact below_alloc (Below.refl _ _) _
        have hM0 : MachOK wm gm (.slice none 0 0) [] A1 c1 l1 := by
          refine ⟨by rw [hwm, hgm]; exact heap_new _ _, Kd.R_nil _ _ _ _ _, fun W hW => ?_, by simp⟩
          have hbw : Below w1.heap.size w1 W := hBm.trans (by rw [← hgm]; exact hW)
          exact Kd.C_below (Kd.C_below HR1.out HB1.out) hbw
        rw [← hwm, ← hgm]
        have HBm := Aside0.mk (show Below gm w1 wm by rw [hgm]; exact hBm)
        have HM0 := Aside0.mk hM0
        have HGM := Aside0.mk (show w.heap.size + 1 + 1 ≤ gm by rw [hgm]; exact HS1.out)
        clear hBm hM0 hwm hgm k1 k2 z1 z2 hq
        go_loopg [11] l0.length (fun kq v11 wr => ∃ (stk : List Int) (v : Value), v11 = .int .i64 ((kq : Int) - 1) ∧ Aside0 (kq ≤ l0.length) ∧ Aside0 (Pure.runS l1 (l0.drop kq) = .ok stk) ∧ Aside0 (MachOK wr gm v stk A1 c1 l1) ∧ Aside0 (Below gm wm wr))
        case atStart => exact ⟨[], _, rfl, ⟨Nat.le_refl _⟩, ⟨by rw [List.drop_of_length_le (Nat.le_refl _)]; rfl⟩, HM0, ⟨Below.refl _ _⟩⟩
        case round =>
          obtain ⟨stk, v, rfl, HK, HRun, HM, HBr⟩ := hrel
          have hk := HK.out
          have b1 := (HBr.out.block w.heap.size (by have := HGM.out; omega)).trans ((HBm.out.block w.heap.size (by have := HGM.out; omega)).trans B1.out)
          have b2 := (HBr.out.block (w.heap.size + 1) (by have := HGM.out; omega)).trans ((HBm.out.block (w.heap.size + 1) (by have := HGM.out; omega)).trans B2.out)
          have C1 := Aside0.mk b1
          have C2 := Aside0.mk b2
          clear b1 b2
          have ends : ∀ (wz : World) (n cc : Int), Below gm wr wz → Below w.heap.size w wz := fun wz n cc hz => (HB1.out.trans ((HBm.out.trans (HBr.out.trans hz)).mono (by have := HGM.out; omega)))
          have HEnds := Aside0.mk ends
          clear ends
          cases gk with
          | zero =>
            have hq : decide (((0 : Nat) : Int) - 1 ≥ 0) = false := by decide
            have hrun := HRun.out
            rw [List.drop_zero] at hrun
            obtain ⟨hl1, hbd⟩ := Pure.run_len l1 l0 1 stk hfit hone hrun
            obtain ⟨x, rfl⟩ : ∃ x, stk = [x] := by
              match stk, hl1 with
              | [x], _ => exact ⟨x, rfl⟩
            have hr := HH2.out
            rw [hrun] at hr
            obtain ⟨rfl, rfl⟩ := Prod.mk.inj hr
            have HM1 := Aside0.mk (show MachOK wr gm v ([] ++ [x]) A1 c1 l1 from HM.out)
            clear hr hrun hl1 hbd
            go_wp2_with fail
            refine (pop_calls gm v [] x A1 c1 l1 wr HM1.out).mono ?_
            rintro e wp ⟨rfl, vp, hmp, hbp, hgp⟩
            have b1 := (hbp.block w.heap.size (by have := HGM.out; omega)).trans C1.out
            have b2 := (hbp.block (w.heap.size + 1) (by have := HGM.out; omega)).trans C2.out
            have k1 : wp.cell? ⟨w.heap.size, 0, none⟩ = some (.int .i64 0) := blk_cell b1 0
            have k2 : wp.cell? ⟨w.heap.size + 1, 0, none⟩ = some (.int .i64 0) := blk_cell b2 0
            have z1 : wp.frozen? ⟨w.heap.size, 0, none⟩ = false := blk_frozen b1 0
            have z2 : wp.frozen? ⟨w.heap.size + 1, 0, none⟩ = false := blk_frozen b2 0
            have HBP := Aside0.mk (HEnds.out wp 0 0 hbp)
            clear b1 b2 hmp hbp hgp
            go_wp2
            refine leaves_cons (f := 60) (args := #[.pointer (some ⟨w.heap.size, 0, none⟩), .pointer (some ⟨w.heap.size + 1, 0, none⟩)]) (by simp) (by simp [go_sem]) ?_
            refine (catchE_idle _ _ _).mono ?_
            rintro e u' w'' ⟨rfl, rfl, rfl⟩
            simp [Leaves, settle, results, Tryd.results41, go_sem, k1, k2]
            exact ((HBP.out.setCell (Nat.le_refl _) _).setCell (by simp) _)
          | succ i =>
            have hlt : i < l0.length := by omega
            obtain ⟨d1, d2, d3, d4, d5, d6, d7⟩ := Pure.expr_at hone hfit l1 i hlt stk HRun.out
            have hR2 : Kd.C k63 wr A0 l0.length l0 := Kd.C_below HR.out (HEnds.out wr 0 0 (Below.refl _ _))
            obtain ⟨ad, e1, y0, y1⟩ := at_T63 hR2 i (by omega) (by omega)
            subst e1
            obtain ⟨o, ho⟩ : ∃ o, o = l0[i] := ⟨_, rfl⟩
            have hg : rd_T63 l0 i = o := by rw [ho]; exact Base.getD_get _ _ _ hlt
            rw [hg, Int.toNat_natCast] at y0 y1
            rw [← ho] at d1 d2 d3 d4 d5
            have hdo := do_any gm v stk A1 c1 l1 o d1 d2 d3 d4 d5 (by omega) d6 (by omega) wr HM.out
            have hrs : Pure.runS l1 (l0.drop i) = Pure.stepS l1 o stk := by
              rw [List.drop_eq_getElem_cons hlt, Pure.runS, HRun.out, ← ho]
            have e2 : ((i + 1 : Nat) : Int) - 1 = (i : Int) := by omega
            have e3 : IntKind.i64.wrap ((i : Int) - 1) = (i : Int) - 1 := by rw [IntKind.wrap_i64]; omega
            rw [e2]
            have hq : decide ((i : Int) ≥ 0) = true := decide_eq_true (by omega)
            have hidx : decide ((i : Int) < (l0.length : Int)) = true := decide_eq_true (by omega)
            have HDo := Aside0.mk hdo
            have HRs := Aside0.mk hrs
            clear hg ho hR2 hdo hrs e2 d1 d2 d3 d4 d5 d6 d7
            go_wp2_with fail
            refine HDo.out.mono ?_
            rintro e wd ⟨hbd, hm⟩
            cases hst : Pure.stepS l1 o stk with
            | error cc =>
              rw [hst] at hm
              obtain rfl := hm
              have hr := HH2.out
              rw [runS_err l1 l0 i cc (HRs.out.trans hst)] at hr
              obtain ⟨rfl, rfl⟩ := Prod.mk.inj hr
              have b1 := (hbd.block w.heap.size (by have := HGM.out; omega)).trans C1.out
              have b2 := (hbd.block (w.heap.size + 1) (by have := HGM.out; omega)).trans C2.out
              have k1 : wd.cell? ⟨w.heap.size, 0, none⟩ = some (.int .i64 0) := blk_cell b1 0
              have k2 : wd.cell? ⟨w.heap.size + 1, 0, none⟩ = some (.int .i64 0) := blk_cell b2 0
              have z1 : wd.frozen? ⟨w.heap.size, 0, none⟩ = false := blk_frozen b1 0
              have z2 : wd.frozen? ⟨w.heap.size + 1, 0, none⟩ = false := blk_frozen b2 0
              have HBD := Aside0.mk (HEnds.out wd 0 0 hbd)
              clear b1 b2 hbd hr hst
              refine leaves_cons (f := 60) (args := #[.pointer (some ⟨w.heap.size, 0, none⟩), .pointer (some ⟨w.heap.size + 1, 0, none⟩)]) (by simp) (by simp [go_sem]) ?_
              refine (catchE_panicking w.heap.size (w.heap.size + 1) (by omega) _ [] wd k1 z1 k2 z2).mono ?_
              rintro e u' w'' ⟨rfl, rfl, hsame⟩
              have j1 : w''.cell? ⟨w.heap.size, 0, none⟩ = some (.int .i64 0) := by rw [hsame.cell]; simp [go_sem, k1]
              have j2 : w''.cell? ⟨w.heap.size + 1, 0, none⟩ = some (.int .i64 cc) := by rw [hsame.cell]; simp [go_sem, k2]
              simp [Leaves, settle, results, Tryd.results41, go_sem, j1, j2]
              exact Same.below ((HBD.out.setCell (Nat.le_refl _) _).setCell (by simp) _) hsame
            | ok s' =>
              rw [hst] at hm
              obtain ⟨rfl, v', hM'⟩ := hm
              have HM' := Aside0.mk hM'
              have HRs' := Aside0.mk (HRs.out.trans hst)
              have HBD := Aside0.mk (HBr.out.trans hbd)
              clear hM' hbd hst y0 y1
              go_wp2
              go_roundg i
              case measure => omega
              case rel => exact ⟨s', v', rfl, ⟨by omega⟩, HRs', HM', HBD⟩
  · have herb : (er != 0) = true := by rw [bne_iff_ne]; exact her
    rw [if_neg her] at h
    obtain ⟨rfl, rfl⟩ := Prod.mk.inj h
    go_enter_defers Tryd.func41, Tryd.ntmps41
    go_wp2_with fail
    rw [← hW2]
    refine HCk.out.mono ?_
    rintro e w1 ⟨rfl, hb⟩
    have b1 := (hb.block _ (blk_lt HA1.out)).trans HA1.out
    have b2 := (hb.block _ (blk_lt HA2.out)).trans HA2.out
    have k1 : w1.cell? ⟨w.heap.size, 0, none⟩ = some (.int .i64 0) := blk_cell b1 0
    have k2 : w1.cell? ⟨w.heap.size + 1, 0, none⟩ = some (.int .i64 0) := blk_cell b2 0
    have z1 : w1.frozen? ⟨w.heap.size, 0, none⟩ = false := blk_frozen b1 0
    have z2 : w1.frozen? ⟨w.heap.size + 1, 0, none⟩ = false := blk_frozen b2 0
    have HB1 := Aside0.mk (below_step HB2.out hb)
    clear hb b1 b2
    go_wp2
    simp [bodyPostD, Leaves, settle, results, Tryd.results41, go_sem, k1, k2]
    exact ((HB1.out.setCell (Nat.le_refl _) _).setCell (by simp) _)

end

/-! ### foretellref_worked: function 63 -/
mutual
def foretellref_worked.l0 : Nat → List (S63) → List Int → List (List (S63)) → List Int → Int → Option (Int × Int)
  | 0, _, _, _, _, _ => none
  | k + 1, x0, x1, x6, x8, x9 => if x9 < (x6.length : Int) then (if x8.length < 17592186044416 then (foretellref_worked.l0 k x0 x1 x6 (x8 ++ [0]) (wrap64 (x9 + 1))) else (none)) else (foretellref_worked.l1 k x0 x1 x6 x8 (wrap64 ((x6.length : Int) - 1)))
def foretellref_worked.l1 : Nat → List (S63) → List Int → List (List (S63)) → List Int → Int → Option (Int × Int)
  | 0, _, _, _, _, _ => none
  | k + 1, x0, x1, x6, x8, x10 => if x10 ≥ 0 then (if 0 ≤ x10 then (if x10 < (x6.length : Int) then ((foretellref_worked.f k (rd_L2 x6 x10) x1).bind fun bt253 => (if bt253.2 = 0 then (if x10 < (x8.length : Int) then (foretellref_worked.l1 k x0 x1 x6 (x8.set (x10 : Int).toNat bt253.1) (wrap64 (x10 - 1))) else (none)) else (some (0, bt253.2)))) else (none)) else (none)) else (if 0 < (x0.length : Int) then (if ((rd_T63 x0 0).f0) = 1 then (foretellref_worked.j2 k ((rd_T63 x0 0).f1) false) else (if ((rd_T63 x0 0).f0) = 2 then (if 0 ≤ ((rd_T63 x0 0).f1) then (if ((rd_T63 x0 0).f1) < (x1.length : Int) then (foretellref_worked.j2 k (rd x1 ((rd_T63 x0 0).f1)) false) else (none)) else (none)) else (if ((rd_T63 x0 0).f0) = 3 then (if 0 < (x8.length : Int) then (if 1 < (x8.length : Int) then (foretellref_worked.j2 k (wrap64 ((rd x8 0) + (rd x8 1))) false) else (none)) else (none)) else (if ((rd_T63 x0 0).f0) = 4 then (if 0 < (x8.length : Int) then (if 1 < (x8.length : Int) then (foretellref_worked.j2 k (wrap64 ((rd x8 0) - (rd x8 1))) false) else (none)) else (none)) else (if ((rd_T63 x0 0).f0) = 5 then (if 0 < (x8.length : Int) then (if 1 < (x8.length : Int) then (foretellref_worked.j2 k (wrap64 ((rd x8 0) * (rd x8 1))) false) else (none)) else (none)) else (if ((rd_T63 x0 0).f0) = 6 then (if 0 < (x8.length : Int) then (if 1 < (x8.length : Int) then (foretellref_worked.j2 k 0 ((rd x8 0) == (rd x8 1))) else (none)) else (none)) else (if ((rd_T63 x0 0).f0) = 7 then (if 0 < (x8.length : Int) then (if 1 < (x8.length : Int) then (foretellref_worked.j2 k 0 (decide ((rd x8 0) < (rd x8 1)))) else (none)) else (none)) else (if ((rd_T63 x0 0).f0) = 8 then (if 0 < (x8.length : Int) then (if (rd x8 0) = 1 then (if 1 < (x8.length : Int) then (foretellref_worked.j2 k 0 ((rd x8 1) == 1)) else (none)) else (foretellref_worked.j2 k 0 false)) else (none)) else (if ((rd_T63 x0 0).f0) = 9 then (if 0 < (x8.length : Int) then (if (rd x8 0) = 1 then (foretellref_worked.j2 k 0 true) else (if 1 < (x8.length : Int) then (foretellref_worked.j2 k 0 ((rd x8 1) == 1)) else (none))) else (none)) else (if ((rd_T63 x0 0).f0) = 10 then (if 0 < (x8.length : Int) then (foretellref_worked.j2 k 0 ((rd x8 0) == 0)) else (none)) else (if ((rd_T63 x0 0).f0) = 11 then (foretellref_worked.j2 k 0 true) else (foretellref_worked.j2 k 0 false)))))))))))) else (none))
def foretellref_worked.j2 : Nat → Int → Bool → Option (Int × Int)
  | 0, _, _ => none
  | k + 1, x13, x14 => if x14 = true then ((foretellref_In.f 1 (-1000000) 1000000).bind fun t275 => (if t275 = true then (some (1, 0)) else (some (0, 8)))) else ((foretellref_In.f x13 (-1000000) 1000000).bind fun t276 => (if t276 = true then (some (x13, 0)) else (some (0, 8))))
def foretellref_worked.f : Nat → List (S63) → List Int → Option (Int × Int)
  | 0, _, _ => none
  | k + 1, l0, l1 => (foretellref_SplitOf.f k l0).bind fun bt245 => (foretellref_worked.l0 k l0 l1 bt245.1 ([] : List Int) 0)
end
theorem foretellref_worked.mono_l : ∀ k, (∀ y0 y1, LeO (foretellref_worked.f k y0 y1) (foretellref_worked.f (k + 1) y0 y1)) ∧ (∀ y0 y1 y2 y3 y4, LeO (foretellref_worked.l0 k y0 y1 y2 y3 y4) (foretellref_worked.l0 (k + 1) y0 y1 y2 y3 y4)) ∧ (∀ y0 y1 y2 y3 y4, LeO (foretellref_worked.l1 k y0 y1 y2 y3 y4) (foretellref_worked.l1 (k + 1) y0 y1 y2 y3 y4)) ∧ (∀ y0 y1, LeO (foretellref_worked.j2 k y0 y1) (foretellref_worked.j2 (k + 1) y0 y1))
  | 0 => ⟨fun _ _ r h => by simp [foretellref_worked.f] at h, fun _ _ _ _ _ r h => by simp [foretellref_worked.l0] at h, fun _ _ _ _ _ r h => by simp [foretellref_worked.l1] at h, fun _ _ r h => by simp [foretellref_worked.j2] at h⟩
  | k + 1 => by
    obtain ⟨ih0, ih1, ih2, ih3⟩ := foretellref_worked.mono_l k
    refine ⟨?_, ?_, ?_, ?_⟩
    · intro y0 y1
      unfold foretellref_worked.f
      repeat' first
      | (with_reducible exact ih0 _ _)
      | (with_reducible exact ih1 _ _ _ _ _)
      | (with_reducible exact ih2 _ _ _ _ _)
      | (with_reducible exact ih3 _ _)
      | (with_reducible exact foretellref_SplitOf.mono _ _)
      | (with_reducible exact LeO.refl _)
      | (with_reducible exact LeO.none _)
      | (with_reducible refine LeO.ite ?_ ?_)
      | (with_reducible refine LeO.bind ?_ (fun _ => ?_))
      | exact ih0 _ _
      | exact ih1 _ _ _ _ _
      | exact ih2 _ _ _ _ _
      | exact ih3 _ _
      | exact foretellref_SplitOf.mono _ _
      | exact LeO.none _
      | refine LeO.ite ?_ ?_
      | refine LeO.bind ?_ (fun _ => ?_)
    · intro y0 y1 y2 y3 y4
      unfold foretellref_worked.l0
      repeat' first
      | (with_reducible exact ih0 _ _)
      | (with_reducible exact ih1 _ _ _ _ _)
      | (with_reducible exact ih2 _ _ _ _ _)
      | (with_reducible exact ih3 _ _)
      | (with_reducible exact foretellref_SplitOf.mono _ _)
      | (with_reducible exact LeO.refl _)
      | (with_reducible exact LeO.none _)
      | (with_reducible refine LeO.ite ?_ ?_)
      | (with_reducible refine LeO.bind ?_ (fun _ => ?_))
      | exact ih0 _ _
      | exact ih1 _ _ _ _ _
      | exact ih2 _ _ _ _ _
      | exact ih3 _ _
      | exact foretellref_SplitOf.mono _ _
      | exact LeO.none _
      | refine LeO.ite ?_ ?_
      | refine LeO.bind ?_ (fun _ => ?_)
    · intro y0 y1 y2 y3 y4
      unfold foretellref_worked.l1
      repeat' first
      | (with_reducible exact ih0 _ _)
      | (with_reducible exact ih1 _ _ _ _ _)
      | (with_reducible exact ih2 _ _ _ _ _)
      | (with_reducible exact ih3 _ _)
      | (with_reducible exact foretellref_SplitOf.mono _ _)
      | (with_reducible exact LeO.refl _)
      | (with_reducible exact LeO.none _)
      | (with_reducible refine LeO.ite ?_ ?_)
      | (with_reducible refine LeO.bind ?_ (fun _ => ?_))
      | exact ih0 _ _
      | exact ih1 _ _ _ _ _
      | exact ih2 _ _ _ _ _
      | exact ih3 _ _
      | exact foretellref_SplitOf.mono _ _
      | exact LeO.none _
      | refine LeO.ite ?_ ?_
      | refine LeO.bind ?_ (fun _ => ?_)
    · intro y0 y1
      unfold foretellref_worked.j2
      repeat' first
      | (with_reducible exact ih0 _ _)
      | (with_reducible exact ih1 _ _ _ _ _)
      | (with_reducible exact ih2 _ _ _ _ _)
      | (with_reducible exact ih3 _ _)
      | (with_reducible exact foretellref_SplitOf.mono _ _)
      | (with_reducible exact LeO.refl _)
      | (with_reducible exact LeO.none _)
      | (with_reducible refine LeO.ite ?_ ?_)
      | (with_reducible refine LeO.bind ?_ (fun _ => ?_))
      | exact ih0 _ _
      | exact ih1 _ _ _ _ _
      | exact ih2 _ _ _ _ _
      | exact ih3 _ _
      | exact foretellref_SplitOf.mono _ _
      | exact LeO.none _
      | refine LeO.ite ?_ ?_
      | refine LeO.bind ?_ (fun _ => ?_)
theorem foretellref_worked.mono : ∀ a0 a1 k, LeO (foretellref_worked.f k a0 a1) (foretellref_worked.f (k + 1) a0 a1) := by
  intro a0 a1 k
  obtain ⟨ih0, ih1, ih2, ih3⟩ := foretellref_worked.mono_l k
  exact ih0 a0 a1
set_option maxHeartbeats 8000000 in
set_option maxRecDepth 100000 in
theorem foretellref_worked.calls (k : Nat) : ∀ (A0 : Option Addr) (c0 : Nat) (l0 : List (S63)) (A1 : Option Addr) (c1 : Nat) (l1 : List Int) (r1 : Int) (r2 : Int) (w : World) (hr0 : Kd.C k63 w A0 l0.length l0) (hc0 : l0.length ≤ c0) (hr1 : Kd.C (Kd.int .i64) w A1 l1.length l1) (hc1 : l1.length ≤ c1) (h : foretellref_worked.f k l0 l1 = some (r1, r2)),
    Calls Tryd.prog 63 #[.slice A0 l0.length c0, .slice A1 l1.length c1] w fun e w' => e = .returned (.tuple #[.int .i64 r1, .int .i64 r2]) ∧ Below w.heap.size w w' := by
  induction k using Nat.strongRecOn with
  | _ k ih =>
  intro A0 c0 l0 A1 c1 l1 r1 r2 w hr0 hc0 hr1 hc1 h
  cases k with
  | zero => exact absurd h (by simp [foretellref_worked.f])
  | succ k =>
  simp only [foretellref_worked.f] at h
  have HR0 := Aside0.mk hr0
  have HC0 := Aside0.mk hc0
  clear hr0 hc0
  have HR1 := Aside0.mk hr1
  have HC1 := Aside0.mk hc1
  clear hr1 hc1
  have HB := Aside0.mk (Below.refl w.heap.size w)
  have H : ((foretellref_SplitOf.f k l0).bind fun bt245 => (foretellref_worked.l0 k l0 l1 bt245.1 ([] : List Int) 0)) = some (r1, r2) := h
  clear h
  replace H := Option.bind_eq_some_iff.mp H
  obtain ⟨⟨t245, t246⟩, A30, H⟩ := H
  replace H : (foretellref_worked.l0 k l0 l1 t245 ([] : List Int) 0) = some (r1, r2) := H
  have A3 := Aside0.mk A30
  clear A30
  have H' := Aside0.mk H
  clear H
  go_enter Tryd.func63, Tryd.ntmps63
  go_wp2_with (first | (go_at_call 22; (with_reducible refine (foretellref_SplitOf.calls k _ _ l0 t245 t246 _ ?side1 ?side2 A3.out).mono ?_); (case side1 => repeat (first | exact HR0.out | (with_reducible refine Kd.C_alloc ?_ _) | (with_reducible refine Kd.C_drewN ?_ _) | (with_reducible refine Kd.C_drew ?_))); (case side2 => exact HC0.out); rintro e w4 ⟨v247, rfl, ho0, hb⟩; have n0_ := Aside0.mk (Kd.S_lower ho0 (below_size (by repeat (first | (with_reducible first | exact HB.out | apply below_alloc | apply pw_below_drewN | apply below_drew1) | exact HB.out)))); have n1_ := Aside0.mk (below_step (by repeat (first | (with_reducible first | exact HB.out | apply below_alloc | apply pw_below_drewN | apply below_drew1) | exact HB.out)) hb); clear HB; have HO248 := n0_; have HB := n1_; clear n0_ n1_; (try clear hb); (try clear hb2); (try clear hk); (try clear hi); (try clear ho0)))
  repeat (go_quiet (first | (go_at_call 22; (with_reducible refine (foretellref_SplitOf.calls k _ _ l0 t245 t246 _ ?side1 ?side2 A3.out).mono ?_); (case side1 => repeat (first | exact HR0.out | (with_reducible refine Kd.C_alloc ?_ _) | (with_reducible refine Kd.C_drewN ?_ _) | (with_reducible refine Kd.C_drew ?_))); (case side2 => exact HC0.out); rintro e w4 ⟨v247, rfl, ho0, hb⟩; have n0_ := Aside0.mk (Kd.S_lower ho0 (below_size (by repeat (first | (with_reducible first | exact HB.out | apply below_alloc | apply pw_below_drewN | apply below_drew1) | exact HB.out)))); have n1_ := Aside0.mk (below_step (by repeat (first | (with_reducible first | exact HB.out | apply below_alloc | apply pw_below_drewN | apply below_drew1) | exact HB.out)) hb); clear HB; have HO248 := n0_; have HB := n1_; clear n0_ n1_; (try clear hb); (try clear hb2); (try clear hk); (try clear hi); (try clear ho0))); try go_wp2_with (first | (go_at_call 22; (with_reducible refine (foretellref_SplitOf.calls k _ _ l0 t245 t246 _ ?side1 ?side2 A3.out).mono ?_); (case side1 => repeat (first | exact HR0.out | (with_reducible refine Kd.C_alloc ?_ _) | (with_reducible refine Kd.C_drewN ?_ _) | (with_reducible refine Kd.C_drew ?_))); (case side2 => exact HC0.out); rintro e w4 ⟨v247, rfl, ho0, hb⟩; have n0_ := Aside0.mk (Kd.S_lower ho0 (below_size (by repeat (first | (with_reducible first | exact HB.out | apply below_alloc | apply pw_below_drewN | apply below_drew1) | exact HB.out)))); have n1_ := Aside0.mk (below_step (by repeat (first | (with_reducible first | exact HB.out | apply below_alloc | apply pw_below_drewN | apply below_drew1) | exact HB.out)) hb); clear HB; have HO248 := n0_; have HB := n1_; clear n0_ n1_; (try clear hb); (try clear hb2); (try clear hk); (try clear hi); (try clear ho0))))
  go_loopg [8, 9] k (fun kq v8 v9 w' => ∃ (x8_1 : List Int) (x9_1 : Int), v9 = .int .i64 x9_1 ∧ Aside0 (foretellref_worked.l0 kq l0 l1 t245 x8_1 x9_1 = some (r1, r2)) ∧ Aside0 (kq ≤ k) ∧ Aside0 (Kd.S (Kd.slice 63 k63) 26 w' w.heap.size (fun _ => True) v247 t245) ∧ Aside0 (Kd.R (Kd.int .i64) 3 w' w.heap.size (fun _ => True) v8 x8_1) ∧ Aside0 (Below w.heap.size w w'))
  case atStart => exact ⟨(([] : List Int)), (0), (by first | rfl | (simp; done) | (simp [*]; done)), H', ⟨Nat.le_refl _⟩, ⟨by (with_reducible repeat (first | apply Kd.S_alloc | apply Kd.S_drewN | apply Kd.S_drew)); exact HO248.out⟩, ⟨by first | exact Kd.R_nil _ _ _ _ _ | exact Kd.N_nil _ _ _ _ _ | exact Kd.V_nil _ _ _ _ _ | exact Kd.Q_nil _ _ _ _ _ | exact Kd.S_nil _ _ _ _ _⟩, ⟨by repeat (first | (with_reducible first | exact HB.out | apply below_alloc | apply pw_below_drewN | apply below_drew1) | exact HB.out)⟩⟩
  case round =>
    clear H'
    try clear c1
    try clear p2
    obtain ⟨x8_1, x9_1, rfl, HA, HK1, HO_6, HO_8, HB⟩ := hrel
    cases gk with
    | zero => exact absurd HA.out (by simp [foretellref_worked.l0])
    | succ k1 =>
      have H := HA.out
      clear HA
      simp only [foretellref_worked.l0] at H
      by_cases c5 : x9_1 < (t245.length : Int)
      · rw [if_pos c5] at H
        have c5b0 : decide (x9_1 < (t245.length : Int)) = true := decide_eq_true c5
        clear c5
        by_cases c6 : x8_1.length < 17592186044416
        · rw [if_pos c6] at H
          have LMc6 := Aside0.mk c6
          clear c6
          obtain ⟨y249, hy249⟩ : ∃ y_ : List Int, y_ = (x8_1 ++ [0]) := ⟨_, rfl⟩
          replace H : (foretellref_worked.l0 k1 l0 l1 t245 y249 (wrap64 (x9_1 + 1))) = some (r1, r2) := by first | (rw [hy249]; with_reducible exact H) | (have H2_ := (Option.bind_some _ _).symm.trans H; rw [hy249]; with_reducible exact H2_) | (have H2_ := (Option.bind_some _ _).symm.trans H; with_reducible exact H2_) | with_reducible exact H | (rw [hy249]; exact H) | exact H
          have Ny249 := Aside0.mk hy249
          clear hy249
          have H' := Aside0.mk H
          clear H
          obtain ⟨Ao7, co7, eo7⟩ := Kd.S_slice HO_6.out
          subst eo7
          go_wp2_with (first | ((with_reducible refine gate_builtin (b := .append) (xs := #[.tmp 26, .tmp 27]) rfl ?_); at_builtin; refine Kd.R_append (Kd.int .i64) (w0 := w) w.heap.size rfl (.tmp 26) (.tmp 27) 28 3 (.int .i64 0) 8 rfl Tryd.underlying28 info3 rfl (by decide) (by omega) u8 x8_1 0 [.int .i64 0] (fun _ => True) (fun _ => False) rfl rfl ?aP (fun _ hk => hk.elim) ?aF ?aO ?aB ?aS ?aL ?_; (case aP => exact rfl); (case aB => exact (by repeat (first | (with_reducible first | exact HB.out | apply below_alloc | apply pw_below_drewN | apply below_drew1) | exact HB.out))); (case aF => exact (fun _ _ => trivial)); (case aO => exact (by (with_reducible repeat (first | apply Kd.R_alloc | apply Kd.R_drewN | apply Kd.R_drew)); exact HO_8.out)); (case aS => exact (below_size (by repeat (first | (with_reducible first | exact HB.out | apply below_alloc | apply pw_below_drewN | apply below_drew1) | exact HB.out)))); (case aL => have := LMc6.out; omega); intro v250 w8 ho hb hg hat; rw [← Ny249.out] at ho; have n0_ := Aside0.mk (Kd.S_over' (by (with_reducible repeat (first | apply Kd.S_alloc | apply Kd.S_drewN | apply Kd.S_drew)); exact HO_6.out) (Kd.R_typed (by (with_reducible repeat (first | apply Kd.R_alloc | apply Kd.R_drewN | apply Kd.R_drew)); exact HO_8.out)) (by decide) hg); have n1_ := Aside0.mk (hb); have n2_ := Aside0.mk (ho); clear HO_6; clear HB; clear HO_8; have HO_6 := n0_; have HB := n1_; have HO251 := n2_; clear n0_ n1_ n2_; clear ho hb hg hat))
          repeat (go_quiet (first | ((with_reducible refine gate_builtin (b := .append) (xs := #[.tmp 26, .tmp 27]) rfl ?_); at_builtin; refine Kd.R_append (Kd.int .i64) (w0 := w) w.heap.size rfl (.tmp 26) (.tmp 27) 28 3 (.int .i64 0) 8 rfl Tryd.underlying28 info3 rfl (by decide) (by omega) u8 x8_1 0 [.int .i64 0] (fun _ => True) (fun _ => False) rfl rfl ?aP (fun _ hk => hk.elim) ?aF ?aO ?aB ?aS ?aL ?_; (case aP => exact rfl); (case aB => exact (by repeat (first | (with_reducible first | exact HB.out | apply below_alloc | apply pw_below_drewN | apply below_drew1) | exact HB.out))); (case aF => exact (fun _ _ => trivial)); (case aO => exact (by (with_reducible repeat (first | apply Kd.R_alloc | apply Kd.R_drewN | apply Kd.R_drew)); exact HO_8.out)); (case aS => exact (below_size (by repeat (first | (with_reducible first | exact HB.out | apply below_alloc | apply pw_below_drewN | apply below_drew1) | exact HB.out)))); (case aL => have := LMc6.out; omega); intro v250 w8 ho hb hg hat; rw [← Ny249.out] at ho; have n0_ := Aside0.mk (Kd.S_over' (by (with_reducible repeat (first | apply Kd.S_alloc | apply Kd.S_drewN | apply Kd.S_drew)); exact HO_6.out) (Kd.R_typed (by (with_reducible repeat (first | apply Kd.R_alloc | apply Kd.R_drewN | apply Kd.R_drew)); exact HO_8.out)) (by decide) hg); have n1_ := Aside0.mk (hb); have n2_ := Aside0.mk (ho); clear HO_6; clear HB; clear HO_8; have HO_6 := n0_; have HB := n1_; have HO251 := n2_; clear n0_ n1_ n2_; clear ho hb hg hat)); try go_wp2_with (first | ((with_reducible refine gate_builtin (b := .append) (xs := #[.tmp 26, .tmp 27]) rfl ?_); at_builtin; refine Kd.R_append (Kd.int .i64) (w0 := w) w.heap.size rfl (.tmp 26) (.tmp 27) 28 3 (.int .i64 0) 8 rfl Tryd.underlying28 info3 rfl (by decide) (by omega) u8 x8_1 0 [.int .i64 0] (fun _ => True) (fun _ => False) rfl rfl ?aP (fun _ hk => hk.elim) ?aF ?aO ?aB ?aS ?aL ?_; (case aP => exact rfl); (case aB => exact (by repeat (first | (with_reducible first | exact HB.out | apply below_alloc | apply pw_below_drewN | apply below_drew1) | exact HB.out))); (case aF => exact (fun _ _ => trivial)); (case aO => exact (by (with_reducible repeat (first | apply Kd.R_alloc | apply Kd.R_drewN | apply Kd.R_drew)); exact HO_8.out)); (case aS => exact (below_size (by repeat (first | (with_reducible first | exact HB.out | apply below_alloc | apply pw_below_drewN | apply below_drew1) | exact HB.out)))); (case aL => have := LMc6.out; omega); intro v250 w8 ho hb hg hat; rw [← Ny249.out] at ho; have n0_ := Aside0.mk (Kd.S_over' (by (with_reducible repeat (first | apply Kd.S_alloc | apply Kd.S_drewN | apply Kd.S_drew)); exact HO_6.out) (Kd.R_typed (by (with_reducible repeat (first | apply Kd.R_alloc | apply Kd.R_drewN | apply Kd.R_drew)); exact HO_8.out)) (by decide) hg); have n1_ := Aside0.mk (hb); have n2_ := Aside0.mk (ho); clear HO_6; clear HB; clear HO_8; have HO_6 := n0_; have HB := n1_; have HO251 := n2_; clear n0_ n1_ n2_; clear ho hb hg hat)))
          go_roundg k1
          case measure => have := HK1.out; omega
          case rel => exact ⟨(y249), (wrap64 (x9_1 + 1)), (by first | rfl | (simp; done) | (simp [*]; done)), H', ⟨by have := HK1.out; omega⟩, ⟨by (with_reducible repeat (first | apply Kd.S_alloc | apply Kd.S_drewN | apply Kd.S_drew)); exact HO_6.out⟩, ⟨by (with_reducible repeat (first | apply Kd.R_alloc | apply Kd.R_drewN | apply Kd.R_drew)); exact HO251.out⟩, ⟨by repeat (first | (with_reducible first | exact HB.out | apply below_alloc | apply pw_below_drewN | apply below_drew1) | exact HB.out)⟩⟩
        · rw [if_neg c6] at H
          exact absurd H (by simp)
      · rw [if_neg c5] at H
        have c5b0 : decide (x9_1 < (t245.length : Int)) = false := decide_eq_false c5
        clear c5
        have H' := Aside0.mk H
        clear H
        obtain ⟨Ao9, co9, eo9⟩ := Kd.S_slice HO_6.out
        subst eo9
        go_wp2
        repeat (go_quiet (fail); try go_wp2)
        go_loopg [10] k1 (fun kq v10 w' => ∃ (x8_2 : List Int) (x10_2 : Int), v10 = .int .i64 x10_2 ∧ Aside0 (foretellref_worked.l1 kq l0 l1 t245 x8_2 x10_2 = some (r1, r2)) ∧ Aside0 (kq ≤ k1) ∧ Aside0 (Kd.S (Kd.slice 63 k63) 26 w' w.heap.size (fun _ => True) (.slice Ao9 t245.length co9) t245) ∧ Aside0 (Kd.R (Kd.int .i64) 3 w' w.heap.size (fun _ => True) u8 x8_2) ∧ Aside0 (Below w.heap.size w w'))
        case atStart => exact ⟨(x8_1), (wrap64 ((t245.length : Int) - 1)), (by first | rfl | (simp; done) | (simp [*]; done)), H', ⟨Nat.le_refl _⟩, ⟨by (with_reducible repeat (first | apply Kd.S_alloc | apply Kd.S_drewN | apply Kd.S_drew)); exact HO_6.out⟩, ⟨by (with_reducible repeat (first | apply Kd.R_alloc | apply Kd.R_drewN | apply Kd.R_drew)); exact HO_8.out⟩, ⟨by repeat (first | (with_reducible first | exact HB.out | apply below_alloc | apply pw_below_drewN | apply below_drew1) | exact HB.out)⟩⟩
        case round =>
          clear H'
          try clear c1
          try clear p2
          try clear c5
          try clear c5b0
          try clear c6
          try clear p6
          try clear p2
          obtain ⟨x8_2, x10_2, rfl, HA, HK2, HO_6, HO_8, HB⟩ := hrel
          cases gk with
          | zero => exact absurd HA.out (by simp [foretellref_worked.l1])
          | succ k2 =>
            have H := HA.out
            clear HA
            simp only [foretellref_worked.l1] at H
            by_cases c10 : x10_2 ≥ 0
            · rw [if_pos c10] at H
              have c10b0 : decide (0 ≤ x10_2) = true := decide_eq_true c10
              clear c10
              by_cases c11 : 0 ≤ x10_2
              · rw [if_pos c11] at H
                have c11b0 : decide (0 ≤ x10_2) = true := decide_eq_true c11
                clear c11
                by_cases c12 : x10_2 < (t245.length : Int)
                · rw [if_pos c12] at H
                  have c12b0 : decide (x10_2 < (t245.length : Int)) = true := decide_eq_true c12
                  clear c12
                  replace H := Option.bind_eq_some_iff.mp H
                  obtain ⟨⟨t253, t254⟩, A130, H⟩ := H
                  replace H : (if t254 = 0 then (if x10_2 < (x8_2.length : Int) then (foretellref_worked.l1 k2 l0 l1 t245 (x8_2.set (x10_2 : Int).toNat t253) (wrap64 (x10_2 - 1))) else (none)) else (some (0, t254))) = some (r1, r2) := H
                  have A13 := Aside0.mk A130
                  clear A130
                  by_cases c14 : t254 = 0
                  · rw [if_pos c14] at H
                    have c14b0 : (t254 == 0) = true := beq_iff_eq.mpr c14
                    have c14b1 : (t254 != 0) = false := bne_eq_false_iff_eq.mpr c14
                    clear c14
                    by_cases c15 : x10_2 < (x8_2.length : Int)
                    · rw [if_pos c15] at H
                      have c15b0 : decide (x10_2 < (x8_2.length : Int)) = true := decide_eq_true c15
                      clear c15
                      obtain ⟨y255, hy255⟩ : ∃ y_ : List Int, y_ = (x8_2.set (x10_2 : Int).toNat t253) := ⟨_, rfl⟩
                      replace H : (foretellref_worked.l1 k2 l0 l1 t245 y255 (wrap64 (x10_2 - 1))) = some (r1, r2) := by first | (rw [hy255]; with_reducible exact H) | (have H2_ := (Option.bind_some _ _).symm.trans H; rw [hy255]; with_reducible exact H2_) | (have H2_ := (Option.bind_some _ _).symm.trans H; with_reducible exact H2_) | with_reducible exact H | (rw [hy255]; exact H) | exact H
                      have Ny255 := Aside0.mk hy255
                      clear hy255
                      have H' := Aside0.mk H
                      clear H
                      have p252 : 0 ≤ (x10_2 : Int) := of_decide_eq_true (by first | (with_reducible assumption) | assumption)
                      have q252 : x10_2 < (t245.length : Int) := of_decide_eq_true (by first | (with_reducible assumption) | assumption)
                      obtain ⟨ad252, A252_0, c252_0, e252, hx252_0, hl252_0, hi252_0⟩ := at_L2 (Kd.S_reads' HO_6.out).2.2 x10_2 p252 q252
                      cases e252
                      obtain ⟨ce252, hce252, hMe252, hcc252⟩ := Kd.S_get HO_6.out [] x10_2 p252 (by first | exact q252 | exact of_decide_eq_true (by first | (with_reducible assumption) | assumption) | (have e_ := (Kd.S_reads' HO_6.out).1; omega))
                      obtain ⟨ve252_0, rfl, ge252_0⟩ := hMe252
                      have hv252_0 := hcc252 0 _ rfl
                      rw [Nat.add_zero, show ((Kd.slice 63 k63)).sz = 1 from rfl, Nat.mul_one] at hv252_0
                      replace hv252_0 := Option.some.inj (hv252_0.symm.trans hx252_0)
                      rw [hv252_0] at ge252_0
                      have HL252_0 := Aside0.mk (show Kd.R k63 63 _ _ _ _ (rd_L2 t245 x10_2) from ge252_0)
                      clear hv252_0 ge252_0
                      clear hcc252 hce252
                      have HR252_0 := Aside0.mk hi252_0
                      have HC252_0 := Aside0.mk hl252_0
                      clear hi252_0 hl252_0
                      replace p252 := eq_true p252
                      replace q252 := eq_true q252
                      go_wp2_with (first | (go_at_call 63; (with_reducible refine (ih k2 (by have := HK1.out; have := HK2.out; omega) _ _ (rd_L2 t245 x10_2) _ _ l1 t253 t254 _ ?side1 ?side2 ?side3 ?side4 A13.out).mono ?_); (case side1 => repeat (first | exact (by repeat (first | (with_reducible exact HR252_0.out) | (with_reducible refine Kd.C_alloc ?_ _) | (with_reducible refine Kd.C_drewN ?_ _) | (with_reducible refine Kd.C_drew ?_) | exact HR252_0.out)) | (with_reducible refine Kd.C_alloc ?_ _) | (with_reducible refine Kd.C_drewN ?_ _) | (with_reducible refine Kd.C_drew ?_))); (case side2 => exact HC252_0.out); (case side3 => repeat (first | exact (Kd.C_below HR1.out HB.out) | (with_reducible refine Kd.C_alloc ?_ _) | (with_reducible refine Kd.C_drewN ?_ _) | (with_reducible refine Kd.C_drew ?_))); (case side4 => exact HC1.out); rintro e w17 ⟨rfl, hb⟩; have n0_ := Aside0.mk (Kd.S_below (by (with_reducible repeat (first | apply Kd.S_alloc | apply Kd.S_drewN | apply Kd.S_drew)); exact HO_6.out) hb); have n1_ := Aside0.mk (Kd.R_below (by (with_reducible repeat (first | apply Kd.R_alloc | apply Kd.R_drewN | apply Kd.R_drew)); exact HO_8.out) hb); have n2_ := Aside0.mk (Kd.R_below (by (with_reducible repeat (first | apply Kd.R_alloc | apply Kd.R_drewN | apply Kd.R_drew)); exact HL252_0.out) hb); have n3_ := Aside0.mk (Kd.C_below (by repeat (first | (with_reducible exact HR252_0.out) | (with_reducible refine Kd.C_alloc ?_ _) | (with_reducible refine Kd.C_drewN ?_ _) | (with_reducible refine Kd.C_drew ?_) | exact HR252_0.out)) hb); have n4_ := Aside0.mk (below_step (by repeat (first | (with_reducible first | exact HB.out | apply below_alloc | apply pw_below_drewN | apply below_drew1) | exact HB.out)) hb); clear HO_6; clear HO_8; clear HL252_0; clear HR252_0; clear HB; have HO_6 := n0_; have HO_8 := n1_; have HL252_0 := n2_; have HR252_0 := n3_; have HB := n4_; clear n0_ n1_ n2_ n3_ n4_; (try clear hb); (try clear hb2); (try clear hk); (try clear hi); have p16 : 0 ≤ (x10_2 : Int) := of_decide_eq_true (by first | (with_reducible assumption) | assumption); have q16 : (x10_2 : Int) < ((x8_2.length : Int) : Int) := of_decide_eq_true (by first | (with_reducible assumption) | assumption); obtain ⟨go16, co16, eo16, gb16, gl16, cl16, HG16⟩ := Kd.R_form HO_8.out (by omega); (first | cases eo16 | (injection eo16 with ea_ en_ ec_; (first | subst ea_ | (injection ea_ with ea_; subst ea_)); subst ec_; clear en_)); have GB16 := Aside0.mk gb16; have GG16 := Aside0.mk HG16; clear gb16 gl16 HG16; obtain ⟨hx16_0, hf16_0⟩ := Kd.R_celln 0 HO_8.out (x10_2 : Int) p16 q16; replace p16 := eq_true p16; replace q16 := eq_true q16; obtain ⟨hy18_, hz18_⟩ := Kd.R_celln 0 HO_8.out (x10_2 : Int) (of_decide_eq_true (by first | (with_reducible assumption) | assumption)) (of_decide_eq_true (by first | (with_reducible assumption) | assumption)); have HP18 := Kd.R_putg HO_8.out (x10_2 : Int) t253) | ((with_reducible refine gate_store (t := 3) (p := 51) rfl ?_); (try (rw [drewN_self w17]; generalize hq_ : World.drewN w17 _ = w17; have n0_ := Aside0.mk (Kd.S_at hq_ HO_6.out); have n1_ := Aside0.mk (Kd.R_at hq_ HO_8.out); have n2_ := Aside0.mk (Kd.R_at hq_ HL252_0.out); have n3_ := Aside0.mk (below_at hq_ HB.out); clear hq_ HO_6 HO_8 HL252_0 HB; have HO_6 := n0_; have HO_8 := n1_; have HL252_0 := n2_; have HB := n3_; clear n0_ n1_ n2_ n3_; (try (obtain ⟨hy18_, hz18_⟩ := Kd.R_celln 0 HO_8.out (x10_2 : Int) (of_decide_eq_true (by first | (with_reducible assumption) | assumption)) (of_decide_eq_true (by first | (with_reducible assumption) | assumption)))); (try (have HP18 := Kd.R_putg HO_8.out (x10_2 : Int) t253)))); refine store_event (t := 3) (p := 51) (v := ?vo_w19) (w1 := (w17.setCell ⟨go16, (x10_2 : Int).toNat, none⟩ (.int .i64 t253))) ?hg ?ho ?hn ?hr ?_; (case ho => rfl); (case hg => rfl); (case hn => rfl); (case hr => first | (go_simp; done) | (go_simp; rfl)); intro w19 hw; have hg : w17.grownBy w19 (some go16) := (by rw [hw]; exact HP18.2); have hp_ : Kd.R (Kd.int .i64) 3 w19 w.heap.size (fun _ => True) (.slice (some ⟨go16, 0, none⟩) x8_2.length co16) y255 := (by rw [hw, Ny255.out]; exact HP18.1); clear HP18; have n0_ := Aside0.mk (Kd.S_over' (v := (.slice (some ⟨go16, 0, none⟩) x8_2.length co16)) (by (with_reducible repeat (first | apply Kd.S_alloc | apply Kd.S_drewN | apply Kd.S_drew)); exact HO_6.out) (Kd.R_typed HO_8.out) (by decide) hg); have n1_ := Aside0.mk (hp_); have n2_ := Aside0.mk (Kd.R_over' (v := (.slice (some ⟨go16, 0, none⟩) x8_2.length co16)) (by (with_reducible repeat (first | apply Kd.R_alloc | apply Kd.R_drewN | apply Kd.R_drew)); exact HL252_0.out) (Kd.R_typed HO_8.out) (by decide) hg); have n3_ := Aside0.mk ((by rw [hw]; exact below_set (HB.out) GB16.out : Below w.heap.size w w19)); clear HO_6; clear HO_8; clear HL252_0; clear HB; have HO_6 := n0_; have HO_8 := n1_; have HL252_0 := n2_; have HB := n3_; clear n0_ n1_ n2_ n3_; clear hg hw hp_))
                      repeat (go_quiet (first | (go_at_call 63; (with_reducible refine (ih k2 (by have := HK1.out; have := HK2.out; omega) _ _ (rd_L2 t245 x10_2) _ _ l1 t253 t254 _ ?side1 ?side2 ?side3 ?side4 A13.out).mono ?_); (case side1 => repeat (first | exact (by repeat (first | (with_reducible exact HR252_0.out) | (with_reducible refine Kd.C_alloc ?_ _) | (with_reducible refine Kd.C_drewN ?_ _) | (with_reducible refine Kd.C_drew ?_) | exact HR252_0.out)) | (with_reducible refine Kd.C_alloc ?_ _) | (with_reducible refine Kd.C_drewN ?_ _) | (with_reducible refine Kd.C_drew ?_))); (case side2 => exact HC252_0.out); (case side3 => repeat (first | exact (Kd.C_below HR1.out HB.out) | (with_reducible refine Kd.C_alloc ?_ _) | (with_reducible refine Kd.C_drewN ?_ _) | (with_reducible refine Kd.C_drew ?_))); (case side4 => exact HC1.out); rintro e w17 ⟨rfl, hb⟩; have n0_ := Aside0.mk (Kd.S_below (by (with_reducible repeat (first | apply Kd.S_alloc | apply Kd.S_drewN | apply Kd.S_drew)); exact HO_6.out) hb); have n1_ := Aside0.mk (Kd.R_below (by (with_reducible repeat (first | apply Kd.R_alloc | apply Kd.R_drewN | apply Kd.R_drew)); exact HO_8.out) hb); have n2_ := Aside0.mk (Kd.R_below (by (with_reducible repeat (first | apply Kd.R_alloc | apply Kd.R_drewN | apply Kd.R_drew)); exact HL252_0.out) hb); have n3_ := Aside0.mk (Kd.C_below (by repeat (first | (with_reducible exact HR252_0.out) | (with_reducible refine Kd.C_alloc ?_ _) | (with_reducible refine Kd.C_drewN ?_ _) | (with_reducible refine Kd.C_drew ?_) | exact HR252_0.out)) hb); have n4_ := Aside0.mk (below_step (by repeat (first | (with_reducible first | exact HB.out | apply below_alloc | apply pw_below_drewN | apply below_drew1) | exact HB.out)) hb); clear HO_6; clear HO_8; clear HL252_0; clear HR252_0; clear HB; have HO_6 := n0_; have HO_8 := n1_; have HL252_0 := n2_; have HR252_0 := n3_; have HB := n4_; clear n0_ n1_ n2_ n3_ n4_; (try clear hb); (try clear hb2); (try clear hk); (try clear hi); have p16 : 0 ≤ (x10_2 : Int) := of_decide_eq_true (by first | (with_reducible assumption) | assumption); have q16 : (x10_2 : Int) < ((x8_2.length : Int) : Int) := of_decide_eq_true (by first | (with_reducible assumption) | assumption); obtain ⟨go16, co16, eo16, gb16, gl16, cl16, HG16⟩ := Kd.R_form HO_8.out (by omega); (first | cases eo16 | (injection eo16 with ea_ en_ ec_; (first | subst ea_ | (injection ea_ with ea_; subst ea_)); subst ec_; clear en_)); have GB16 := Aside0.mk gb16; have GG16 := Aside0.mk HG16; clear gb16 gl16 HG16; obtain ⟨hx16_0, hf16_0⟩ := Kd.R_celln 0 HO_8.out (x10_2 : Int) p16 q16; replace p16 := eq_true p16; replace q16 := eq_true q16; obtain ⟨hy18_, hz18_⟩ := Kd.R_celln 0 HO_8.out (x10_2 : Int) (of_decide_eq_true (by first | (with_reducible assumption) | assumption)) (of_decide_eq_true (by first | (with_reducible assumption) | assumption)); have HP18 := Kd.R_putg HO_8.out (x10_2 : Int) t253) | ((with_reducible refine gate_store (t := 3) (p := 51) rfl ?_); (try (rw [drewN_self w17]; generalize hq_ : World.drewN w17 _ = w17; have n0_ := Aside0.mk (Kd.S_at hq_ HO_6.out); have n1_ := Aside0.mk (Kd.R_at hq_ HO_8.out); have n2_ := Aside0.mk (Kd.R_at hq_ HL252_0.out); have n3_ := Aside0.mk (below_at hq_ HB.out); clear hq_ HO_6 HO_8 HL252_0 HB; have HO_6 := n0_; have HO_8 := n1_; have HL252_0 := n2_; have HB := n3_; clear n0_ n1_ n2_ n3_; (try (obtain ⟨hy18_, hz18_⟩ := Kd.R_celln 0 HO_8.out (x10_2 : Int) (of_decide_eq_true (by first | (with_reducible assumption) | assumption)) (of_decide_eq_true (by first | (with_reducible assumption) | assumption)))); (try (have HP18 := Kd.R_putg HO_8.out (x10_2 : Int) t253)))); refine store_event (t := 3) (p := 51) (v := ?vo_w19) (w1 := (w17.setCell ⟨go16, (x10_2 : Int).toNat, none⟩ (.int .i64 t253))) ?hg ?ho ?hn ?hr ?_; (case ho => rfl); (case hg => rfl); (case hn => rfl); (case hr => first | (go_simp; done) | (go_simp; rfl)); intro w19 hw; have hg : w17.grownBy w19 (some go16) := (by rw [hw]; exact HP18.2); have hp_ : Kd.R (Kd.int .i64) 3 w19 w.heap.size (fun _ => True) (.slice (some ⟨go16, 0, none⟩) x8_2.length co16) y255 := (by rw [hw, Ny255.out]; exact HP18.1); clear HP18; have n0_ := Aside0.mk (Kd.S_over' (v := (.slice (some ⟨go16, 0, none⟩) x8_2.length co16)) (by (with_reducible repeat (first | apply Kd.S_alloc | apply Kd.S_drewN | apply Kd.S_drew)); exact HO_6.out) (Kd.R_typed HO_8.out) (by decide) hg); have n1_ := Aside0.mk (hp_); have n2_ := Aside0.mk (Kd.R_over' (v := (.slice (some ⟨go16, 0, none⟩) x8_2.length co16)) (by (with_reducible repeat (first | apply Kd.R_alloc | apply Kd.R_drewN | apply Kd.R_drew)); exact HL252_0.out) (Kd.R_typed HO_8.out) (by decide) hg); have n3_ := Aside0.mk ((by rw [hw]; exact below_set (HB.out) GB16.out : Below w.heap.size w w19)); clear HO_6; clear HO_8; clear HL252_0; clear HB; have HO_6 := n0_; have HO_8 := n1_; have HL252_0 := n2_; have HB := n3_; clear n0_ n1_ n2_ n3_; clear hg hw hp_)); try go_wp2_with (first | (go_at_call 63; (with_reducible refine (ih k2 (by have := HK1.out; have := HK2.out; omega) _ _ (rd_L2 t245 x10_2) _ _ l1 t253 t254 _ ?side1 ?side2 ?side3 ?side4 A13.out).mono ?_); (case side1 => repeat (first | exact (by repeat (first | (with_reducible exact HR252_0.out) | (with_reducible refine Kd.C_alloc ?_ _) | (with_reducible refine Kd.C_drewN ?_ _) | (with_reducible refine Kd.C_drew ?_) | exact HR252_0.out)) | (with_reducible refine Kd.C_alloc ?_ _) | (with_reducible refine Kd.C_drewN ?_ _) | (with_reducible refine Kd.C_drew ?_))); (case side2 => exact HC252_0.out); (case side3 => repeat (first | exact (Kd.C_below HR1.out HB.out) | (with_reducible refine Kd.C_alloc ?_ _) | (with_reducible refine Kd.C_drewN ?_ _) | (with_reducible refine Kd.C_drew ?_))); (case side4 => exact HC1.out); rintro e w17 ⟨rfl, hb⟩; have n0_ := Aside0.mk (Kd.S_below (by (with_reducible repeat (first | apply Kd.S_alloc | apply Kd.S_drewN | apply Kd.S_drew)); exact HO_6.out) hb); have n1_ := Aside0.mk (Kd.R_below (by (with_reducible repeat (first | apply Kd.R_alloc | apply Kd.R_drewN | apply Kd.R_drew)); exact HO_8.out) hb); have n2_ := Aside0.mk (Kd.R_below (by (with_reducible repeat (first | apply Kd.R_alloc | apply Kd.R_drewN | apply Kd.R_drew)); exact HL252_0.out) hb); have n3_ := Aside0.mk (Kd.C_below (by repeat (first | (with_reducible exact HR252_0.out) | (with_reducible refine Kd.C_alloc ?_ _) | (with_reducible refine Kd.C_drewN ?_ _) | (with_reducible refine Kd.C_drew ?_) | exact HR252_0.out)) hb); have n4_ := Aside0.mk (below_step (by repeat (first | (with_reducible first | exact HB.out | apply below_alloc | apply pw_below_drewN | apply below_drew1) | exact HB.out)) hb); clear HO_6; clear HO_8; clear HL252_0; clear HR252_0; clear HB; have HO_6 := n0_; have HO_8 := n1_; have HL252_0 := n2_; have HR252_0 := n3_; have HB := n4_; clear n0_ n1_ n2_ n3_ n4_; (try clear hb); (try clear hb2); (try clear hk); (try clear hi); have p16 : 0 ≤ (x10_2 : Int) := of_decide_eq_true (by first | (with_reducible assumption) | assumption); have q16 : (x10_2 : Int) < ((x8_2.length : Int) : Int) := of_decide_eq_true (by first | (with_reducible assumption) | assumption); obtain ⟨go16, co16, eo16, gb16, gl16, cl16, HG16⟩ := Kd.R_form HO_8.out (by omega); (first | cases eo16 | (injection eo16 with ea_ en_ ec_; (first | subst ea_ | (injection ea_ with ea_; subst ea_)); subst ec_; clear en_)); have GB16 := Aside0.mk gb16; have GG16 := Aside0.mk HG16; clear gb16 gl16 HG16; obtain ⟨hx16_0, hf16_0⟩ := Kd.R_celln 0 HO_8.out (x10_2 : Int) p16 q16; replace p16 := eq_true p16; replace q16 := eq_true q16; obtain ⟨hy18_, hz18_⟩ := Kd.R_celln 0 HO_8.out (x10_2 : Int) (of_decide_eq_true (by first | (with_reducible assumption) | assumption)) (of_decide_eq_true (by first | (with_reducible assumption) | assumption)); have HP18 := Kd.R_putg HO_8.out (x10_2 : Int) t253) | ((with_reducible refine gate_store (t := 3) (p := 51) rfl ?_); (try (rw [drewN_self w17]; generalize hq_ : World.drewN w17 _ = w17; have n0_ := Aside0.mk (Kd.S_at hq_ HO_6.out); have n1_ := Aside0.mk (Kd.R_at hq_ HO_8.out); have n2_ := Aside0.mk (Kd.R_at hq_ HL252_0.out); have n3_ := Aside0.mk (below_at hq_ HB.out); clear hq_ HO_6 HO_8 HL252_0 HB; have HO_6 := n0_; have HO_8 := n1_; have HL252_0 := n2_; have HB := n3_; clear n0_ n1_ n2_ n3_; (try (obtain ⟨hy18_, hz18_⟩ := Kd.R_celln 0 HO_8.out (x10_2 : Int) (of_decide_eq_true (by first | (with_reducible assumption) | assumption)) (of_decide_eq_true (by first | (with_reducible assumption) | assumption)))); (try (have HP18 := Kd.R_putg HO_8.out (x10_2 : Int) t253)))); refine store_event (t := 3) (p := 51) (v := ?vo_w19) (w1 := (w17.setCell ⟨go16, (x10_2 : Int).toNat, none⟩ (.int .i64 t253))) ?hg ?ho ?hn ?hr ?_; (case ho => rfl); (case hg => rfl); (case hn => rfl); (case hr => first | (go_simp; done) | (go_simp; rfl)); intro w19 hw; have hg : w17.grownBy w19 (some go16) := (by rw [hw]; exact HP18.2); have hp_ : Kd.R (Kd.int .i64) 3 w19 w.heap.size (fun _ => True) (.slice (some ⟨go16, 0, none⟩) x8_2.length co16) y255 := (by rw [hw, Ny255.out]; exact HP18.1); clear HP18; have n0_ := Aside0.mk (Kd.S_over' (v := (.slice (some ⟨go16, 0, none⟩) x8_2.length co16)) (by (with_reducible repeat (first | apply Kd.S_alloc | apply Kd.S_drewN | apply Kd.S_drew)); exact HO_6.out) (Kd.R_typed HO_8.out) (by decide) hg); have n1_ := Aside0.mk (hp_); have n2_ := Aside0.mk (Kd.R_over' (v := (.slice (some ⟨go16, 0, none⟩) x8_2.length co16)) (by (with_reducible repeat (first | apply Kd.R_alloc | apply Kd.R_drewN | apply Kd.R_drew)); exact HL252_0.out) (Kd.R_typed HO_8.out) (by decide) hg); have n3_ := Aside0.mk ((by rw [hw]; exact below_set (HB.out) GB16.out : Below w.heap.size w w19)); clear HO_6; clear HO_8; clear HL252_0; clear HB; have HO_6 := n0_; have HO_8 := n1_; have HL252_0 := n2_; have HB := n3_; clear n0_ n1_ n2_ n3_; clear hg hw hp_)))
                      go_roundg k2
                      case measure => have := HK1.out; have := HK2.out; omega
                      case rel => exact ⟨(y255), (wrap64 (x10_2 - 1)), (by first | rfl | (simp; done) | (simp [*]; done)), H', ⟨by have := HK1.out; have := HK2.out; omega⟩, ⟨by (with_reducible repeat (first | apply Kd.S_alloc | apply Kd.S_drewN | apply Kd.S_drew)); exact HO_6.out⟩, ⟨by (with_reducible repeat (first | apply Kd.R_alloc | apply Kd.R_drewN | apply Kd.R_drew)); exact HO_8.out⟩, ⟨by repeat (first | (with_reducible first | exact HB.out | apply below_alloc | apply pw_below_drewN | apply below_drew1) | exact HB.out)⟩⟩
                    · rw [if_neg c15] at H
                      exact absurd H (by simp)
                  · rw [if_neg c14] at H
                    have c14b0 : (t254 == 0) = false := beq_eq_false_iff_ne.mpr c14
                    have c14b1 : (t254 != 0) = true := bne_iff_ne.mpr c14
                    simp only [Option.some.injEq, Prod.mk.injEq] at H
                    obtain ⟨rfl, rfl⟩ := H
                    have p252 : 0 ≤ (x10_2 : Int) := of_decide_eq_true (by first | (with_reducible assumption) | assumption)
                    have q252 : x10_2 < (t245.length : Int) := of_decide_eq_true (by first | (with_reducible assumption) | assumption)
                    obtain ⟨ad252, A252_0, c252_0, e252, hx252_0, hl252_0, hi252_0⟩ := at_L2 (Kd.S_reads' HO_6.out).2.2 x10_2 p252 q252
                    cases e252
                    obtain ⟨ce252, hce252, hMe252, hcc252⟩ := Kd.S_get HO_6.out [] x10_2 p252 (by first | exact q252 | exact of_decide_eq_true (by first | (with_reducible assumption) | assumption) | (have e_ := (Kd.S_reads' HO_6.out).1; omega))
                    obtain ⟨ve252_0, rfl, ge252_0⟩ := hMe252
                    have hv252_0 := hcc252 0 _ rfl
                    rw [Nat.add_zero, show ((Kd.slice 63 k63)).sz = 1 from rfl, Nat.mul_one] at hv252_0
                    replace hv252_0 := Option.some.inj (hv252_0.symm.trans hx252_0)
                    rw [hv252_0] at ge252_0
                    have HL252_0 := Aside0.mk (show Kd.R k63 63 _ _ _ _ (rd_L2 t245 x10_2) from ge252_0)
                    clear hv252_0 ge252_0
                    clear hcc252 hce252
                    have HR252_0 := Aside0.mk hi252_0
                    have HC252_0 := Aside0.mk hl252_0
                    clear hi252_0 hl252_0
                    replace p252 := eq_true p252
                    replace q252 := eq_true q252
                    go_wp2_with (first | (go_at_call 63; (with_reducible refine (ih k2 (by have := HK1.out; have := HK2.out; omega) _ _ (rd_L2 t245 x10_2) _ _ l1 t253 t254 _ ?side1 ?side2 ?side3 ?side4 A13.out).mono ?_); (case side1 => repeat (first | exact (by repeat (first | (with_reducible exact HR252_0.out) | (with_reducible refine Kd.C_alloc ?_ _) | (with_reducible refine Kd.C_drewN ?_ _) | (with_reducible refine Kd.C_drew ?_) | exact HR252_0.out)) | (with_reducible refine Kd.C_alloc ?_ _) | (with_reducible refine Kd.C_drewN ?_ _) | (with_reducible refine Kd.C_drew ?_))); (case side2 => exact HC252_0.out); (case side3 => repeat (first | exact (Kd.C_below HR1.out HB.out) | (with_reducible refine Kd.C_alloc ?_ _) | (with_reducible refine Kd.C_drewN ?_ _) | (with_reducible refine Kd.C_drew ?_))); (case side4 => exact HC1.out); rintro e w20 ⟨rfl, hb⟩; have n0_ := Aside0.mk (Kd.S_below (by (with_reducible repeat (first | apply Kd.S_alloc | apply Kd.S_drewN | apply Kd.S_drew)); exact HO_6.out) hb); have n1_ := Aside0.mk (Kd.R_below (by (with_reducible repeat (first | apply Kd.R_alloc | apply Kd.R_drewN | apply Kd.R_drew)); exact HO_8.out) hb); have n2_ := Aside0.mk (Kd.R_below (by (with_reducible repeat (first | apply Kd.R_alloc | apply Kd.R_drewN | apply Kd.R_drew)); exact HL252_0.out) hb); have n3_ := Aside0.mk (Kd.C_below (by repeat (first | (with_reducible exact HR252_0.out) | (with_reducible refine Kd.C_alloc ?_ _) | (with_reducible refine Kd.C_drewN ?_ _) | (with_reducible refine Kd.C_drew ?_) | exact HR252_0.out)) hb); have n4_ := Aside0.mk (below_step (by repeat (first | (with_reducible first | exact HB.out | apply below_alloc | apply pw_below_drewN | apply below_drew1) | exact HB.out)) hb); clear HO_6; clear HO_8; clear HL252_0; clear HR252_0; clear HB; have HO_6 := n0_; have HO_8 := n1_; have HL252_0 := n2_; have HR252_0 := n3_; have HB := n4_; clear n0_ n1_ n2_ n3_ n4_; (try clear hb); (try clear hb2); (try clear hk); (try clear hi)))
                    repeat (go_quiet (first | (go_at_call 63; (with_reducible refine (ih k2 (by have := HK1.out; have := HK2.out; omega) _ _ (rd_L2 t245 x10_2) _ _ l1 t253 t254 _ ?side1 ?side2 ?side3 ?side4 A13.out).mono ?_); (case side1 => repeat (first | exact (by repeat (first | (with_reducible exact HR252_0.out) | (with_reducible refine Kd.C_alloc ?_ _) | (with_reducible refine Kd.C_drewN ?_ _) | (with_reducible refine Kd.C_drew ?_) | exact HR252_0.out)) | (with_reducible refine Kd.C_alloc ?_ _) | (with_reducible refine Kd.C_drewN ?_ _) | (with_reducible refine Kd.C_drew ?_))); (case side2 => exact HC252_0.out); (case side3 => repeat (first | exact (Kd.C_below HR1.out HB.out) | (with_reducible refine Kd.C_alloc ?_ _) | (with_reducible refine Kd.C_drewN ?_ _) | (with_reducible refine Kd.C_drew ?_))); (case side4 => exact HC1.out); rintro e w20 ⟨rfl, hb⟩; have n0_ := Aside0.mk (Kd.S_below (by (with_reducible repeat (first | apply Kd.S_alloc | apply Kd.S_drewN | apply Kd.S_drew)); exact HO_6.out) hb); have n1_ := Aside0.mk (Kd.R_below (by (with_reducible repeat (first | apply Kd.R_alloc | apply Kd.R_drewN | apply Kd.R_drew)); exact HO_8.out) hb); have n2_ := Aside0.mk (Kd.R_below (by (with_reducible repeat (first | apply Kd.R_alloc | apply Kd.R_drewN | apply Kd.R_drew)); exact HL252_0.out) hb); have n3_ := Aside0.mk (Kd.C_below (by repeat (first | (with_reducible exact HR252_0.out) | (with_reducible refine Kd.C_alloc ?_ _) | (with_reducible refine Kd.C_drewN ?_ _) | (with_reducible refine Kd.C_drew ?_) | exact HR252_0.out)) hb); have n4_ := Aside0.mk (below_step (by repeat (first | (with_reducible first | exact HB.out | apply below_alloc | apply pw_below_drewN | apply below_drew1) | exact HB.out)) hb); clear HO_6; clear HO_8; clear HL252_0; clear HR252_0; clear HB; have HO_6 := n0_; have HO_8 := n1_; have HL252_0 := n2_; have HR252_0 := n3_; have HB := n4_; clear n0_ n1_ n2_ n3_ n4_; (try clear hb); (try clear hb2); (try clear hk); (try clear hi))); try go_wp2_with (first | (go_at_call 63; (with_reducible refine (ih k2 (by have := HK1.out; have := HK2.out; omega) _ _ (rd_L2 t245 x10_2) _ _ l1 t253 t254 _ ?side1 ?side2 ?side3 ?side4 A13.out).mono ?_); (case side1 => repeat (first | exact (by repeat (first | (with_reducible exact HR252_0.out) | (with_reducible refine Kd.C_alloc ?_ _) | (with_reducible refine Kd.C_drewN ?_ _) | (with_reducible refine Kd.C_drew ?_) | exact HR252_0.out)) | (with_reducible refine Kd.C_alloc ?_ _) | (with_reducible refine Kd.C_drewN ?_ _) | (with_reducible refine Kd.C_drew ?_))); (case side2 => exact HC252_0.out); (case side3 => repeat (first | exact (Kd.C_below HR1.out HB.out) | (with_reducible refine Kd.C_alloc ?_ _) | (with_reducible refine Kd.C_drewN ?_ _) | (with_reducible refine Kd.C_drew ?_))); (case side4 => exact HC1.out); rintro e w20 ⟨rfl, hb⟩; have n0_ := Aside0.mk (Kd.S_below (by (with_reducible repeat (first | apply Kd.S_alloc | apply Kd.S_drewN | apply Kd.S_drew)); exact HO_6.out) hb); have n1_ := Aside0.mk (Kd.R_below (by (with_reducible repeat (first | apply Kd.R_alloc | apply Kd.R_drewN | apply Kd.R_drew)); exact HO_8.out) hb); have n2_ := Aside0.mk (Kd.R_below (by (with_reducible repeat (first | apply Kd.R_alloc | apply Kd.R_drewN | apply Kd.R_drew)); exact HL252_0.out) hb); have n3_ := Aside0.mk (Kd.C_below (by repeat (first | (with_reducible exact HR252_0.out) | (with_reducible refine Kd.C_alloc ?_ _) | (with_reducible refine Kd.C_drewN ?_ _) | (with_reducible refine Kd.C_drew ?_) | exact HR252_0.out)) hb); have n4_ := Aside0.mk (below_step (by repeat (first | (with_reducible first | exact HB.out | apply below_alloc | apply pw_below_drewN | apply below_drew1) | exact HB.out)) hb); clear HO_6; clear HO_8; clear HL252_0; clear HR252_0; clear HB; have HO_6 := n0_; have HO_8 := n1_; have HL252_0 := n2_; have HR252_0 := n3_; have HB := n4_; clear n0_ n1_ n2_ n3_ n4_; (try clear hb); (try clear hb2); (try clear hk); (try clear hi))))
                    go_ret2
                    exact ⟨by first | rfl | (simp [errW_none, errW_some] <;> rfl) | (simp [*, errW_none, errW_some] <;> rfl), by repeat (first | (with_reducible first | exact HB.out | apply below_alloc | apply pw_below_drewN | apply below_drew1) | exact HB.out)⟩
                · rw [if_neg c12] at H
                  exact absurd H (by simp)
              · rw [if_neg c11] at H
                exact absurd H (by simp)
            · rw [if_neg c10] at H
              have c10b0 : decide (0 ≤ x10_2) = false := decide_eq_false c10
              clear c10
              by_cases c21 : 0 < (l0.length : Int)
              · rw [if_pos c21] at H
                have c21b0 : decide (0 < (l0.length : Int)) = true := decide_eq_true c21
                have c21b1 : decide (0 < l0.length) = true := decide_eq_true (by omega)
                clear c21
                have HC22 := Aside0.mk H
                clear H
                have p256 : 0 ≤ (0 : Int) := (by omega)
                have q256 : 0 < (l0.length : Int) := of_decide_eq_true (by first | (with_reducible assumption) | assumption)
                obtain ⟨ad256, e256, hx256_0, hx256_1⟩ := at_T63 HR0.out 0 p256 q256
                cases e256
                have qi256 : (0 < l0.length) = True := eq_true (by omega)
                (try rw [show ((0 : Int)).toNat = 0 from rfl] at hx256_0)
                (try rw [show 0 * 2 = 0 from rfl] at hx256_0)
                (try rw [Addr.add_zero'] at hx256_0)
                (try rw [show ((0 : Int)).toNat = 0 from rfl] at hx256_1)
                (try rw [show 0 * 2 = 0 from rfl] at hx256_1)
                (try rw [Addr.add_zero'] at hx256_1)
                replace hx256_0 := (HB.out.cell (World.block_lt_of_cell? w _ hx256_0)).trans hx256_0
                replace hx256_1 := (HB.out.cell (World.block_lt_of_cell? w _ hx256_1)).trans hx256_1
                replace p256 := eq_true p256
                replace q256 := eq_true q256
                go_upto_block 4 with (fail)
                repeat (go_quiet (fail); go_upto_block 4 with (fail))
                go_cut [13, 14] (fun v13 v14 wc => ∃ (kq : Nat) (x13_21 : Int) (x14_21 : Bool), v13 = .int .i64 x13_21 ∧ v14 = .bool x14_21 ∧ Aside0 (foretellref_worked.j2 kq x13_21 x14_21 = some (r1, r2)) ∧ Aside0 (kq ≤ k2) ∧ Aside0 (Below w.heap.size w wc))
                case first =>
                  have H := HC22.out
                  clear HC22
                  by_cases c23 : ((rd_T63 l0 0).f0) = 1
                  · rw [if_pos c23] at H
                    have c23b0 : (((rd_T63 l0 0).f0) == 1) = true := beq_iff_eq.mpr c23
                    have c23b1 : (((rd_T63 l0 0).f0) != 1) = false := bne_eq_false_iff_eq.mpr c23
                    clear c23
                    (first | rw [c23b0] | (simp only [i64_w, i32_w]; rw [c23b0]) | skip)
                    have H' := Aside0.mk H
                    clear H
                    have p257 : 0 ≤ (0 : Int) := (by omega)
                    have q257 : 0 < (l0.length : Int) := of_decide_eq_true (by first | (with_reducible assumption) | assumption)
                    obtain ⟨ad257, e257, hx257_0, hx257_1⟩ := at_T63 HR0.out 0 p257 q257
                    obtain rfl : ad256 = ad257 := (by injection e257)
                    have qi257 : (0 < l0.length) = True := eq_true (by omega)
                    (try rw [show ((0 : Int)).toNat = 0 from rfl] at hx257_0)
                    (try rw [show 0 * 2 = 0 from rfl] at hx257_0)
                    (try rw [Addr.add_zero'] at hx257_0)
                    (try rw [show ((0 : Int)).toNat = 0 from rfl] at hx257_1)
                    (try rw [show 0 * 2 = 0 from rfl] at hx257_1)
                    (try rw [Addr.add_zero'] at hx257_1)
                    replace hx257_0 := (HB.out.cell (World.block_lt_of_cell? w _ hx257_0)).trans hx257_0
                    replace hx257_1 := (HB.out.cell (World.block_lt_of_cell? w _ hx257_1)).trans hx257_1
                    replace p257 := eq_true p257
                    replace q257 := eq_true q257
                    go_wp2
                    repeat (go_quiet (fail); try go_wp2)
                    go_meet
                    case rel => exact ⟨_, ((rd_T63 l0 0).f1), (false), (by first | rfl | (simp; done) | (simp [*]; done)), (by first | rfl | (simp; done) | (simp [*]; done)), H', ⟨by have := HK1.out; have := HK2.out; first | omega | exact Nat.le_refl _⟩, ⟨by repeat (first | (with_reducible first | exact HB.out | apply below_alloc | apply pw_below_drewN | apply below_drew1) | exact HB.out)⟩⟩
                  · rw [if_neg c23] at H
                    have c23b0 : (((rd_T63 l0 0).f0) == 1) = false := beq_eq_false_iff_ne.mpr c23
                    have c23b1 : (((rd_T63 l0 0).f0) != 1) = true := bne_iff_ne.mpr c23
                    (first | rw [c23b0] | (simp only [i64_w, i32_w]; rw [c23b0]) | skip)
                    by_cases c24 : ((rd_T63 l0 0).f0) = 2
                    · rw [if_pos c24] at H
                      have c24b0 : (((rd_T63 l0 0).f0) == 2) = true := beq_iff_eq.mpr c24
                      have c24b1 : (((rd_T63 l0 0).f0) != 2) = false := bne_eq_false_iff_eq.mpr c24
                      clear c24
                      by_cases c25 : 0 ≤ ((rd_T63 l0 0).f1)
                      · rw [if_pos c25] at H
                        have c25b0 : decide (0 ≤ ((rd_T63 l0 0).f1)) = true := decide_eq_true c25
                        clear c25
                        by_cases c26 : ((rd_T63 l0 0).f1) < (l1.length : Int)
                        · rw [if_pos c26] at H
                          have c26b0 : decide (((rd_T63 l0 0).f1) < (l1.length : Int)) = true := decide_eq_true c26
                          clear c26
                          have H' := Aside0.mk H
                          clear H
                          have p258 : 0 ≤ (0 : Int) := (by omega)
                          have q258 : 0 < (l0.length : Int) := of_decide_eq_true (by first | (with_reducible assumption) | assumption)
                          obtain ⟨ad258, e258, hx258_0, hx258_1⟩ := at_T63 HR0.out 0 p258 q258
                          obtain rfl : ad256 = ad258 := (by injection e258)
                          have qi258 : (0 < l0.length) = True := eq_true (by omega)
                          (try rw [show ((0 : Int)).toNat = 0 from rfl] at hx258_0)
                          (try rw [show 0 * 2 = 0 from rfl] at hx258_0)
                          (try rw [Addr.add_zero'] at hx258_0)
                          (try rw [show ((0 : Int)).toNat = 0 from rfl] at hx258_1)
                          (try rw [show 0 * 2 = 0 from rfl] at hx258_1)
                          (try rw [Addr.add_zero'] at hx258_1)
                          replace hx258_0 := (HB.out.cell (World.block_lt_of_cell? w _ hx258_0)).trans hx258_0
                          replace hx258_1 := (HB.out.cell (World.block_lt_of_cell? w _ hx258_1)).trans hx258_1
                          replace p258 := eq_true p258
                          replace q258 := eq_true q258
                          have p259 : 0 ≤ (((rd_T63 l0 0).f1) : Int) := of_decide_eq_true (by first | (with_reducible assumption) | assumption)
                          have q259 : ((rd_T63 l0 0).f1) < (l1.length : Int) := of_decide_eq_true (by first | (with_reducible assumption) | assumption)
                          obtain ⟨ad259, e259, hx259_0⟩ := Kd.at_int HR1.out ((rd_T63 l0 0).f1) p259 q259
                          cases e259
                          replace hx259_0 := (HB.out.cell (World.block_lt_of_cell? w _ hx259_0)).trans hx259_0
                          replace p259 := eq_true p259
                          replace q259 := eq_true q259
                          go_wp2
                          repeat (go_quiet (fail); try go_wp2)
                          go_meet
                          case rel => exact ⟨_, (rd l1 ((rd_T63 l0 0).f1)), (false), (by first | rfl | (simp; done) | (simp [*]; done)), (by first | rfl | (simp; done) | (simp [*]; done)), H', ⟨by have := HK1.out; have := HK2.out; first | omega | exact Nat.le_refl _⟩, ⟨by repeat (first | (with_reducible first | exact HB.out | apply below_alloc | apply pw_below_drewN | apply below_drew1) | exact HB.out)⟩⟩
                        · rw [if_neg c26] at H
                          exact absurd H (by simp)
                      · rw [if_neg c25] at H
                        exact absurd H (by simp)
                    · rw [if_neg c24] at H
                      have c24b0 : (((rd_T63 l0 0).f0) == 2) = false := beq_eq_false_iff_ne.mpr c24
                      have c24b1 : (((rd_T63 l0 0).f0) != 2) = true := bne_iff_ne.mpr c24
                      by_cases c27 : ((rd_T63 l0 0).f0) = 3
                      · rw [if_pos c27] at H
                        have c27b0 : (((rd_T63 l0 0).f0) == 3) = true := beq_iff_eq.mpr c27
                        have c27b1 : (((rd_T63 l0 0).f0) != 3) = false := bne_eq_false_iff_eq.mpr c27
                        clear c27
                        by_cases c28 : 0 < (x8_2.length : Int)
                        · rw [if_pos c28] at H
                          have c28b0 : decide (0 < (x8_2.length : Int)) = true := decide_eq_true c28
                          have c28b1 : decide (0 < x8_2.length) = true := decide_eq_true (by omega)
                          clear c28
                          by_cases c29 : 1 < (x8_2.length : Int)
                          · rw [if_pos c29] at H
                            have c29b0 : decide (1 < (x8_2.length : Int)) = true := decide_eq_true c29
                            have c29b1 : decide (1 < x8_2.length) = true := decide_eq_true (by omega)
                            clear c29
                            have H' := Aside0.mk H
                            clear H
                            obtain ⟨Ao30, co30, eo30⟩ := Kd.R_slice HO_8.out
                            subst eo30
                            have p260 : 0 ≤ (0 : Int) := (by omega)
                            have q260 : 0 < (x8_2.length : Int) := of_decide_eq_true (by first | (with_reducible assumption) | assumption)
                            (try (obtain ⟨A_, c_, e_⟩ := Kd.R_slice HO_8.out; subst e_))
                            obtain ⟨ad260, e260, hx260_0⟩ := Kd.at_int (Kd.R_reads' HO_8.out).2.2 0 p260 q260
                            cases e260
                            have qi260 : (0 < x8_2.length) = True := eq_true (by omega)
                            (try rw [show ((0 : Int)).toNat = 0 from rfl] at hx260_0)
                            (try rw [Addr.add_zero'] at hx260_0)
                            replace p260 := eq_true p260
                            replace q260 := eq_true q260
                            have p261 : 0 ≤ (1 : Int) := (by omega)
                            have q261 : 1 < (x8_2.length : Int) := of_decide_eq_true (by first | (with_reducible assumption) | assumption)
                            (try (obtain ⟨A_, c_, e_⟩ := Kd.R_slice HO_8.out; subst e_))
                            obtain ⟨ad261, e261, hx261_0⟩ := Kd.at_int (Kd.R_reads' HO_8.out).2.2 1 p261 q261
                            obtain rfl : ad260 = ad261 := (by injection e261)
                            (try simp only [show (1 : Int).toNat = 1 from rfl, Nat.reduceMul, Nat.reduceEqDiff, Go.Addr.add, ↓reduceIte] at hx261_0)
                            have qi261 : (1 < x8_2.length) = True := eq_true (by omega)
                            (try rw [show ((1 : Int)).toNat = 1 from rfl] at hx261_0)
                            replace p261 := eq_true p261
                            replace q261 := eq_true q261
                            go_wp2
                            repeat (go_quiet (fail); try go_wp2)
                            go_meet
                            case rel => exact ⟨_, (wrap64 ((rd x8_2 0) + (rd x8_2 1))), (false), (by first | rfl | (simp; done) | (simp [*]; done)), (by first | rfl | (simp; done) | (simp [*]; done)), H', ⟨by have := HK1.out; have := HK2.out; first | omega | exact Nat.le_refl _⟩, ⟨by repeat (first | (with_reducible first | exact HB.out | apply below_alloc | apply pw_below_drewN | apply below_drew1) | exact HB.out)⟩⟩
                          · rw [if_neg c29] at H
                            exact absurd H (by simp)
                        · rw [if_neg c28] at H
                          exact absurd H (by simp)
                      · rw [if_neg c27] at H
                        have c27b0 : (((rd_T63 l0 0).f0) == 3) = false := beq_eq_false_iff_ne.mpr c27
                        have c27b1 : (((rd_T63 l0 0).f0) != 3) = true := bne_iff_ne.mpr c27
                        by_cases c31 : ((rd_T63 l0 0).f0) = 4
                        · rw [if_pos c31] at H
                          have c31b0 : (((rd_T63 l0 0).f0) == 4) = true := beq_iff_eq.mpr c31
                          have c31b1 : (((rd_T63 l0 0).f0) != 4) = false := bne_eq_false_iff_eq.mpr c31
                          clear c31
                          by_cases c32 : 0 < (x8_2.length : Int)
                          · rw [if_pos c32] at H
                            have c32b0 : decide (0 < (x8_2.length : Int)) = true := decide_eq_true c32
                            have c32b1 : decide (0 < x8_2.length) = true := decide_eq_true (by omega)
                            clear c32
                            by_cases c33 : 1 < (x8_2.length : Int)
                            · rw [if_pos c33] at H
                              have c33b0 : decide (1 < (x8_2.length : Int)) = true := decide_eq_true c33
                              have c33b1 : decide (1 < x8_2.length) = true := decide_eq_true (by omega)
                              clear c33
                              have H' := Aside0.mk H
                              clear H
                              obtain ⟨Ao34, co34, eo34⟩ := Kd.R_slice HO_8.out
                              subst eo34
                              have p262 : 0 ≤ (0 : Int) := (by omega)
                              have q262 : 0 < (x8_2.length : Int) := of_decide_eq_true (by first | (with_reducible assumption) | assumption)
                              (try (obtain ⟨A_, c_, e_⟩ := Kd.R_slice HO_8.out; subst e_))
                              obtain ⟨ad262, e262, hx262_0⟩ := Kd.at_int (Kd.R_reads' HO_8.out).2.2 0 p262 q262
                              cases e262
                              have qi262 : (0 < x8_2.length) = True := eq_true (by omega)
                              (try rw [show ((0 : Int)).toNat = 0 from rfl] at hx262_0)
                              (try rw [Addr.add_zero'] at hx262_0)
                              replace p262 := eq_true p262
                              replace q262 := eq_true q262
                              have p263 : 0 ≤ (1 : Int) := (by omega)
                              have q263 : 1 < (x8_2.length : Int) := of_decide_eq_true (by first | (with_reducible assumption) | assumption)
                              (try (obtain ⟨A_, c_, e_⟩ := Kd.R_slice HO_8.out; subst e_))
                              obtain ⟨ad263, e263, hx263_0⟩ := Kd.at_int (Kd.R_reads' HO_8.out).2.2 1 p263 q263
                              obtain rfl : ad262 = ad263 := (by injection e263)
                              (try simp only [show (1 : Int).toNat = 1 from rfl, Nat.reduceMul, Nat.reduceEqDiff, Go.Addr.add, ↓reduceIte] at hx263_0)
                              have qi263 : (1 < x8_2.length) = True := eq_true (by omega)
                              (try rw [show ((1 : Int)).toNat = 1 from rfl] at hx263_0)
                              replace p263 := eq_true p263
                              replace q263 := eq_true q263
                              go_wp2
                              repeat (go_quiet (fail); try go_wp2)
                              go_meet
                              case rel => exact ⟨_, (wrap64 ((rd x8_2 0) - (rd x8_2 1))), (false), (by first | rfl | (simp; done) | (simp [*]; done)), (by first | rfl | (simp; done) | (simp [*]; done)), H', ⟨by have := HK1.out; have := HK2.out; first | omega | exact Nat.le_refl _⟩, ⟨by repeat (first | (with_reducible first | exact HB.out | apply below_alloc | apply pw_below_drewN | apply below_drew1) | exact HB.out)⟩⟩
                            · rw [if_neg c33] at H
                              exact absurd H (by simp)
                          · rw [if_neg c32] at H
                            exact absurd H (by simp)
                        · rw [if_neg c31] at H
                          have c31b0 : (((rd_T63 l0 0).f0) == 4) = false := beq_eq_false_iff_ne.mpr c31
                          have c31b1 : (((rd_T63 l0 0).f0) != 4) = true := bne_iff_ne.mpr c31
                          by_cases c35 : ((rd_T63 l0 0).f0) = 5
                          · rw [if_pos c35] at H
                            have c35b0 : (((rd_T63 l0 0).f0) == 5) = true := beq_iff_eq.mpr c35
                            have c35b1 : (((rd_T63 l0 0).f0) != 5) = false := bne_eq_false_iff_eq.mpr c35
                            clear c35
                            by_cases c36 : 0 < (x8_2.length : Int)
                            · rw [if_pos c36] at H
                              have c36b0 : decide (0 < (x8_2.length : Int)) = true := decide_eq_true c36
                              have c36b1 : decide (0 < x8_2.length) = true := decide_eq_true (by omega)
                              clear c36
                              by_cases c37 : 1 < (x8_2.length : Int)
                              · rw [if_pos c37] at H
                                have c37b0 : decide (1 < (x8_2.length : Int)) = true := decide_eq_true c37
                                have c37b1 : decide (1 < x8_2.length) = true := decide_eq_true (by omega)
                                clear c37
                                have H' := Aside0.mk H
                                clear H
                                obtain ⟨Ao38, co38, eo38⟩ := Kd.R_slice HO_8.out
                                subst eo38
                                have p264 : 0 ≤ (0 : Int) := (by omega)
                                have q264 : 0 < (x8_2.length : Int) := of_decide_eq_true (by first | (with_reducible assumption) | assumption)
                                (try (obtain ⟨A_, c_, e_⟩ := Kd.R_slice HO_8.out; subst e_))
                                obtain ⟨ad264, e264, hx264_0⟩ := Kd.at_int (Kd.R_reads' HO_8.out).2.2 0 p264 q264
                                cases e264
                                have qi264 : (0 < x8_2.length) = True := eq_true (by omega)
                                (try rw [show ((0 : Int)).toNat = 0 from rfl] at hx264_0)
                                (try rw [Addr.add_zero'] at hx264_0)
                                replace p264 := eq_true p264
                                replace q264 := eq_true q264
                                have p265 : 0 ≤ (1 : Int) := (by omega)
                                have q265 : 1 < (x8_2.length : Int) := of_decide_eq_true (by first | (with_reducible assumption) | assumption)
                                (try (obtain ⟨A_, c_, e_⟩ := Kd.R_slice HO_8.out; subst e_))
                                obtain ⟨ad265, e265, hx265_0⟩ := Kd.at_int (Kd.R_reads' HO_8.out).2.2 1 p265 q265
                                obtain rfl : ad264 = ad265 := (by injection e265)
                                (try simp only [show (1 : Int).toNat = 1 from rfl, Nat.reduceMul, Nat.reduceEqDiff, Go.Addr.add, ↓reduceIte] at hx265_0)
                                have qi265 : (1 < x8_2.length) = True := eq_true (by omega)
                                (try rw [show ((1 : Int)).toNat = 1 from rfl] at hx265_0)
                                replace p265 := eq_true p265
                                replace q265 := eq_true q265
                                go_wp2
                                repeat (go_quiet (fail); try go_wp2)
                                go_meet
                                case rel => exact ⟨_, (wrap64 ((rd x8_2 0) * (rd x8_2 1))), (false), (by first | rfl | (simp; done) | (simp [*]; done)), (by first | rfl | (simp; done) | (simp [*]; done)), H', ⟨by have := HK1.out; have := HK2.out; first | omega | exact Nat.le_refl _⟩, ⟨by repeat (first | (with_reducible first | exact HB.out | apply below_alloc | apply pw_below_drewN | apply below_drew1) | exact HB.out)⟩⟩
                              · rw [if_neg c37] at H
                                exact absurd H (by simp)
                            · rw [if_neg c36] at H
                              exact absurd H (by simp)
                          · rw [if_neg c35] at H
                            have c35b0 : (((rd_T63 l0 0).f0) == 5) = false := beq_eq_false_iff_ne.mpr c35
                            have c35b1 : (((rd_T63 l0 0).f0) != 5) = true := bne_iff_ne.mpr c35
                            by_cases c39 : ((rd_T63 l0 0).f0) = 6
                            · rw [if_pos c39] at H
                              have c39b0 : (((rd_T63 l0 0).f0) == 6) = true := beq_iff_eq.mpr c39
                              have c39b1 : (((rd_T63 l0 0).f0) != 6) = false := bne_eq_false_iff_eq.mpr c39
                              clear c39
                              by_cases c40 : 0 < (x8_2.length : Int)
                              · rw [if_pos c40] at H
                                have c40b0 : decide (0 < (x8_2.length : Int)) = true := decide_eq_true c40
                                have c40b1 : decide (0 < x8_2.length) = true := decide_eq_true (by omega)
                                clear c40
                                by_cases c41 : 1 < (x8_2.length : Int)
                                · rw [if_pos c41] at H
                                  have c41b0 : decide (1 < (x8_2.length : Int)) = true := decide_eq_true c41
                                  have c41b1 : decide (1 < x8_2.length) = true := decide_eq_true (by omega)
                                  clear c41
                                  have H' := Aside0.mk H
                                  clear H
                                  obtain ⟨Ao42, co42, eo42⟩ := Kd.R_slice HO_8.out
                                  subst eo42
                                  have p266 : 0 ≤ (0 : Int) := (by omega)
                                  have q266 : 0 < (x8_2.length : Int) := of_decide_eq_true (by first | (with_reducible assumption) | assumption)
                                  (try (obtain ⟨A_, c_, e_⟩ := Kd.R_slice HO_8.out; subst e_))
                                  obtain ⟨ad266, e266, hx266_0⟩ := Kd.at_int (Kd.R_reads' HO_8.out).2.2 0 p266 q266
                                  cases e266
                                  have qi266 : (0 < x8_2.length) = True := eq_true (by omega)
                                  (try rw [show ((0 : Int)).toNat = 0 from rfl] at hx266_0)
                                  (try rw [Addr.add_zero'] at hx266_0)
                                  replace p266 := eq_true p266
                                  replace q266 := eq_true q266
                                  have p267 : 0 ≤ (1 : Int) := (by omega)
                                  have q267 : 1 < (x8_2.length : Int) := of_decide_eq_true (by first | (with_reducible assumption) | assumption)
                                  (try (obtain ⟨A_, c_, e_⟩ := Kd.R_slice HO_8.out; subst e_))
                                  obtain ⟨ad267, e267, hx267_0⟩ := Kd.at_int (Kd.R_reads' HO_8.out).2.2 1 p267 q267
                                  obtain rfl : ad266 = ad267 := (by injection e267)
                                  (try simp only [show (1 : Int).toNat = 1 from rfl, Nat.reduceMul, Nat.reduceEqDiff, Go.Addr.add, ↓reduceIte] at hx267_0)
                                  have qi267 : (1 < x8_2.length) = True := eq_true (by omega)
                                  (try rw [show ((1 : Int)).toNat = 1 from rfl] at hx267_0)
                                  replace p267 := eq_true p267
                                  replace q267 := eq_true q267
                                  go_wp2
                                  repeat (go_quiet (fail); try go_wp2)
                                  go_meet
                                  case rel => exact ⟨_, (0), (((rd x8_2 0) == (rd x8_2 1))), (by first | rfl | (simp; done) | (simp [*]; done)), (by first | rfl | (simp; done) | (simp [*]; done)), H', ⟨by have := HK1.out; have := HK2.out; first | omega | exact Nat.le_refl _⟩, ⟨by repeat (first | (with_reducible first | exact HB.out | apply below_alloc | apply pw_below_drewN | apply below_drew1) | exact HB.out)⟩⟩
                                · rw [if_neg c41] at H
                                  exact absurd H (by simp)
                              · rw [if_neg c40] at H
                                exact absurd H (by simp)
                            · rw [if_neg c39] at H
                              have c39b0 : (((rd_T63 l0 0).f0) == 6) = false := beq_eq_false_iff_ne.mpr c39
                              have c39b1 : (((rd_T63 l0 0).f0) != 6) = true := bne_iff_ne.mpr c39
                              by_cases c43 : ((rd_T63 l0 0).f0) = 7
                              · rw [if_pos c43] at H
                                have c43b0 : (((rd_T63 l0 0).f0) == 7) = true := beq_iff_eq.mpr c43
                                have c43b1 : (((rd_T63 l0 0).f0) != 7) = false := bne_eq_false_iff_eq.mpr c43
                                clear c43
                                by_cases c44 : 0 < (x8_2.length : Int)
                                · rw [if_pos c44] at H
                                  have c44b0 : decide (0 < (x8_2.length : Int)) = true := decide_eq_true c44
                                  have c44b1 : decide (0 < x8_2.length) = true := decide_eq_true (by omega)
                                  clear c44
                                  by_cases c45 : 1 < (x8_2.length : Int)
                                  · rw [if_pos c45] at H
                                    have c45b0 : decide (1 < (x8_2.length : Int)) = true := decide_eq_true c45
                                    have c45b1 : decide (1 < x8_2.length) = true := decide_eq_true (by omega)
                                    clear c45
                                    have H' := Aside0.mk H
                                    clear H
                                    obtain ⟨Ao46, co46, eo46⟩ := Kd.R_slice HO_8.out
                                    subst eo46
                                    have p268 : 0 ≤ (0 : Int) := (by omega)
                                    have q268 : 0 < (x8_2.length : Int) := of_decide_eq_true (by first | (with_reducible assumption) | assumption)
                                    (try (obtain ⟨A_, c_, e_⟩ := Kd.R_slice HO_8.out; subst e_))
                                    obtain ⟨ad268, e268, hx268_0⟩ := Kd.at_int (Kd.R_reads' HO_8.out).2.2 0 p268 q268
                                    cases e268
                                    have qi268 : (0 < x8_2.length) = True := eq_true (by omega)
                                    (try rw [show ((0 : Int)).toNat = 0 from rfl] at hx268_0)
                                    (try rw [Addr.add_zero'] at hx268_0)
                                    replace p268 := eq_true p268
                                    replace q268 := eq_true q268
                                    have p269 : 0 ≤ (1 : Int) := (by omega)
                                    have q269 : 1 < (x8_2.length : Int) := of_decide_eq_true (by first | (with_reducible assumption) | assumption)
                                    (try (obtain ⟨A_, c_, e_⟩ := Kd.R_slice HO_8.out; subst e_))
                                    obtain ⟨ad269, e269, hx269_0⟩ := Kd.at_int (Kd.R_reads' HO_8.out).2.2 1 p269 q269
                                    obtain rfl : ad268 = ad269 := (by injection e269)
                                    (try simp only [show (1 : Int).toNat = 1 from rfl, Nat.reduceMul, Nat.reduceEqDiff, Go.Addr.add, ↓reduceIte] at hx269_0)
                                    have qi269 : (1 < x8_2.length) = True := eq_true (by omega)
                                    (try rw [show ((1 : Int)).toNat = 1 from rfl] at hx269_0)
                                    replace p269 := eq_true p269
                                    replace q269 := eq_true q269
                                    go_wp2
                                    repeat (go_quiet (fail); try go_wp2)
                                    go_meet
                                    case rel => exact ⟨_, (0), (decide ((rd x8_2 0) < (rd x8_2 1))), (by first | rfl | (simp; done) | (simp [*]; done)), (by first | rfl | (simp; done) | (simp [*]; done)), H', ⟨by have := HK1.out; have := HK2.out; first | omega | exact Nat.le_refl _⟩, ⟨by repeat (first | (with_reducible first | exact HB.out | apply below_alloc | apply pw_below_drewN | apply below_drew1) | exact HB.out)⟩⟩
                                  · rw [if_neg c45] at H
                                    exact absurd H (by simp)
                                · rw [if_neg c44] at H
                                  exact absurd H (by simp)
                              · rw [if_neg c43] at H
                                have c43b0 : (((rd_T63 l0 0).f0) == 7) = false := beq_eq_false_iff_ne.mpr c43
                                have c43b1 : (((rd_T63 l0 0).f0) != 7) = true := bne_iff_ne.mpr c43
                                by_cases c47 : ((rd_T63 l0 0).f0) = 8
                                · rw [if_pos c47] at H
                                  have c47b0 : (((rd_T63 l0 0).f0) == 8) = true := beq_iff_eq.mpr c47
                                  have c47b1 : (((rd_T63 l0 0).f0) != 8) = false := bne_eq_false_iff_eq.mpr c47
                                  clear c47
                                  by_cases c48 : 0 < (x8_2.length : Int)
                                  · rw [if_pos c48] at H
                                    have c48b0 : decide (0 < (x8_2.length : Int)) = true := decide_eq_true c48
                                    have c48b1 : decide (0 < x8_2.length) = true := decide_eq_true (by omega)
                                    clear c48
                                    by_cases c49 : (rd x8_2 0) = 1
                                    · rw [if_pos c49] at H
                                      have c49b0 : ((rd x8_2 0) == 1) = true := beq_iff_eq.mpr c49
                                      have c49b1 : ((rd x8_2 0) != 1) = false := bne_eq_false_iff_eq.mpr c49
                                      clear c49
                                      by_cases c50 : 1 < (x8_2.length : Int)
                                      · rw [if_pos c50] at H
                                        have c50b0 : decide (1 < (x8_2.length : Int)) = true := decide_eq_true c50
                                        have c50b1 : decide (1 < x8_2.length) = true := decide_eq_true (by omega)
                                        clear c50
                                        have H' := Aside0.mk H
                                        clear H
                                        obtain ⟨Ao51, co51, eo51⟩ := Kd.R_slice HO_8.out
                                        subst eo51
                                        have p270 : 0 ≤ (0 : Int) := (by omega)
                                        have q270 : 0 < (x8_2.length : Int) := of_decide_eq_true (by first | (with_reducible assumption) | assumption)
                                        (try (obtain ⟨A_, c_, e_⟩ := Kd.R_slice HO_8.out; subst e_))
                                        obtain ⟨ad270, e270, hx270_0⟩ := Kd.at_int (Kd.R_reads' HO_8.out).2.2 0 p270 q270
                                        cases e270
                                        have qi270 : (0 < x8_2.length) = True := eq_true (by omega)
                                        (try rw [show ((0 : Int)).toNat = 0 from rfl] at hx270_0)
                                        (try rw [Addr.add_zero'] at hx270_0)
                                        replace p270 := eq_true p270
                                        replace q270 := eq_true q270
                                        have p271 : 0 ≤ (1 : Int) := (by omega)
                                        have q271 : 1 < (x8_2.length : Int) := of_decide_eq_true (by first | (with_reducible assumption) | assumption)
                                        (try (obtain ⟨A_, c_, e_⟩ := Kd.R_slice HO_8.out; subst e_))
                                        obtain ⟨ad271, e271, hx271_0⟩ := Kd.at_int (Kd.R_reads' HO_8.out).2.2 1 p271 q271
                                        obtain rfl : ad270 = ad271 := (by injection e271)
                                        (try simp only [show (1 : Int).toNat = 1 from rfl, Nat.reduceMul, Nat.reduceEqDiff, Go.Addr.add, ↓reduceIte] at hx271_0)
                                        have qi271 : (1 < x8_2.length) = True := eq_true (by omega)
                                        (try rw [show ((1 : Int)).toNat = 1 from rfl] at hx271_0)
                                        replace p271 := eq_true p271
                                        replace q271 := eq_true q271
                                        go_wp2
                                        repeat (go_quiet (fail); try go_wp2)
                                        go_meet
                                        case rel => exact ⟨_, (0), (((rd x8_2 1) == 1)), (by first | rfl | (simp; done) | (simp [*]; done)), (by first | rfl | (simp; done) | (simp [*]; done)), H', ⟨by have := HK1.out; have := HK2.out; first | omega | exact Nat.le_refl _⟩, ⟨by repeat (first | (with_reducible first | exact HB.out | apply below_alloc | apply pw_below_drewN | apply below_drew1) | exact HB.out)⟩⟩
                                      · rw [if_neg c50] at H
                                        exact absurd H (by simp)
                                    · rw [if_neg c49] at H
                                      have c49b0 : ((rd x8_2 0) == 1) = false := beq_eq_false_iff_ne.mpr c49
                                      have c49b1 : ((rd x8_2 0) != 1) = true := bne_iff_ne.mpr c49
                                      have H' := Aside0.mk H
                                      clear H
                                      obtain ⟨Ao52, co52, eo52⟩ := Kd.R_slice HO_8.out
                                      subst eo52
                                      have p270 : 0 ≤ (0 : Int) := (by omega)
                                      have q270 : 0 < (x8_2.length : Int) := of_decide_eq_true (by first | (with_reducible assumption) | assumption)
                                      (try (obtain ⟨A_, c_, e_⟩ := Kd.R_slice HO_8.out; subst e_))
                                      obtain ⟨ad270, e270, hx270_0⟩ := Kd.at_int (Kd.R_reads' HO_8.out).2.2 0 p270 q270
                                      cases e270
                                      have qi270 : (0 < x8_2.length) = True := eq_true (by omega)
                                      (try rw [show ((0 : Int)).toNat = 0 from rfl] at hx270_0)
                                      (try rw [Addr.add_zero'] at hx270_0)
                                      replace p270 := eq_true p270
                                      replace q270 := eq_true q270
                                      go_wp2
                                      repeat (go_quiet (fail); try go_wp2)
                                      go_meet
                                      case rel => exact ⟨_, (0), (false), (by first | rfl | (simp; done) | (simp [*]; done)), (by first | rfl | (simp; done) | (simp [*]; done)), H', ⟨by have := HK1.out; have := HK2.out; first | omega | exact Nat.le_refl _⟩, ⟨by repeat (first | (with_reducible first | exact HB.out | apply below_alloc | apply pw_below_drewN | apply below_drew1) | exact HB.out)⟩⟩
                                  · rw [if_neg c48] at H
                                    exact absurd H (by simp)
                                · rw [if_neg c47] at H
                                  have c47b0 : (((rd_T63 l0 0).f0) == 8) = false := beq_eq_false_iff_ne.mpr c47
                                  have c47b1 : (((rd_T63 l0 0).f0) != 8) = true := bne_iff_ne.mpr c47
                                  by_cases c53 : ((rd_T63 l0 0).f0) = 9
                                  · rw [if_pos c53] at H
                                    have c53b0 : (((rd_T63 l0 0).f0) == 9) = true := beq_iff_eq.mpr c53
                                    have c53b1 : (((rd_T63 l0 0).f0) != 9) = false := bne_eq_false_iff_eq.mpr c53
                                    clear c53
                                    by_cases c54 : 0 < (x8_2.length : Int)
                                    · rw [if_pos c54] at H
                                      have c54b0 : decide (0 < (x8_2.length : Int)) = true := decide_eq_true c54
                                      have c54b1 : decide (0 < x8_2.length) = true := decide_eq_true (by omega)
                                      clear c54
                                      by_cases c55 : (rd x8_2 0) = 1
                                      · rw [if_pos c55] at H
                                        have c55b0 : ((rd x8_2 0) == 1) = true := beq_iff_eq.mpr c55
                                        have c55b1 : ((rd x8_2 0) != 1) = false := bne_eq_false_iff_eq.mpr c55
                                        clear c55
                                        have H' := Aside0.mk H
                                        clear H
                                        obtain ⟨Ao56, co56, eo56⟩ := Kd.R_slice HO_8.out
                                        subst eo56
                                        have p272 : 0 ≤ (0 : Int) := (by omega)
                                        have q272 : 0 < (x8_2.length : Int) := of_decide_eq_true (by first | (with_reducible assumption) | assumption)
                                        (try (obtain ⟨A_, c_, e_⟩ := Kd.R_slice HO_8.out; subst e_))
                                        obtain ⟨ad272, e272, hx272_0⟩ := Kd.at_int (Kd.R_reads' HO_8.out).2.2 0 p272 q272
                                        cases e272
                                        have qi272 : (0 < x8_2.length) = True := eq_true (by omega)
                                        (try rw [show ((0 : Int)).toNat = 0 from rfl] at hx272_0)
                                        (try rw [Addr.add_zero'] at hx272_0)
                                        replace p272 := eq_true p272
                                        replace q272 := eq_true q272
                                        go_wp2
                                        repeat (go_quiet (fail); try go_wp2)
                                        go_meet
                                        case rel => exact ⟨_, (0), (true), (by first | rfl | (simp; done) | (simp [*]; done)), (by first | rfl | (simp; done) | (simp [*]; done)), H', ⟨by have := HK1.out; have := HK2.out; first | omega | exact Nat.le_refl _⟩, ⟨by repeat (first | (with_reducible first | exact HB.out | apply below_alloc | apply pw_below_drewN | apply below_drew1) | exact HB.out)⟩⟩
                                      · rw [if_neg c55] at H
                                        have c55b0 : ((rd x8_2 0) == 1) = false := beq_eq_false_iff_ne.mpr c55
                                        have c55b1 : ((rd x8_2 0) != 1) = true := bne_iff_ne.mpr c55
                                        by_cases c57 : 1 < (x8_2.length : Int)
                                        · rw [if_pos c57] at H
                                          have c57b0 : decide (1 < (x8_2.length : Int)) = true := decide_eq_true c57
                                          have c57b1 : decide (1 < x8_2.length) = true := decide_eq_true (by omega)
                                          clear c57
                                          have H' := Aside0.mk H
                                          clear H
                                          obtain ⟨Ao58, co58, eo58⟩ := Kd.R_slice HO_8.out
                                          subst eo58
                                          have p272 : 0 ≤ (0 : Int) := (by omega)
                                          have q272 : 0 < (x8_2.length : Int) := of_decide_eq_true (by first | (with_reducible assumption) | assumption)
                                          (try (obtain ⟨A_, c_, e_⟩ := Kd.R_slice HO_8.out; subst e_))
                                          obtain ⟨ad272, e272, hx272_0⟩ := Kd.at_int (Kd.R_reads' HO_8.out).2.2 0 p272 q272
                                          cases e272
                                          have qi272 : (0 < x8_2.length) = True := eq_true (by omega)
                                          (try rw [show ((0 : Int)).toNat = 0 from rfl] at hx272_0)
                                          (try rw [Addr.add_zero'] at hx272_0)
                                          replace p272 := eq_true p272
                                          replace q272 := eq_true q272
                                          have p273 : 0 ≤ (1 : Int) := (by omega)
                                          have q273 : 1 < (x8_2.length : Int) := of_decide_eq_true (by first | (with_reducible assumption) | assumption)
                                          (try (obtain ⟨A_, c_, e_⟩ := Kd.R_slice HO_8.out; subst e_))
                                          obtain ⟨ad273, e273, hx273_0⟩ := Kd.at_int (Kd.R_reads' HO_8.out).2.2 1 p273 q273
                                          obtain rfl : ad272 = ad273 := (by injection e273)
                                          (try simp only [show (1 : Int).toNat = 1 from rfl, Nat.reduceMul, Nat.reduceEqDiff, Go.Addr.add, ↓reduceIte] at hx273_0)
                                          have qi273 : (1 < x8_2.length) = True := eq_true (by omega)
                                          (try rw [show ((1 : Int)).toNat = 1 from rfl] at hx273_0)
                                          replace p273 := eq_true p273
                                          replace q273 := eq_true q273
                                          go_wp2
                                          repeat (go_quiet (fail); try go_wp2)
                                          go_meet
                                          case rel => exact ⟨_, (0), (((rd x8_2 1) == 1)), (by first | rfl | (simp; done) | (simp [*]; done)), (by first | rfl | (simp; done) | (simp [*]; done)), H', ⟨by have := HK1.out; have := HK2.out; first | omega | exact Nat.le_refl _⟩, ⟨by repeat (first | (with_reducible first | exact HB.out | apply below_alloc | apply pw_below_drewN | apply below_drew1) | exact HB.out)⟩⟩
                                        · rw [if_neg c57] at H
                                          exact absurd H (by simp)
                                    · rw [if_neg c54] at H
                                      exact absurd H (by simp)
                                  · rw [if_neg c53] at H
                                    have c53b0 : (((rd_T63 l0 0).f0) == 9) = false := beq_eq_false_iff_ne.mpr c53
                                    have c53b1 : (((rd_T63 l0 0).f0) != 9) = true := bne_iff_ne.mpr c53
                                    by_cases c59 : ((rd_T63 l0 0).f0) = 10
                                    · rw [if_pos c59] at H
                                      have c59b0 : (((rd_T63 l0 0).f0) == 10) = true := beq_iff_eq.mpr c59
                                      have c59b1 : (((rd_T63 l0 0).f0) != 10) = false := bne_eq_false_iff_eq.mpr c59
                                      clear c59
                                      by_cases c60 : 0 < (x8_2.length : Int)
                                      · rw [if_pos c60] at H
                                        have c60b0 : decide (0 < (x8_2.length : Int)) = true := decide_eq_true c60
                                        have c60b1 : decide (0 < x8_2.length) = true := decide_eq_true (by omega)
                                        clear c60
                                        have H' := Aside0.mk H
                                        clear H
                                        obtain ⟨Ao61, co61, eo61⟩ := Kd.R_slice HO_8.out
                                        subst eo61
                                        have p274 : 0 ≤ (0 : Int) := (by omega)
                                        have q274 : 0 < (x8_2.length : Int) := of_decide_eq_true (by first | (with_reducible assumption) | assumption)
                                        (try (obtain ⟨A_, c_, e_⟩ := Kd.R_slice HO_8.out; subst e_))
                                        obtain ⟨ad274, e274, hx274_0⟩ := Kd.at_int (Kd.R_reads' HO_8.out).2.2 0 p274 q274
                                        cases e274
                                        have qi274 : (0 < x8_2.length) = True := eq_true (by omega)
                                        (try rw [show ((0 : Int)).toNat = 0 from rfl] at hx274_0)
                                        (try rw [Addr.add_zero'] at hx274_0)
                                        replace p274 := eq_true p274
                                        replace q274 := eq_true q274
                                        go_wp2
                                        repeat (go_quiet (fail); try go_wp2)
                                        go_meet
                                        case rel => exact ⟨_, (0), (((rd x8_2 0) == 0)), (by first | rfl | (simp; done) | (simp [*]; done)), (by first | rfl | (simp; done) | (simp [*]; done)), H', ⟨by have := HK1.out; have := HK2.out; first | omega | exact Nat.le_refl _⟩, ⟨by repeat (first | (with_reducible first | exact HB.out | apply below_alloc | apply pw_below_drewN | apply below_drew1) | exact HB.out)⟩⟩
                                      · rw [if_neg c60] at H
                                        exact absurd H (by simp)
                                    · rw [if_neg c59] at H
                                      have c59b0 : (((rd_T63 l0 0).f0) == 10) = false := beq_eq_false_iff_ne.mpr c59
                                      have c59b1 : (((rd_T63 l0 0).f0) != 10) = true := bne_iff_ne.mpr c59
                                      by_cases c62 : ((rd_T63 l0 0).f0) = 11
                                      · rw [if_pos c62] at H
                                        have c62b0 : (((rd_T63 l0 0).f0) == 11) = true := beq_iff_eq.mpr c62
                                        have c62b1 : (((rd_T63 l0 0).f0) != 11) = false := bne_eq_false_iff_eq.mpr c62
                                        clear c62
                                        have H' := Aside0.mk H
                                        clear H
                                        go_wp2
                                        repeat (go_quiet (fail); try go_wp2)
                                        go_meet
                                        case rel => exact ⟨_, (0), (true), (by first | rfl | (simp; done) | (simp [*]; done)), (by first | rfl | (simp; done) | (simp [*]; done)), H', ⟨by have := HK1.out; have := HK2.out; first | omega | exact Nat.le_refl _⟩, ⟨by repeat (first | (with_reducible first | exact HB.out | apply below_alloc | apply pw_below_drewN | apply below_drew1) | exact HB.out)⟩⟩
                                      · rw [if_neg c62] at H
                                        have c62b0 : (((rd_T63 l0 0).f0) == 11) = false := beq_eq_false_iff_ne.mpr c62
                                        have c62b1 : (((rd_T63 l0 0).f0) != 11) = true := bne_iff_ne.mpr c62
                                        have H' := Aside0.mk H
                                        clear H
                                        go_wp2
                                        repeat (go_quiet (fail); try go_wp2)
                                        go_meet
                                        case rel => exact ⟨_, (0), (false), (by first | rfl | (simp; done) | (simp [*]; done)), (by first | rfl | (simp; done) | (simp [*]; done)), H', ⟨by have := HK1.out; have := HK2.out; first | omega | exact Nat.le_refl _⟩, ⟨by repeat (first | (with_reducible first | exact HB.out | apply below_alloc | apply pw_below_drewN | apply below_drew1) | exact HB.out)⟩⟩
                case rest =>
                  clear HC22
                  try clear c1
                  try clear p1
                  try clear q1
                  try clear hx1
                  try clear c2
                  try clear p2
                  try clear q2
                  try clear hx2
                  try clear qi2
                  try clear c3
                  try clear c4
                  try clear c5
                  try clear c6
                  try clear p6
                  try clear c10
                  try clear c10b0
                  try clear c11
                  try clear c12
                  try clear c14
                  try clear c14b0
                  try clear c14b1
                  try clear c15
                  try clear p16
                  try clear q16
                  try clear hx16
                  try clear hf16
                  try clear c21
                  try clear c21b0
                  try clear c21b1
                  try clear c23
                  try clear c23b0
                  try clear c23b1
                  try clear c24
                  try clear c24b0
                  try clear c24b1
                  try clear c25
                  try clear c25b0
                  try clear p25
                  try clear q25
                  try clear hx25
                  try clear qi25
                  try clear c26
                  try clear c26b0
                  try clear p26
                  try clear q26
                  try clear hx26
                  try clear qi26
                  try clear c27
                  try clear c27b0
                  try clear c27b1
                  try clear p27
                  try clear q27
                  try clear hx27
                  try clear qi27
                  try clear c28
                  try clear c28b0
                  try clear c28b1
                  try clear c29
                  try clear c29b0
                  try clear c29b1
                  try clear c31
                  try clear c31b0
                  try clear c31b1
                  try clear c32
                  try clear c32b0
                  try clear c32b1
                  try clear c33
                  try clear c33b0
                  try clear c33b1
                  try clear c35
                  try clear c35b0
                  try clear c35b1
                  try clear c36
                  try clear c36b0
                  try clear c36b1
                  try clear c37
                  try clear c37b0
                  try clear c37b1
                  try clear c39
                  try clear c39b0
                  try clear c39b1
                  try clear c40
                  try clear c40b0
                  try clear c40b1
                  try clear c41
                  try clear c41b0
                  try clear c41b1
                  try clear c43
                  try clear c43b0
                  try clear c43b1
                  try clear c44
                  try clear c44b0
                  try clear c44b1
                  try clear c45
                  try clear c45b0
                  try clear c45b1
                  try clear c47
                  try clear c47b0
                  try clear c47b1
                  try clear c48
                  try clear c48b0
                  try clear c48b1
                  try clear c49
                  try clear c49b0
                  try clear c49b1
                  try clear c50
                  try clear c50b0
                  try clear c50b1
                  try clear c53
                  try clear c53b0
                  try clear c53b1
                  try clear c54
                  try clear c54b0
                  try clear c54b1
                  try clear c55
                  try clear c55b0
                  try clear c55b1
                  try clear c57
                  try clear c57b0
                  try clear c57b1
                  try clear c59
                  try clear c59b0
                  try clear c59b1
                  try clear c60
                  try clear c60b0
                  try clear c60b1
                  try clear c62
                  try clear c62b0
                  try clear c62b1
                  try clear hx16_0
                  try clear hx252_0
                  try clear hx256_0
                  try clear hx256_1
                  try clear hx257_0
                  try clear hx257_1
                  try clear hx258_0
                  try clear hx258_1
                  try clear hx259_0
                  try clear hx260_0
                  try clear hx261_0
                  try clear hx262_0
                  try clear hx263_0
                  try clear hx264_0
                  try clear hx265_0
                  try clear hx266_0
                  try clear hx267_0
                  try clear hx268_0
                  try clear hx269_0
                  try clear hx270_0
                  try clear hx271_0
                  try clear hx272_0
                  try clear hx273_0
                  try clear hx274_0
                  try clear p16
                  try clear p252
                  try clear p256
                  try clear p257
                  try clear p258
                  try clear p259
                  try clear p260
                  try clear p261
                  try clear p262
                  try clear p263
                  try clear p264
                  try clear p265
                  try clear p266
                  try clear p267
                  try clear p268
                  try clear p269
                  try clear p270
                  try clear p271
                  try clear p272
                  try clear p273
                  try clear p274
                  try clear q16
                  try clear q252
                  try clear q256
                  try clear q257
                  try clear q258
                  try clear q259
                  try clear q260
                  try clear q261
                  try clear q262
                  try clear q263
                  try clear q264
                  try clear q265
                  try clear q266
                  try clear q267
                  try clear q268
                  try clear q269
                  try clear q270
                  try clear q271
                  try clear q272
                  try clear q273
                  try clear q274
                  obtain ⟨kq, x13_21, x14_21, rfl, rfl, HA, HJ21, HB⟩ := hcut
                  cases kq with
                  | zero => exact absurd HA.out (by simp [foretellref_worked.j2])
                  | succ kj21 =>
                    have H := HA.out
                    clear HA
                    simp only [foretellref_worked.j2] at H
                    by_cases c63 : x14_21 = true
                    · subst c63
                      have H1 : ((foretellref_In.f 1 (-1000000) 1000000).bind fun t275 => (if t275 = true then (some (1, 0)) else (some (0, 8)))) = some (r1, r2) := by rw [if_pos rfl] at H; exact H
                      clear H
                      have H := H1
                      clear H1
                      replace H := Option.bind_eq_some_iff.mp H
                      obtain ⟨t275, A640, H⟩ := H
                      replace H : (if t275 = true then (some (1, 0)) else (some (0, 8))) = some (r1, r2) := H
                      have A64 := Aside0.mk A640
                      clear A640
                      by_cases c65 : t275 = true
                      · subst c65
                        have H1 : (some (1, 0)) = some (r1, r2) := by rw [if_pos rfl] at H; exact H
                        clear H
                        have H := H1
                        clear H1
                        simp only [Option.some.injEq, Prod.mk.injEq] at H
                        obtain ⟨rfl, rfl⟩ := H
                        go_wp2_with (first | (go_at_call 49; (with_reducible refine (foretellref_In.calls 1 (-1000000) 1000000 true _ A64.out).mono ?_); rintro e w' ⟨rfl, ⟨nd, rfl⟩⟩; (try first | exact ⟨rfl, _, World.drewN_drewN _ _ _⟩ | exact ⟨rfl, _, Eq.trans (World.drewN_drewN _ _ _) (congrArg (World.drewN _) (Nat.add_assoc _ _ _))⟩)))
                        repeat (go_quiet (first | (go_at_call 49; (with_reducible refine (foretellref_In.calls 1 (-1000000) 1000000 true _ A64.out).mono ?_); rintro e w' ⟨rfl, ⟨nd, rfl⟩⟩; (try first | exact ⟨rfl, _, World.drewN_drewN _ _ _⟩ | exact ⟨rfl, _, Eq.trans (World.drewN_drewN _ _ _) (congrArg (World.drewN _) (Nat.add_assoc _ _ _))⟩))); try go_wp2_with (first | (go_at_call 49; (with_reducible refine (foretellref_In.calls 1 (-1000000) 1000000 true _ A64.out).mono ?_); rintro e w' ⟨rfl, ⟨nd, rfl⟩⟩; (try first | exact ⟨rfl, _, World.drewN_drewN _ _ _⟩ | exact ⟨rfl, _, Eq.trans (World.drewN_drewN _ _ _) (congrArg (World.drewN _) (Nat.add_assoc _ _ _))⟩))))
                        go_ret2
                        exact ⟨by first | rfl | (simp [errW_none, errW_some] <;> rfl) | (simp [*, errW_none, errW_some] <;> rfl), by repeat (first | (with_reducible first | exact HB.out | apply below_alloc | apply pw_below_drewN | apply below_drew1) | exact HB.out)⟩
                      · replace c65 := Bool.eq_false_iff.mpr c65
                        subst c65
                        have H1 : (some (0, 8)) = some (r1, r2) := by rw [if_neg (show ¬ (false = true) by decide)] at H; exact H
                        clear H
                        have H := H1
                        clear H1
                        simp only [Option.some.injEq, Prod.mk.injEq] at H
                        obtain ⟨rfl, rfl⟩ := H
                        go_wp2_with (first | (go_at_call 49; (with_reducible refine (foretellref_In.calls 1 (-1000000) 1000000 false _ A64.out).mono ?_); rintro e w' ⟨rfl, ⟨nd, rfl⟩⟩; (try first | exact ⟨rfl, _, World.drewN_drewN _ _ _⟩ | exact ⟨rfl, _, Eq.trans (World.drewN_drewN _ _ _) (congrArg (World.drewN _) (Nat.add_assoc _ _ _))⟩)))
                        repeat (go_quiet (first | (go_at_call 49; (with_reducible refine (foretellref_In.calls 1 (-1000000) 1000000 false _ A64.out).mono ?_); rintro e w' ⟨rfl, ⟨nd, rfl⟩⟩; (try first | exact ⟨rfl, _, World.drewN_drewN _ _ _⟩ | exact ⟨rfl, _, Eq.trans (World.drewN_drewN _ _ _) (congrArg (World.drewN _) (Nat.add_assoc _ _ _))⟩))); try go_wp2_with (first | (go_at_call 49; (with_reducible refine (foretellref_In.calls 1 (-1000000) 1000000 false _ A64.out).mono ?_); rintro e w' ⟨rfl, ⟨nd, rfl⟩⟩; (try first | exact ⟨rfl, _, World.drewN_drewN _ _ _⟩ | exact ⟨rfl, _, Eq.trans (World.drewN_drewN _ _ _) (congrArg (World.drewN _) (Nat.add_assoc _ _ _))⟩))))
                        go_ret2
                        exact ⟨by first | rfl | (simp [errW_none, errW_some] <;> rfl) | (simp [*, errW_none, errW_some] <;> rfl), by repeat (first | (with_reducible first | exact HB.out | apply below_alloc | apply pw_below_drewN | apply below_drew1) | exact HB.out)⟩
                    · replace c63 := Bool.eq_false_iff.mpr c63
                      subst c63
                      have H1 : ((foretellref_In.f x13_21 (-1000000) 1000000).bind fun t276 => (if t276 = true then (some (x13_21, 0)) else (some (0, 8)))) = some (r1, r2) := by rw [if_neg (show ¬ (false = true) by decide)] at H; exact H
                      clear H
                      have H := H1
                      clear H1
                      replace H := Option.bind_eq_some_iff.mp H
                      obtain ⟨t276, A660, H⟩ := H
                      replace H : (if t276 = true then (some (x13_21, 0)) else (some (0, 8))) = some (r1, r2) := H
                      have A66 := Aside0.mk A660
                      clear A660
                      by_cases c67 : t276 = true
                      · subst c67
                        have H1 : (some (x13_21, 0)) = some (r1, r2) := by rw [if_pos rfl] at H; exact H
                        clear H
                        have H := H1
                        clear H1
                        simp only [Option.some.injEq, Prod.mk.injEq] at H
                        obtain ⟨rfl, rfl⟩ := H
                        go_wp2_with (first | (go_at_call 49; (with_reducible refine (foretellref_In.calls x13_21 (-1000000) 1000000 true _ A66.out).mono ?_); rintro e w' ⟨rfl, ⟨nd, rfl⟩⟩; (try first | exact ⟨rfl, _, World.drewN_drewN _ _ _⟩ | exact ⟨rfl, _, Eq.trans (World.drewN_drewN _ _ _) (congrArg (World.drewN _) (Nat.add_assoc _ _ _))⟩)))
                        repeat (go_quiet (first | (go_at_call 49; (with_reducible refine (foretellref_In.calls x13_21 (-1000000) 1000000 true _ A66.out).mono ?_); rintro e w' ⟨rfl, ⟨nd, rfl⟩⟩; (try first | exact ⟨rfl, _, World.drewN_drewN _ _ _⟩ | exact ⟨rfl, _, Eq.trans (World.drewN_drewN _ _ _) (congrArg (World.drewN _) (Nat.add_assoc _ _ _))⟩))); try go_wp2_with (first | (go_at_call 49; (with_reducible refine (foretellref_In.calls x13_21 (-1000000) 1000000 true _ A66.out).mono ?_); rintro e w' ⟨rfl, ⟨nd, rfl⟩⟩; (try first | exact ⟨rfl, _, World.drewN_drewN _ _ _⟩ | exact ⟨rfl, _, Eq.trans (World.drewN_drewN _ _ _) (congrArg (World.drewN _) (Nat.add_assoc _ _ _))⟩))))
                        go_ret2
                        exact ⟨by first | rfl | (simp [errW_none, errW_some] <;> rfl) | (simp [*, errW_none, errW_some] <;> rfl), by repeat (first | (with_reducible first | exact HB.out | apply below_alloc | apply pw_below_drewN | apply below_drew1) | exact HB.out)⟩
                      · replace c67 := Bool.eq_false_iff.mpr c67
                        subst c67
                        have H1 : (some (0, 8)) = some (r1, r2) := by rw [if_neg (show ¬ (false = true) by decide)] at H; exact H
                        clear H
                        have H := H1
                        clear H1
                        simp only [Option.some.injEq, Prod.mk.injEq] at H
                        obtain ⟨rfl, rfl⟩ := H
                        go_wp2_with (first | (go_at_call 49; (with_reducible refine (foretellref_In.calls x13_21 (-1000000) 1000000 false _ A66.out).mono ?_); rintro e w' ⟨rfl, ⟨nd, rfl⟩⟩; (try first | exact ⟨rfl, _, World.drewN_drewN _ _ _⟩ | exact ⟨rfl, _, Eq.trans (World.drewN_drewN _ _ _) (congrArg (World.drewN _) (Nat.add_assoc _ _ _))⟩)))
                        repeat (go_quiet (first | (go_at_call 49; (with_reducible refine (foretellref_In.calls x13_21 (-1000000) 1000000 false _ A66.out).mono ?_); rintro e w' ⟨rfl, ⟨nd, rfl⟩⟩; (try first | exact ⟨rfl, _, World.drewN_drewN _ _ _⟩ | exact ⟨rfl, _, Eq.trans (World.drewN_drewN _ _ _) (congrArg (World.drewN _) (Nat.add_assoc _ _ _))⟩))); try go_wp2_with (first | (go_at_call 49; (with_reducible refine (foretellref_In.calls x13_21 (-1000000) 1000000 false _ A66.out).mono ?_); rintro e w' ⟨rfl, ⟨nd, rfl⟩⟩; (try first | exact ⟨rfl, _, World.drewN_drewN _ _ _⟩ | exact ⟨rfl, _, Eq.trans (World.drewN_drewN _ _ _) (congrArg (World.drewN _) (Nat.add_assoc _ _ _))⟩))))
                        go_ret2
                        exact ⟨by first | rfl | (simp [errW_none, errW_some] <;> rfl) | (simp [*, errW_none, errW_some] <;> rfl), by repeat (first | (with_reducible first | exact HB.out | apply below_alloc | apply pw_below_drewN | apply below_drew1) | exact HB.out)⟩
              · rw [if_neg c21] at H
                exact absurd H (by simp)

/-! ### foretellref_Evaluated: function 42 -/
def foretellref_Evaluated.l0 : Nat → List (S63) → List Int → Int → Option (Int × Int)
  | 0, _, _, _ => none
  | k + 1, x0, x1, x8 => if x8 < (x1.length : Int) then (if 0 ≤ x8 then ((foretellref_In.f (rd x1 x8) (-1000000) 1000000).bind fun t280 => (if t280 = true then (foretellref_Evaluated.l0 k x0 x1 (wrap64 (x8 + 1))) else (some (0, 2)))) else (none)) else ((foretellref_worked.f k x0 x1).bind fun bt281 => (some (bt281.1, bt281.2)))
def foretellref_Evaluated.f (k : Nat) (l0 : List (S63)) (l1 : List Int) : Option (Int × Int) := (foretellref_ExprChecked.f k l0 (l1.length : Int)).bind fun bt277 => (if bt277.2 = 0 then (foretellref_Evaluated.l0 k l0 l1 0) else (some (0, bt277.2)))
theorem foretellref_Evaluated.mono_l : ∀ k, (∀ y0 y1 y2, LeO (foretellref_Evaluated.l0 k y0 y1 y2) (foretellref_Evaluated.l0 (k + 1) y0 y1 y2))
  | 0 => fun _ _ _ r h => by simp [foretellref_Evaluated.l0] at h
  | k + 1 => by
    have ih0 := foretellref_Evaluated.mono_l k
    · intro y0 y1 y2
      unfold foretellref_Evaluated.l0
      repeat' first
      | (with_reducible exact ih0 _ _ _)
      | (with_reducible exact foretellref_ExprChecked.mono _ _ _)
      | (with_reducible exact foretellref_worked.mono _ _ _)
      | (with_reducible exact LeO.refl _)
      | (with_reducible exact LeO.none _)
      | (with_reducible refine LeO.ite ?_ ?_)
      | (with_reducible refine LeO.bind ?_ (fun _ => ?_))
      | exact ih0 _ _ _
      | exact foretellref_ExprChecked.mono _ _ _
      | exact foretellref_worked.mono _ _ _
      | exact LeO.none _
      | refine LeO.ite ?_ ?_
      | refine LeO.bind ?_ (fun _ => ?_)
theorem foretellref_Evaluated.mono : ∀ a0 a1 k, LeO (foretellref_Evaluated.f k a0 a1) (foretellref_Evaluated.f (k + 1) a0 a1) := by
  intro a0 a1 k
  have ih0 := foretellref_Evaluated.mono_l k
  unfold foretellref_Evaluated.f
  repeat' first
      | (with_reducible exact ih0 _ _ _)
      | (with_reducible exact foretellref_ExprChecked.mono _ _ _)
      | (with_reducible exact foretellref_worked.mono _ _ _)
      | (with_reducible exact LeO.refl _)
      | (with_reducible exact LeO.none _)
      | (with_reducible refine LeO.ite ?_ ?_)
      | (with_reducible refine LeO.bind ?_ (fun _ => ?_))
      | exact ih0 _ _ _
      | exact foretellref_ExprChecked.mono _ _ _
      | exact foretellref_worked.mono _ _ _
      | exact LeO.none _
      | refine LeO.ite ?_ ?_
      | refine LeO.bind ?_ (fun _ => ?_)
set_option maxHeartbeats 8000000 in
set_option maxRecDepth 100000 in
theorem foretellref_Evaluated.calls (k : Nat) (A0 : Option Addr) (c0 : Nat) (l0 : List (S63)) (A1 : Option Addr) (c1 : Nat) (l1 : List Int) (r1 : Int) (r2 : Int) (w : World) (hr0 : Kd.C k63 w A0 l0.length l0) (hc0 : l0.length ≤ c0) (hr1 : Kd.C (Kd.int .i64) w A1 l1.length l1) (hc1 : l1.length ≤ c1) (h : foretellref_Evaluated.f k l0 l1 = some (r1, r2)) :
    Calls Tryd.prog 42 #[.slice A0 l0.length c0, .slice A1 l1.length c1] w fun e w' => e = .returned (.tuple #[.int .i64 r1, .int .i64 r2]) ∧ Below w.heap.size w w' := by
  have HR0 := Aside0.mk hr0
  have HC0 := Aside0.mk hc0
  clear hr0 hc0
  have HR1 := Aside0.mk hr1
  have HC1 := Aside0.mk hc1
  clear hr1 hc1
  have HB := Aside0.mk (Below.refl w.heap.size w)
  have H : ((foretellref_ExprChecked.f k l0 (l1.length : Int)).bind fun bt277 => (if bt277.2 = 0 then (foretellref_Evaluated.l0 k l0 l1 0) else (some (0, bt277.2)))) = some (r1, r2) := h
  clear h
  replace H := Option.bind_eq_some_iff.mp H
  obtain ⟨⟨t277, t278⟩, A30, H⟩ := H
  replace H : (if t278 = 0 then (foretellref_Evaluated.l0 k l0 l1 0) else (some (0, t278))) = some (r1, r2) := H
  have A3 := Aside0.mk A30
  clear A30
  by_cases c4 : t278 = 0
  · rw [if_pos c4] at H
    have c4b0 : (t278 == 0) = true := beq_iff_eq.mpr c4
    have c4b1 : (t278 != 0) = false := bne_eq_false_iff_eq.mpr c4
    clear c4
    have H' := Aside0.mk H
    clear H
    go_enter Tryd.func42, Tryd.ntmps42
    go_wp2_with (first | ((with_reducible refine gate_callee (f := 31) rfl ?_); refine goesL_ (some 15) rfl rfl Tryd.func31 (by kernel_rfl) rfl #[.slice A0 l0.length c0, .int .i64 (l1.length : Int)] rfl (by (try simp only [List.map_toArray, List.map_cons, List.map_nil]); first | done | rfl | (simp only [List.length_drop, List.length_take]; rfl)) ?_; (with_reducible refine (foretellref_ExprChecked.calls k _ _ l0 (l1.length : Int) t277 t278 _ ?side1 ?side2 A3.out).mono ?_); (case side1 => repeat (first | exact HR0.out | (with_reducible refine Kd.C_alloc ?_ _) | (with_reducible refine Kd.C_drewN ?_ _) | (with_reducible refine Kd.C_drew ?_))); (case side2 => exact HC0.out); rintro e w5 ⟨rfl, hb⟩; refine ⟨_, rfl, ?_⟩; have n0_ := Aside0.mk (below_step (by repeat (first | (with_reducible first | exact HB.out | apply below_alloc | apply pw_below_drewN | apply below_drew1) | exact HB.out)) hb); clear HB; have HB := n0_; clear n0_; (try clear hb); (try clear hb2); (try clear hk); (try clear hi)))
    go_loopg [8] k (fun kq v8 w' => ∃ (x8_1 : Int), v8 = .int .i64 x8_1 ∧ Aside0 (foretellref_Evaluated.l0 kq l0 l1 x8_1 = some (r1, r2)) ∧ Aside0 (kq ≤ k) ∧ Aside0 (Below w.heap.size w w'))
    case atStart => exact ⟨(0), (by first | rfl | (simp; done) | (simp [*]; done)), H', ⟨Nat.le_refl _⟩, ⟨by repeat (first | (with_reducible first | exact HB.out | apply below_alloc | apply pw_below_drewN | apply below_drew1) | exact HB.out)⟩⟩
    case round =>
      clear H'
      try clear c1
      try clear p2
      try clear c3
      try clear c4
      try clear c4b0
      try clear c4b1
      obtain ⟨x8_1, rfl, HA, HK1, HB⟩ := hrel
      cases gk with
      | zero => exact absurd HA.out (by simp [foretellref_Evaluated.l0])
      | succ k1 =>
        have H := HA.out
        clear HA
        simp only [foretellref_Evaluated.l0] at H
        by_cases c6 : x8_1 < (l1.length : Int)
        · rw [if_pos c6] at H
          have c6b0 : decide (x8_1 < (l1.length : Int)) = true := decide_eq_true c6
          clear c6
          by_cases c7 : 0 ≤ x8_1
          · rw [if_pos c7] at H
            have c7b0 : decide (0 ≤ x8_1) = true := decide_eq_true c7
            clear c7
            replace H := Option.bind_eq_some_iff.mp H
            obtain ⟨t280, A80, H⟩ := H
            replace H : (if t280 = true then (foretellref_Evaluated.l0 k1 l0 l1 (wrap64 (x8_1 + 1))) else (some (0, 2))) = some (r1, r2) := H
            have A8 := Aside0.mk A80
            clear A80
            by_cases c9 : t280 = true
            · subst c9
              have H1 : (foretellref_Evaluated.l0 k1 l0 l1 (wrap64 (x8_1 + 1))) = some (r1, r2) := by rw [if_pos rfl] at H; exact H
              clear H
              have H := H1
              clear H1
              have H' := Aside0.mk H
              clear H
              have p279 : 0 ≤ (x8_1 : Int) := of_decide_eq_true (by first | (with_reducible assumption) | assumption)
              have q279 : x8_1 < (l1.length : Int) := of_decide_eq_true (by first | (with_reducible assumption) | assumption)
              obtain ⟨ad279, e279, hx279_0⟩ := Kd.at_int HR1.out x8_1 p279 q279
              cases e279
              replace hx279_0 := (HB.out.cell (World.block_lt_of_cell? w _ hx279_0)).trans hx279_0
              replace p279 := eq_true p279
              replace q279 := eq_true q279
              go_wp2_with (first | ((with_reducible refine gate_callee (f := 49) rfl ?_); refine goesL_ (some 31) rfl rfl Tryd.func49 (by kernel_rfl) rfl #[.int .i64 (rd l1 x8_1), .int .i64 (-1000000), .int .i64 1000000] rfl (by (try simp only [List.map_toArray, List.map_cons, List.map_nil]); first | done | rfl | (simp only [List.length_drop, List.length_take]; rfl)) ?_; (with_reducible refine (foretellref_In.calls (rd l1 x8_1) (-1000000) 1000000 true _ A8.out).mono ?_); rintro e w' ⟨rfl, ⟨nd, rfl⟩⟩; refine ⟨_, rfl, ?_⟩))
              go_roundg k1
              case measure => have := HK1.out; omega
              case rel => exact ⟨(wrap64 (x8_1 + 1)), (by first | rfl | (simp; done) | (simp [*]; done)), H', ⟨by have := HK1.out; omega⟩, ⟨by repeat (first | (with_reducible first | exact HB.out | apply below_alloc | apply pw_below_drewN | apply below_drew1) | exact HB.out)⟩⟩
            · replace c9 := Bool.eq_false_iff.mpr c9
              subst c9
              have H1 : (some (0, 2)) = some (r1, r2) := by rw [if_neg (show ¬ (false = true) by decide)] at H; exact H
              clear H
              have H := H1
              clear H1
              simp only [Option.some.injEq, Prod.mk.injEq] at H
              obtain ⟨rfl, rfl⟩ := H
              have p279 : 0 ≤ (x8_1 : Int) := of_decide_eq_true (by first | (with_reducible assumption) | assumption)
              have q279 : x8_1 < (l1.length : Int) := of_decide_eq_true (by first | (with_reducible assumption) | assumption)
              obtain ⟨ad279, e279, hx279_0⟩ := Kd.at_int HR1.out x8_1 p279 q279
              cases e279
              replace hx279_0 := (HB.out.cell (World.block_lt_of_cell? w _ hx279_0)).trans hx279_0
              replace p279 := eq_true p279
              replace q279 := eq_true q279
              go_wp2_with (first | ((with_reducible refine gate_callee (f := 49) rfl ?_); refine goesL_ (some 31) rfl rfl Tryd.func49 (by kernel_rfl) rfl #[.int .i64 (rd l1 x8_1), .int .i64 (-1000000), .int .i64 1000000] rfl (by (try simp only [List.map_toArray, List.map_cons, List.map_nil]); first | done | rfl | (simp only [List.length_drop, List.length_take]; rfl)) ?_; (with_reducible refine (foretellref_In.calls (rd l1 x8_1) (-1000000) 1000000 false _ A8.out).mono ?_); rintro e w' ⟨rfl, ⟨nd, rfl⟩⟩; refine ⟨_, rfl, ?_⟩))
              go_ret2
              exact ⟨by first | rfl | (simp [errW_none, errW_some] <;> rfl) | (simp [*, errW_none, errW_some] <;> rfl), by repeat (first | (with_reducible first | exact HB.out | apply below_alloc | apply pw_below_drewN | apply below_drew1) | exact HB.out)⟩
          · rw [if_neg c7] at H
            exact absurd H (by simp)
        · rw [if_neg c6] at H
          have c6b0 : decide (x8_1 < (l1.length : Int)) = false := decide_eq_false c6
          clear c6
          replace H := Option.bind_eq_some_iff.mp H
          obtain ⟨⟨t281, t282⟩, A100, H⟩ := H
          replace H : (some (t281, t282)) = some (r1, r2) := H
          have A10 := Aside0.mk A100
          clear A100
          simp only [Option.some.injEq, Prod.mk.injEq] at H
          obtain ⟨rfl, rfl⟩ := H
          go_wp2_with (first | ((with_reducible refine gate_callee (f := 63) rfl ?_); refine goesL_ (some 36) rfl rfl Tryd.func63 (by kernel_rfl) rfl #[.slice A0 l0.length c0, .slice A1 l1.length c1] rfl (by (try simp only [List.map_toArray, List.map_cons, List.map_nil]); first | done | rfl | (simp only [List.length_drop, List.length_take]; rfl)) ?_; (with_reducible refine (foretellref_worked.calls k1 _ _ l0 _ _ l1 t281 t282 _ ?side1 ?side2 ?side3 ?side4 A10.out).mono ?_); (case side1 => repeat (first | exact (Kd.C_below HR0.out HB.out) | (with_reducible refine Kd.C_alloc ?_ _) | (with_reducible refine Kd.C_drewN ?_ _) | (with_reducible refine Kd.C_drew ?_))); (case side2 => exact HC0.out); (case side3 => repeat (first | exact (Kd.C_below HR1.out HB.out) | (with_reducible refine Kd.C_alloc ?_ _) | (with_reducible refine Kd.C_drewN ?_ _) | (with_reducible refine Kd.C_drew ?_))); (case side4 => exact HC1.out); rintro e w11 ⟨rfl, hb⟩; refine ⟨_, rfl, ?_⟩; have n0_ := Aside0.mk (below_step (by repeat (first | (with_reducible first | exact HB.out | apply below_alloc | apply pw_below_drewN | apply below_drew1) | exact HB.out)) hb); clear HB; have HB := n0_; clear n0_; (try clear hb); (try clear hb2); (try clear hk); (try clear hi)))
          go_ret2
          exact ⟨by first | rfl | (simp [errW_none, errW_some] <;> rfl) | (simp [*, errW_none, errW_some] <;> rfl), by repeat (first | (with_reducible first | exact HB.out | apply below_alloc | apply pw_below_drewN | apply below_drew1) | exact HB.out)⟩
  · rw [if_neg c4] at H
    have c4b0 : (t278 == 0) = false := beq_eq_false_iff_ne.mpr c4
    have c4b1 : (t278 != 0) = true := bne_iff_ne.mpr c4
    simp only [Option.some.injEq, Prod.mk.injEq] at H
    obtain ⟨rfl, rfl⟩ := H
    go_enter Tryd.func42, Tryd.ntmps42
    go_wp2_with (first | ((with_reducible refine gate_callee (f := 31) rfl ?_); refine goesL_ (some 15) rfl rfl Tryd.func31 (by kernel_rfl) rfl #[.slice A0 l0.length c0, .int .i64 (l1.length : Int)] rfl (by (try simp only [List.map_toArray, List.map_cons, List.map_nil]); first | done | rfl | (simp only [List.length_drop, List.length_take]; rfl)) ?_; (with_reducible refine (foretellref_ExprChecked.calls k _ _ l0 (l1.length : Int) t277 t278 _ ?side1 ?side2 A3.out).mono ?_); (case side1 => repeat (first | exact HR0.out | (with_reducible refine Kd.C_alloc ?_ _) | (with_reducible refine Kd.C_drewN ?_ _) | (with_reducible refine Kd.C_drew ?_))); (case side2 => exact HC0.out); rintro e w12 ⟨rfl, hb⟩; refine ⟨_, rfl, ?_⟩; have n0_ := Aside0.mk (below_step (by repeat (first | (with_reducible first | exact HB.out | apply below_alloc | apply pw_below_drewN | apply below_drew1) | exact HB.out)) hb); clear HB; have HB := n0_; clear n0_; (try clear hb); (try clear hb2); (try clear hk); (try clear hi)))
    go_ret2
    exact ⟨by first | rfl | (simp [errW_none, errW_some] <;> rfl) | (simp [*, errW_none, errW_some] <;> rfl), by repeat (first | (with_reducible first | exact HB.out | apply below_alloc | apply pw_below_drewN | apply below_drew1) | exact HB.out)⟩

/-! ### foretelllaw_ExprEvals: function 13 -/
def foretelllaw_ExprEvals.f (k : Nat) (l0 : List (S63)) (l1 : List Int) : Option (Bool) := (foretelllaw_ints.f l1).bind fun t283 => ((foretelllaw_ops.f l0).bind fun t286 => ((expr_Eval.f t286 t283).bind fun bt289 => ((foretellref_Evaluated.f k l0 l1).bind fun bt291 => (if bt289.1 = bt291.1 then (if bt289.2 = bt291.2 then ((foretelllaw_sameInts.f k t283 l1).bind fun t293 => (some t293)) else (some false)) else (some false)))))
theorem foretelllaw_ExprEvals.mono : ∀ a0 a1 k, LeO (foretelllaw_ExprEvals.f k a0 a1) (foretelllaw_ExprEvals.f (k + 1) a0 a1) := by
  intro a0 a1 k
  unfold foretelllaw_ExprEvals.f
  repeat' first
      | (with_reducible exact foretelllaw_sameInts.mono _ _ _)
      | (with_reducible exact foretellref_Evaluated.mono _ _ _)
      | (with_reducible exact LeO.refl _)
      | (with_reducible exact LeO.none _)
      | (with_reducible refine LeO.ite ?_ ?_)
      | (with_reducible refine LeO.bind ?_ (fun _ => ?_))
      | exact foretelllaw_sameInts.mono _ _ _
      | exact foretellref_Evaluated.mono _ _ _
      | exact LeO.none _
      | refine LeO.ite ?_ ?_
      | refine LeO.bind ?_ (fun _ => ?_)
set_option maxHeartbeats 8000000 in
set_option maxRecDepth 100000 in
theorem foretelllaw_ExprEvals.calls (k : Nat) (A0 : Option Addr) (c0 : Nat) (l0 : List (S63)) (A1 : Option Addr) (c1 : Nat) (l1 : List Int) (r : Bool) (w : World) (hr0 : Kd.C k63 w A0 l0.length l0) (hc0 : l0.length ≤ c0) (hr1 : Kd.C (Kd.int .i64) w A1 l1.length l1) (hc1 : l1.length ≤ c1) (hL : LaidG w) (h : foretelllaw_ExprEvals.f k l0 l1 = some r) :
    Calls Tryd.prog 13 #[.slice A0 l0.length c0, .slice A1 l1.length c1] w fun e w' => e = .returned (.bool r) ∧ Below w.heap.size w w' := by
  have HLd := Aside0.mk hL
  clear hL
  have HR0 := Aside0.mk hr0
  have HC0 := Aside0.mk hc0
  clear hr0 hc0
  have HR1 := Aside0.mk hr1
  have HC1 := Aside0.mk hc1
  clear hr1 hc1
  have HB := Aside0.mk (Below.refl w.heap.size w)
  have H : ((foretelllaw_ints.f l1).bind fun t283 => ((foretelllaw_ops.f l0).bind fun t286 => ((expr_Eval.f t286 t283).bind fun bt289 => ((foretellref_Evaluated.f k l0 l1).bind fun bt291 => (if bt289.1 = bt291.1 then (if bt289.2 = bt291.2 then ((foretelllaw_sameInts.f k t283 l1).bind fun t293 => (some t293)) else (some false)) else (some false)))))) = some r := h
  clear h
  replace H := Option.bind_eq_some_iff.mp H
  obtain ⟨t283, A30, H⟩ := H
  replace H : ((foretelllaw_ops.f l0).bind fun t286 => ((expr_Eval.f t286 t283).bind fun bt289 => ((foretellref_Evaluated.f k l0 l1).bind fun bt291 => (if bt289.1 = bt291.1 then (if bt289.2 = bt291.2 then ((foretelllaw_sameInts.f k t283 l1).bind fun t293 => (some t293)) else (some false)) else (some false))))) = some r := H
  have A3 := Aside0.mk A30
  clear A30
  replace H := Option.bind_eq_some_iff.mp H
  obtain ⟨t286, A40, H⟩ := H
  replace H : ((expr_Eval.f t286 t283).bind fun bt289 => ((foretellref_Evaluated.f k l0 l1).bind fun bt291 => (if bt289.1 = bt291.1 then (if bt289.2 = bt291.2 then ((foretelllaw_sameInts.f k t283 l1).bind fun t293 => (some t293)) else (some false)) else (some false)))) = some r := H
  have A4 := Aside0.mk A40
  clear A40
  replace H := Option.bind_eq_some_iff.mp H
  obtain ⟨⟨t289, t290⟩, A50, H⟩ := H
  replace H : ((foretellref_Evaluated.f k l0 l1).bind fun bt291 => (if t289 = bt291.1 then (if t290 = bt291.2 then ((foretelllaw_sameInts.f k t283 l1).bind fun t293 => (some t293)) else (some false)) else (some false))) = some r := H
  have A5 := Aside0.mk A50
  clear A50
  replace H := Option.bind_eq_some_iff.mp H
  obtain ⟨⟨t291, t292⟩, A60, H⟩ := H
  replace H : (if t289 = t291 then (if t290 = t292 then ((foretelllaw_sameInts.f k t283 l1).bind fun t293 => (some t293)) else (some false)) else (some false)) = some r := H
  have A6 := Aside0.mk A60
  clear A60
  by_cases c7 : t289 = t291
  · rw [if_pos c7] at H
    have c7b0 : (t289 == t291) = true := beq_iff_eq.mpr c7
    have c7b1 : (t289 != t291) = false := bne_eq_false_iff_eq.mpr c7
    clear c7
    by_cases c8 : t290 = t292
    · rw [if_pos c8] at H
      have c8b0 : (t290 == t292) = true := beq_iff_eq.mpr c8
      have c8b1 : (t290 != t292) = false := bne_eq_false_iff_eq.mpr c8
      clear c8
      replace H := Option.bind_eq_some_iff.mp H
      obtain ⟨t293, A90, H⟩ := H
      replace H : (some t293) = some r := H
      have A9 := Aside0.mk A90
      clear A90
      obtain rfl := Option.some.inj H
      go_enter Tryd.func13, Tryd.ntmps13
      go_wp2_with (first | ((with_reducible refine gate_callee (f := 40) rfl ?_); refine goesL_ (some 11) rfl rfl Tryd.func40 (by kernel_rfl) rfl #[.slice A1 l1.length c1] rfl (by (try simp only [List.map_toArray, List.map_cons, List.map_nil]); first | done | rfl | (simp only [List.length_drop, List.length_take]; rfl)) ?_; (with_reducible refine (foretelllaw_ints.calls _ _ l1 t283 _ ?side1 ?side2 A3.out).mono ?_); (case side1 => repeat (first | exact HR1.out | (with_reducible refine Kd.C_alloc ?_ _) | (with_reducible refine Kd.C_drewN ?_ _) | (with_reducible refine Kd.C_drew ?_))); (case side2 => exact HC1.out); rintro e w10 ⟨v284, rfl, ho0, hb⟩; refine ⟨_, rfl, ?_⟩; have n0_ := Aside0.mk (Kd.R_lower ho0 (below_size (by repeat (first | (with_reducible first | exact HB.out | apply below_alloc | apply pw_below_drewN | apply below_drew1) | exact HB.out)))); have n1_ := Aside0.mk (below_step (by repeat (first | (with_reducible first | exact HB.out | apply below_alloc | apply pw_below_drewN | apply below_drew1) | exact HB.out)) hb); clear HB; have HO285 := n0_; have HB := n1_; clear n0_ n1_; (try clear hb); (try clear hb2); (try clear hk); (try clear hi); (try clear ho0)) | ((with_reducible refine gate_callee (f := 16) rfl ?_); refine goesL_ (some 14) rfl rfl Tryd.func16 (by kernel_rfl) rfl #[.slice A0 l0.length c0] rfl (by (try simp only [List.map_toArray, List.map_cons, List.map_nil]); first | done | rfl | (simp only [List.length_drop, List.length_take]; rfl)) ?_; (with_reducible refine (foretelllaw_ops.calls _ _ l0 t286 _ ?side1 ?side2 A4.out).mono ?_); (case side1 => repeat (first | exact (Kd.C_below HR0.out HB.out) | (with_reducible refine Kd.C_alloc ?_ _) | (with_reducible refine Kd.C_drewN ?_ _) | (with_reducible refine Kd.C_drew ?_))); (case side2 => exact HC0.out); rintro e w11 ⟨v287, rfl, ho0, hb⟩; refine ⟨_, rfl, ?_⟩; have n0_ := Aside0.mk (Kd.R_below (by (with_reducible repeat (first | apply Kd.R_alloc | apply Kd.R_drewN | apply Kd.R_drew)); exact HO285.out) hb); have n1_ := Aside0.mk (Kd.R_lower ho0 (below_size (by repeat (first | (with_reducible first | exact HB.out | apply below_alloc | apply pw_below_drewN | apply below_drew1) | exact HB.out)))); have n2_ := Aside0.mk (below_step (by repeat (first | (with_reducible first | exact HB.out | apply below_alloc | apply pw_below_drewN | apply below_drew1) | exact HB.out)) hb); clear HO285; clear HB; have HO285 := n0_; have HO288 := n1_; have HB := n2_; clear n0_ n1_ n2_; (try clear hb); (try clear hb2); (try clear hk); (try clear hi); (try clear ho0); obtain ⟨Ao12, co12, eo12⟩ := Kd.R_slice HO288.out; subst eo12; obtain ⟨Ao13, co13, eo13⟩ := Kd.R_slice HO285.out; subst eo13) | ((with_reducible refine gate_callee (f := 41) rfl ?_); refine goesL_ (some 16) rfl rfl Tryd.func41 (by kernel_rfl) rfl #[.slice Ao12 t286.length co12, .slice Ao13 t283.length co13] rfl (by (try simp only [List.map_toArray, List.map_cons, List.map_nil]); first | done | rfl | (simp only [List.length_drop, List.length_take]; rfl)) ?_; (with_reducible refine (expr_Eval.calls _ _ t286 _ _ t283 t289 t290 _ ?side1 ?side2 ?side3 ?side4 ?side5 A5.out).mono ?_); (case side1 => repeat (first | exact (Kd.R_reads' HO288.out).2.2 | (with_reducible refine Kd.C_alloc ?_ _) | (with_reducible refine Kd.C_drewN ?_ _) | (with_reducible refine Kd.C_drew ?_))); (case side2 => exact (Kd.R_reads' HO288.out).2.1); (case side3 => repeat (first | exact (Kd.R_reads' HO285.out).2.2 | (with_reducible refine Kd.C_alloc ?_ _) | (with_reducible refine Kd.C_drewN ?_ _) | (with_reducible refine Kd.C_drew ?_))); (case side4 => exact (Kd.R_reads' HO285.out).2.1); (case side5 => first | (refine LaidG.below HLd.out ?_; repeat (first | (with_reducible exact HB.out) | (with_reducible exact Below.refl _ _) | apply below_alloc | apply pw_below_drewN | apply below_drew1); done) | exact LaidG.below HLd.out (by repeat (first | (with_reducible first | exact HB.out | apply below_alloc | apply pw_below_drewN | apply below_drew1) | exact HB.out))); rintro e w14 ⟨rfl, hb⟩; refine ⟨_, rfl, ?_⟩; have n0_ := Aside0.mk (Kd.R_below (by (with_reducible repeat (first | apply Kd.R_alloc | apply Kd.R_drewN | apply Kd.R_drew)); exact HO285.out) hb); have n1_ := Aside0.mk (Kd.R_below (by (with_reducible repeat (first | apply Kd.R_alloc | apply Kd.R_drewN | apply Kd.R_drew)); exact HO288.out) hb); have n2_ := Aside0.mk (below_step (by repeat (first | (with_reducible first | exact HB.out | apply below_alloc | apply pw_below_drewN | apply below_drew1) | exact HB.out)) hb); clear HO285; clear HO288; clear HB; have HO285 := n0_; have HO288 := n1_; have HB := n2_; clear n0_ n1_ n2_; (try clear hb); (try clear hb2); (try clear hk); (try clear hi)) | ((with_reducible refine gate_callee (f := 42) rfl ?_); refine goesL_ (some 22) rfl rfl Tryd.func42 (by kernel_rfl) rfl #[.slice A0 l0.length c0, .slice A1 l1.length c1] rfl (by (try simp only [List.map_toArray, List.map_cons, List.map_nil]); first | done | rfl | (simp only [List.length_drop, List.length_take]; rfl)) ?_; (with_reducible refine (foretellref_Evaluated.calls k _ _ l0 _ _ l1 t291 t292 _ ?side1 ?side2 ?side3 ?side4 A6.out).mono ?_); (case side1 => repeat (first | exact (Kd.C_below HR0.out HB.out) | (with_reducible refine Kd.C_alloc ?_ _) | (with_reducible refine Kd.C_drewN ?_ _) | (with_reducible refine Kd.C_drew ?_))); (case side2 => exact HC0.out); (case side3 => repeat (first | exact (Kd.C_below HR1.out HB.out) | (with_reducible refine Kd.C_alloc ?_ _) | (with_reducible refine Kd.C_drewN ?_ _) | (with_reducible refine Kd.C_drew ?_))); (case side4 => exact HC1.out); rintro e w15 ⟨rfl, hb⟩; refine ⟨_, rfl, ?_⟩; have n0_ := Aside0.mk (Kd.R_below (by (with_reducible repeat (first | apply Kd.R_alloc | apply Kd.R_drewN | apply Kd.R_drew)); exact HO285.out) hb); have n1_ := Aside0.mk (Kd.R_below (by (with_reducible repeat (first | apply Kd.R_alloc | apply Kd.R_drewN | apply Kd.R_drew)); exact HO288.out) hb); have n2_ := Aside0.mk (below_step (by repeat (first | (with_reducible first | exact HB.out | apply below_alloc | apply pw_below_drewN | apply below_drew1) | exact HB.out)) hb); clear HO285; clear HO288; clear HB; have HO285 := n0_; have HO288 := n1_; have HB := n2_; clear n0_ n1_ n2_; (try clear hb); (try clear hb2); (try clear hk); (try clear hi)) | (go_at_call 19; (with_reducible refine (foretelllaw_sameInts.calls k _ _ t283 _ _ l1 t293 _ ?side1 ?side2 ?side3 ?side4 A9.out).mono ?_); (case side1 => repeat (first | exact (Kd.R_reads' HO285.out).2.2 | (with_reducible refine Kd.C_alloc ?_ _) | (with_reducible refine Kd.C_drewN ?_ _) | (with_reducible refine Kd.C_drew ?_))); (case side2 => exact (Kd.R_reads' HO285.out).2.1); (case side3 => repeat (first | exact (Kd.C_below HR1.out HB.out) | (with_reducible refine Kd.C_alloc ?_ _) | (with_reducible refine Kd.C_drewN ?_ _) | (with_reducible refine Kd.C_drew ?_))); (case side4 => exact HC1.out); rintro e w' ⟨rfl, ⟨nd, rfl⟩⟩))
      go_ret
      exact ⟨by first | rfl | (simp [errW_none, errW_some] <;> rfl) | (simp [*, errW_none, errW_some] <;> rfl), by repeat (first | (with_reducible first | exact HB.out | apply below_alloc | apply pw_below_drewN | apply below_drew1) | exact HB.out)⟩
    · rw [if_neg c8] at H
      have c8b0 : (t290 == t292) = false := beq_eq_false_iff_ne.mpr c8
      have c8b1 : (t290 != t292) = true := bne_iff_ne.mpr c8
      obtain rfl := Option.some.inj H
      go_enter Tryd.func13, Tryd.ntmps13
      go_wp2_with (first | ((with_reducible refine gate_callee (f := 40) rfl ?_); refine goesL_ (some 11) rfl rfl Tryd.func40 (by kernel_rfl) rfl #[.slice A1 l1.length c1] rfl (by (try simp only [List.map_toArray, List.map_cons, List.map_nil]); first | done | rfl | (simp only [List.length_drop, List.length_take]; rfl)) ?_; (with_reducible refine (foretelllaw_ints.calls _ _ l1 t283 _ ?side1 ?side2 A3.out).mono ?_); (case side1 => repeat (first | exact HR1.out | (with_reducible refine Kd.C_alloc ?_ _) | (with_reducible refine Kd.C_drewN ?_ _) | (with_reducible refine Kd.C_drew ?_))); (case side2 => exact HC1.out); rintro e w16 ⟨v284, rfl, ho0, hb⟩; refine ⟨_, rfl, ?_⟩; have n0_ := Aside0.mk (Kd.R_lower ho0 (below_size (by repeat (first | (with_reducible first | exact HB.out | apply below_alloc | apply pw_below_drewN | apply below_drew1) | exact HB.out)))); have n1_ := Aside0.mk (below_step (by repeat (first | (with_reducible first | exact HB.out | apply below_alloc | apply pw_below_drewN | apply below_drew1) | exact HB.out)) hb); clear HB; have HO285 := n0_; have HB := n1_; clear n0_ n1_; (try clear hb); (try clear hb2); (try clear hk); (try clear hi); (try clear ho0)) | ((with_reducible refine gate_callee (f := 16) rfl ?_); refine goesL_ (some 14) rfl rfl Tryd.func16 (by kernel_rfl) rfl #[.slice A0 l0.length c0] rfl (by (try simp only [List.map_toArray, List.map_cons, List.map_nil]); first | done | rfl | (simp only [List.length_drop, List.length_take]; rfl)) ?_; (with_reducible refine (foretelllaw_ops.calls _ _ l0 t286 _ ?side1 ?side2 A4.out).mono ?_); (case side1 => repeat (first | exact (Kd.C_below HR0.out HB.out) | (with_reducible refine Kd.C_alloc ?_ _) | (with_reducible refine Kd.C_drewN ?_ _) | (with_reducible refine Kd.C_drew ?_))); (case side2 => exact HC0.out); rintro e w17 ⟨v287, rfl, ho0, hb⟩; refine ⟨_, rfl, ?_⟩; have n0_ := Aside0.mk (Kd.R_below (by (with_reducible repeat (first | apply Kd.R_alloc | apply Kd.R_drewN | apply Kd.R_drew)); exact HO285.out) hb); have n1_ := Aside0.mk (Kd.R_lower ho0 (below_size (by repeat (first | (with_reducible first | exact HB.out | apply below_alloc | apply pw_below_drewN | apply below_drew1) | exact HB.out)))); have n2_ := Aside0.mk (below_step (by repeat (first | (with_reducible first | exact HB.out | apply below_alloc | apply pw_below_drewN | apply below_drew1) | exact HB.out)) hb); clear HO285; clear HB; have HO285 := n0_; have HO288 := n1_; have HB := n2_; clear n0_ n1_ n2_; (try clear hb); (try clear hb2); (try clear hk); (try clear hi); (try clear ho0); obtain ⟨Ao18, co18, eo18⟩ := Kd.R_slice HO288.out; subst eo18; obtain ⟨Ao19, co19, eo19⟩ := Kd.R_slice HO285.out; subst eo19) | ((with_reducible refine gate_callee (f := 41) rfl ?_); refine goesL_ (some 16) rfl rfl Tryd.func41 (by kernel_rfl) rfl #[.slice Ao18 t286.length co18, .slice Ao19 t283.length co19] rfl (by (try simp only [List.map_toArray, List.map_cons, List.map_nil]); first | done | rfl | (simp only [List.length_drop, List.length_take]; rfl)) ?_; (with_reducible refine (expr_Eval.calls _ _ t286 _ _ t283 t289 t290 _ ?side1 ?side2 ?side3 ?side4 ?side5 A5.out).mono ?_); (case side1 => repeat (first | exact (Kd.R_reads' HO288.out).2.2 | (with_reducible refine Kd.C_alloc ?_ _) | (with_reducible refine Kd.C_drewN ?_ _) | (with_reducible refine Kd.C_drew ?_))); (case side2 => exact (Kd.R_reads' HO288.out).2.1); (case side3 => repeat (first | exact (Kd.R_reads' HO285.out).2.2 | (with_reducible refine Kd.C_alloc ?_ _) | (with_reducible refine Kd.C_drewN ?_ _) | (with_reducible refine Kd.C_drew ?_))); (case side4 => exact (Kd.R_reads' HO285.out).2.1); (case side5 => first | (refine LaidG.below HLd.out ?_; repeat (first | (with_reducible exact HB.out) | (with_reducible exact Below.refl _ _) | apply below_alloc | apply pw_below_drewN | apply below_drew1); done) | exact LaidG.below HLd.out (by repeat (first | (with_reducible first | exact HB.out | apply below_alloc | apply pw_below_drewN | apply below_drew1) | exact HB.out))); rintro e w20 ⟨rfl, hb⟩; refine ⟨_, rfl, ?_⟩; have n0_ := Aside0.mk (Kd.R_below (by (with_reducible repeat (first | apply Kd.R_alloc | apply Kd.R_drewN | apply Kd.R_drew)); exact HO285.out) hb); have n1_ := Aside0.mk (Kd.R_below (by (with_reducible repeat (first | apply Kd.R_alloc | apply Kd.R_drewN | apply Kd.R_drew)); exact HO288.out) hb); have n2_ := Aside0.mk (below_step (by repeat (first | (with_reducible first | exact HB.out | apply below_alloc | apply pw_below_drewN | apply below_drew1) | exact HB.out)) hb); clear HO285; clear HO288; clear HB; have HO285 := n0_; have HO288 := n1_; have HB := n2_; clear n0_ n1_ n2_; (try clear hb); (try clear hb2); (try clear hk); (try clear hi)) | ((with_reducible refine gate_callee (f := 42) rfl ?_); refine goesL_ (some 22) rfl rfl Tryd.func42 (by kernel_rfl) rfl #[.slice A0 l0.length c0, .slice A1 l1.length c1] rfl (by (try simp only [List.map_toArray, List.map_cons, List.map_nil]); first | done | rfl | (simp only [List.length_drop, List.length_take]; rfl)) ?_; (with_reducible refine (foretellref_Evaluated.calls k _ _ l0 _ _ l1 t291 t292 _ ?side1 ?side2 ?side3 ?side4 A6.out).mono ?_); (case side1 => repeat (first | exact (Kd.C_below HR0.out HB.out) | (with_reducible refine Kd.C_alloc ?_ _) | (with_reducible refine Kd.C_drewN ?_ _) | (with_reducible refine Kd.C_drew ?_))); (case side2 => exact HC0.out); (case side3 => repeat (first | exact (Kd.C_below HR1.out HB.out) | (with_reducible refine Kd.C_alloc ?_ _) | (with_reducible refine Kd.C_drewN ?_ _) | (with_reducible refine Kd.C_drew ?_))); (case side4 => exact HC1.out); rintro e w21 ⟨rfl, hb⟩; refine ⟨_, rfl, ?_⟩; have n0_ := Aside0.mk (Kd.R_below (by (with_reducible repeat (first | apply Kd.R_alloc | apply Kd.R_drewN | apply Kd.R_drew)); exact HO285.out) hb); have n1_ := Aside0.mk (Kd.R_below (by (with_reducible repeat (first | apply Kd.R_alloc | apply Kd.R_drewN | apply Kd.R_drew)); exact HO288.out) hb); have n2_ := Aside0.mk (below_step (by repeat (first | (with_reducible first | exact HB.out | apply below_alloc | apply pw_below_drewN | apply below_drew1) | exact HB.out)) hb); clear HO285; clear HO288; clear HB; have HO285 := n0_; have HO288 := n1_; have HB := n2_; clear n0_ n1_ n2_; (try clear hb); (try clear hb2); (try clear hk); (try clear hi)))
      go_ret
      exact ⟨by first | rfl | (simp [errW_none, errW_some] <;> rfl) | (simp [*, errW_none, errW_some] <;> rfl), by repeat (first | (with_reducible first | exact HB.out | apply below_alloc | apply pw_below_drewN | apply below_drew1) | exact HB.out)⟩
  · rw [if_neg c7] at H
    have c7b0 : (t289 == t291) = false := beq_eq_false_iff_ne.mpr c7
    have c7b1 : (t289 != t291) = true := bne_iff_ne.mpr c7
    obtain rfl := Option.some.inj H
    go_enter Tryd.func13, Tryd.ntmps13
    go_wp2_with (first | ((with_reducible refine gate_callee (f := 40) rfl ?_); refine goesL_ (some 11) rfl rfl Tryd.func40 (by kernel_rfl) rfl #[.slice A1 l1.length c1] rfl (by (try simp only [List.map_toArray, List.map_cons, List.map_nil]); first | done | rfl | (simp only [List.length_drop, List.length_take]; rfl)) ?_; (with_reducible refine (foretelllaw_ints.calls _ _ l1 t283 _ ?side1 ?side2 A3.out).mono ?_); (case side1 => repeat (first | exact HR1.out | (with_reducible refine Kd.C_alloc ?_ _) | (with_reducible refine Kd.C_drewN ?_ _) | (with_reducible refine Kd.C_drew ?_))); (case side2 => exact HC1.out); rintro e w22 ⟨v284, rfl, ho0, hb⟩; refine ⟨_, rfl, ?_⟩; have n0_ := Aside0.mk (Kd.R_lower ho0 (below_size (by repeat (first | (with_reducible first | exact HB.out | apply below_alloc | apply pw_below_drewN | apply below_drew1) | exact HB.out)))); have n1_ := Aside0.mk (below_step (by repeat (first | (with_reducible first | exact HB.out | apply below_alloc | apply pw_below_drewN | apply below_drew1) | exact HB.out)) hb); clear HB; have HO285 := n0_; have HB := n1_; clear n0_ n1_; (try clear hb); (try clear hb2); (try clear hk); (try clear hi); (try clear ho0)) | ((with_reducible refine gate_callee (f := 16) rfl ?_); refine goesL_ (some 14) rfl rfl Tryd.func16 (by kernel_rfl) rfl #[.slice A0 l0.length c0] rfl (by (try simp only [List.map_toArray, List.map_cons, List.map_nil]); first | done | rfl | (simp only [List.length_drop, List.length_take]; rfl)) ?_; (with_reducible refine (foretelllaw_ops.calls _ _ l0 t286 _ ?side1 ?side2 A4.out).mono ?_); (case side1 => repeat (first | exact (Kd.C_below HR0.out HB.out) | (with_reducible refine Kd.C_alloc ?_ _) | (with_reducible refine Kd.C_drewN ?_ _) | (with_reducible refine Kd.C_drew ?_))); (case side2 => exact HC0.out); rintro e w23 ⟨v287, rfl, ho0, hb⟩; refine ⟨_, rfl, ?_⟩; have n0_ := Aside0.mk (Kd.R_below (by (with_reducible repeat (first | apply Kd.R_alloc | apply Kd.R_drewN | apply Kd.R_drew)); exact HO285.out) hb); have n1_ := Aside0.mk (Kd.R_lower ho0 (below_size (by repeat (first | (with_reducible first | exact HB.out | apply below_alloc | apply pw_below_drewN | apply below_drew1) | exact HB.out)))); have n2_ := Aside0.mk (below_step (by repeat (first | (with_reducible first | exact HB.out | apply below_alloc | apply pw_below_drewN | apply below_drew1) | exact HB.out)) hb); clear HO285; clear HB; have HO285 := n0_; have HO288 := n1_; have HB := n2_; clear n0_ n1_ n2_; (try clear hb); (try clear hb2); (try clear hk); (try clear hi); (try clear ho0); obtain ⟨Ao24, co24, eo24⟩ := Kd.R_slice HO288.out; subst eo24; obtain ⟨Ao25, co25, eo25⟩ := Kd.R_slice HO285.out; subst eo25) | ((with_reducible refine gate_callee (f := 41) rfl ?_); refine goesL_ (some 16) rfl rfl Tryd.func41 (by kernel_rfl) rfl #[.slice Ao24 t286.length co24, .slice Ao25 t283.length co25] rfl (by (try simp only [List.map_toArray, List.map_cons, List.map_nil]); first | done | rfl | (simp only [List.length_drop, List.length_take]; rfl)) ?_; (with_reducible refine (expr_Eval.calls _ _ t286 _ _ t283 t289 t290 _ ?side1 ?side2 ?side3 ?side4 ?side5 A5.out).mono ?_); (case side1 => repeat (first | exact (Kd.R_reads' HO288.out).2.2 | (with_reducible refine Kd.C_alloc ?_ _) | (with_reducible refine Kd.C_drewN ?_ _) | (with_reducible refine Kd.C_drew ?_))); (case side2 => exact (Kd.R_reads' HO288.out).2.1); (case side3 => repeat (first | exact (Kd.R_reads' HO285.out).2.2 | (with_reducible refine Kd.C_alloc ?_ _) | (with_reducible refine Kd.C_drewN ?_ _) | (with_reducible refine Kd.C_drew ?_))); (case side4 => exact (Kd.R_reads' HO285.out).2.1); (case side5 => first | (refine LaidG.below HLd.out ?_; repeat (first | (with_reducible exact HB.out) | (with_reducible exact Below.refl _ _) | apply below_alloc | apply pw_below_drewN | apply below_drew1); done) | exact LaidG.below HLd.out (by repeat (first | (with_reducible first | exact HB.out | apply below_alloc | apply pw_below_drewN | apply below_drew1) | exact HB.out))); rintro e w26 ⟨rfl, hb⟩; refine ⟨_, rfl, ?_⟩; have n0_ := Aside0.mk (Kd.R_below (by (with_reducible repeat (first | apply Kd.R_alloc | apply Kd.R_drewN | apply Kd.R_drew)); exact HO285.out) hb); have n1_ := Aside0.mk (Kd.R_below (by (with_reducible repeat (first | apply Kd.R_alloc | apply Kd.R_drewN | apply Kd.R_drew)); exact HO288.out) hb); have n2_ := Aside0.mk (below_step (by repeat (first | (with_reducible first | exact HB.out | apply below_alloc | apply pw_below_drewN | apply below_drew1) | exact HB.out)) hb); clear HO285; clear HO288; clear HB; have HO285 := n0_; have HO288 := n1_; have HB := n2_; clear n0_ n1_ n2_; (try clear hb); (try clear hb2); (try clear hk); (try clear hi)) | ((with_reducible refine gate_callee (f := 42) rfl ?_); refine goesL_ (some 22) rfl rfl Tryd.func42 (by kernel_rfl) rfl #[.slice A0 l0.length c0, .slice A1 l1.length c1] rfl (by (try simp only [List.map_toArray, List.map_cons, List.map_nil]); first | done | rfl | (simp only [List.length_drop, List.length_take]; rfl)) ?_; (with_reducible refine (foretellref_Evaluated.calls k _ _ l0 _ _ l1 t291 t292 _ ?side1 ?side2 ?side3 ?side4 A6.out).mono ?_); (case side1 => repeat (first | exact (Kd.C_below HR0.out HB.out) | (with_reducible refine Kd.C_alloc ?_ _) | (with_reducible refine Kd.C_drewN ?_ _) | (with_reducible refine Kd.C_drew ?_))); (case side2 => exact HC0.out); (case side3 => repeat (first | exact (Kd.C_below HR1.out HB.out) | (with_reducible refine Kd.C_alloc ?_ _) | (with_reducible refine Kd.C_drewN ?_ _) | (with_reducible refine Kd.C_drew ?_))); (case side4 => exact HC1.out); rintro e w27 ⟨rfl, hb⟩; refine ⟨_, rfl, ?_⟩; have n0_ := Aside0.mk (Kd.R_below (by (with_reducible repeat (first | apply Kd.R_alloc | apply Kd.R_drewN | apply Kd.R_drew)); exact HO285.out) hb); have n1_ := Aside0.mk (Kd.R_below (by (with_reducible repeat (first | apply Kd.R_alloc | apply Kd.R_drewN | apply Kd.R_drew)); exact HO288.out) hb); have n2_ := Aside0.mk (below_step (by repeat (first | (with_reducible first | exact HB.out | apply below_alloc | apply pw_below_drewN | apply below_drew1) | exact HB.out)) hb); clear HO285; clear HO288; clear HB; have HO285 := n0_; have HO288 := n1_; have HB := n2_; clear n0_ n1_ n2_; (try clear hb); (try clear hb2); (try clear hk); (try clear hi)))
    go_ret
    exact ⟨by first | rfl | (simp [errW_none, errW_some] <;> rfl) | (simp [*, errW_none, errW_some] <;> rfl), by repeat (first | (with_reducible first | exact HB.out | apply below_alloc | apply pw_below_drewN | apply below_drew1) | exact HB.out)⟩

end Go.Proofs.YtmlkkpkaaicobaaDoor.E
