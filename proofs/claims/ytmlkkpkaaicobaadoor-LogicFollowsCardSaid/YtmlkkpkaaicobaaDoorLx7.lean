-- WRITTEN by this session's own program (wip/pp.py) over the translation. Not trusted: Lean checks it.
import Derived.Test.YtmlkkpkaaicobaaDoorLx0
import Derived.Test.YtmlkkpkaaicobaaDoorLx2
import Derived.Test.YtmlkkpkaaicobaaDoorLx3
import Derived.Test.YtmlkkpkaaicobaaDoorLx4
import Derived.Test.YtmlkkpkaaicobaaDoorLx6
namespace Go.Proofs.YtmlkkpkaaicobaaDoor.L
open Go.RowKit Go.Proofs.YtmlkkpkaaicobaaDoorW.PrintWords Go.Proofs.YtmlkkpkaaicobaaDoorW.PrintLast Go.Proofs.YtmlkkpkaaicobaaDoorW.PrintMore
attribute [local go_sem] max2_int min2_int max_two min_two max_three min_three max_four min_four   -- for this text's walks alone
set_option linter.unusedVariables false
set_option linter.unusedSimpArgs false

/-! ### foretellref_FollowsOn: function 39 -/
mutual
def foretellref_FollowsOn.l0 : Nat → List (S63) → List Bool → List Bool → Int → Option (Bool × Int)
  | 0, _, _, _, _ => none
  | k + 1, x0, x12, x14, x15 => if x15 < (x0.length : Int) then (if 0 ≤ x15 then ((foretellref_looksAhead.f ((rd_T63 x0 x15).f0)).bind fun t302 => (if t302 = true then (if ((rd_T63 x0 x15).f0) = 14 then (if 0 ≤ (wrap64 (x15 + 1)) then (if (wrap64 (x15 + 1)) < (x14.length : Int) then (foretellref_FollowsOn.j1 k x0 x12 x14 x15 ((rd_T63 x0 x15).f0) (rdOf false x14 (wrap64 (x15 + 1)))) else (none)) else (none)) else (foretellref_FollowsOn.j1 k x0 x12 x14 x15 ((rd_T63 x0 x15).f0) false)) else (foretellref_FollowsOn.l0 k x0 x12 x14 (wrap64 (x15 + 1))))) else (none)) else (some (true, 0))
def foretellref_FollowsOn.j1 : Nat → List (S63) → List Bool → List Bool → Int → Int → Bool → Option (Bool × Int)
  | 0, _, _, _, _, _, _ => none
  | k + 1, x0, x12, x14, x15, x16, x17 => if x16 = 17 then (if 0 ≤ (wrap64 (x15 + 1)) then (if (wrap64 (x15 + 1)) < (x12.length : Int) then (if rdOf false x12 (wrap64 (x15 + 1)) = true then (foretellref_FollowsOn.j2 k x0 x12 x14 x15 x16 true) else (if 0 ≤ x15 then (if x15 < (x14.length : Int) then (foretellref_FollowsOn.j2 k x0 x12 x14 x15 x16 (rdOf false x14 x15)) else (none)) else (none))) else (none)) else (none)) else (foretellref_FollowsOn.j2 k x0 x12 x14 x15 x16 x17)
def foretellref_FollowsOn.j2 : Nat → List (S63) → List Bool → List Bool → Int → Int → Bool → Option (Bool × Int)
  | 0, _, _, _, _, _, _ => none
  | k + 1, x0, x12, x14, x15, x16, x17 => if x16 = 18 then (if 0 ≤ (wrap64 (x15 + 1)) then (if (wrap64 (x15 + 1)) < (x12.length : Int) then (if rdOf false x12 (wrap64 (x15 + 1)) = true then (if 0 ≤ x15 then (if x15 < (x14.length : Int) then (foretellref_FollowsOn.j3 k x0 x12 x14 x15 x16 (rdOf false x14 x15)) else (none)) else (none)) else (foretellref_FollowsOn.j3 k x0 x12 x14 x15 x16 false)) else (none)) else (none)) else (foretellref_FollowsOn.j3 k x0 x12 x14 x15 x16 x17)
def foretellref_FollowsOn.j3 : Nat → List (S63) → List Bool → List Bool → Int → Int → Bool → Option (Bool × Int)
  | 0, _, _, _, _, _, _ => none
  | k + 1, x0, x12, x14, x15, x16, x17 => if x16 = 15 then ((foretellref_secondAt.f k x0 x15).bind fun t308 => (if 0 ≤ t308 then (if t308 < (x12.length : Int) then (if rdOf false x12 t308 = true then (foretellref_FollowsOn.j4 k x0 x12 x14 x15 x16 true) else (if 0 ≤ (wrap64 (x15 + 1)) then (if (wrap64 (x15 + 1)) < (x12.length : Int) then (if rdOf false x12 (wrap64 (x15 + 1)) = true then (if 0 ≤ x15 then (if x15 < (x14.length : Int) then (foretellref_FollowsOn.j4 k x0 x12 x14 x15 x16 (rdOf false x14 x15)) else (none)) else (none)) else (foretellref_FollowsOn.j4 k x0 x12 x14 x15 x16 false)) else (none)) else (none))) else (none)) else (none))) else (foretellref_FollowsOn.j4 k x0 x12 x14 x15 x16 x17)
def foretellref_FollowsOn.j4 : Nat → List (S63) → List Bool → List Bool → Int → Int → Bool → Option (Bool × Int)
  | 0, _, _, _, _, _, _ => none
  | k + 1, x0, x12, x14, x15, x16, x17 => if x16 = 16 then ((foretellref_secondAt.f k x0 x15).bind fun t312 => (if 0 ≤ t312 then (if t312 < (x12.length : Int) then (if rdOf false x12 t312 = true then (if 0 ≤ (wrap64 (x15 + 1)) then (if (wrap64 (x15 + 1)) < (x12.length : Int) then (if rdOf false x12 (wrap64 (x15 + 1)) = true then (if 0 ≤ x15 then (if x15 < (x12.length : Int) then (if ((rdOf false x12 x15) != true) = true then (some (false, 0)) else (foretellref_FollowsOn.l0 k x0 x12 x14 (wrap64 (x15 + 1)))) else (none)) else (none)) else (if 0 ≤ x15 then (if x15 < (x14.length : Int) then (if x15 < (x12.length : Int) then (if ((rdOf false x12 x15) != (rdOf false x14 x15)) = true then (some (false, 0)) else (foretellref_FollowsOn.l0 k x0 x12 x14 (wrap64 (x15 + 1)))) else (none)) else (none)) else (none))) else (none)) else (none)) else (if 0 ≤ x15 then (if x15 < (x12.length : Int) then (if ((rdOf false x12 x15) != false) = true then (some (false, 0)) else (foretellref_FollowsOn.l0 k x0 x12 x14 (wrap64 (x15 + 1)))) else (none)) else (none))) else (none)) else (none))) else (if 0 ≤ x15 then (if x15 < (x12.length : Int) then (if ((rdOf false x12 x15) != x17) = true then (some (false, 0)) else (foretellref_FollowsOn.l0 k x0 x12 x14 (wrap64 (x15 + 1)))) else (none)) else (none))
end
def foretellref_FollowsOn.f (k : Nat) (l0 : List (S63)) (l1 : List Bool) (a2 : Int) (l3 : List Bool) (a4 : Int) : Option (Bool × Int) := if (l1.length : Int) = (l3.length : Int) then ((foretellref_TruthsOf.f k l0 l1 a2).bind fun bt293 => (if bt293.2 = 0 then ((foretellref_TruthsOf.f k l0 l3 a4).bind fun bt297 => (if bt297.2 = 0 then (foretellref_FollowsOn.l0 k l0 bt293.1 bt297.1 0) else (some (false, bt297.2)))) else (some (false, bt293.2)))) else (some (false, 1))
theorem foretellref_FollowsOn.mono_l : ∀ k, (∀ y0 y1 y2 y3, LeO (foretellref_FollowsOn.l0 k y0 y1 y2 y3) (foretellref_FollowsOn.l0 (k + 1) y0 y1 y2 y3)) ∧ (∀ y0 y1 y2 y3 y4 y5, LeO (foretellref_FollowsOn.j1 k y0 y1 y2 y3 y4 y5) (foretellref_FollowsOn.j1 (k + 1) y0 y1 y2 y3 y4 y5)) ∧ (∀ y0 y1 y2 y3 y4 y5, LeO (foretellref_FollowsOn.j2 k y0 y1 y2 y3 y4 y5) (foretellref_FollowsOn.j2 (k + 1) y0 y1 y2 y3 y4 y5)) ∧ (∀ y0 y1 y2 y3 y4 y5, LeO (foretellref_FollowsOn.j3 k y0 y1 y2 y3 y4 y5) (foretellref_FollowsOn.j3 (k + 1) y0 y1 y2 y3 y4 y5)) ∧ (∀ y0 y1 y2 y3 y4 y5, LeO (foretellref_FollowsOn.j4 k y0 y1 y2 y3 y4 y5) (foretellref_FollowsOn.j4 (k + 1) y0 y1 y2 y3 y4 y5))
  | 0 => ⟨fun _ _ _ _ r h => by simp [foretellref_FollowsOn.l0] at h, fun _ _ _ _ _ _ r h => by simp [foretellref_FollowsOn.j1] at h, fun _ _ _ _ _ _ r h => by simp [foretellref_FollowsOn.j2] at h, fun _ _ _ _ _ _ r h => by simp [foretellref_FollowsOn.j3] at h, fun _ _ _ _ _ _ r h => by simp [foretellref_FollowsOn.j4] at h⟩
  | k + 1 => by
    obtain ⟨ih0, ih1, ih2, ih3, ih4⟩ := foretellref_FollowsOn.mono_l k
    refine ⟨?_, ?_, ?_, ?_, ?_⟩
    · intro y0 y1 y2 y3
      unfold foretellref_FollowsOn.l0
      repeat' first
      | (with_reducible exact ih0 _ _ _ _)
      | (with_reducible exact ih1 _ _ _ _ _ _)
      | (with_reducible exact ih2 _ _ _ _ _ _)
      | (with_reducible exact ih3 _ _ _ _ _ _)
      | (with_reducible exact ih4 _ _ _ _ _ _)
      | (with_reducible exact foretellref_TruthsOf.mono _ _ _ _)
      | (with_reducible exact foretellref_secondAt.mono _ _ _)
      | (with_reducible exact LeO.refl _)
      | (with_reducible exact LeO.none _)
      | (with_reducible refine LeO.ite ?_ ?_)
      | (with_reducible refine LeO.bind ?_ (fun _ => ?_))
      | exact ih0 _ _ _ _
      | exact ih1 _ _ _ _ _ _
      | exact ih2 _ _ _ _ _ _
      | exact ih3 _ _ _ _ _ _
      | exact ih4 _ _ _ _ _ _
      | exact foretellref_TruthsOf.mono _ _ _ _
      | exact foretellref_secondAt.mono _ _ _
      | exact LeO.none _
      | refine LeO.ite ?_ ?_
      | refine LeO.bind ?_ (fun _ => ?_)
    · intro y0 y1 y2 y3 y4 y5
      unfold foretellref_FollowsOn.j1
      repeat' first
      | (with_reducible exact ih0 _ _ _ _)
      | (with_reducible exact ih1 _ _ _ _ _ _)
      | (with_reducible exact ih2 _ _ _ _ _ _)
      | (with_reducible exact ih3 _ _ _ _ _ _)
      | (with_reducible exact ih4 _ _ _ _ _ _)
      | (with_reducible exact foretellref_TruthsOf.mono _ _ _ _)
      | (with_reducible exact foretellref_secondAt.mono _ _ _)
      | (with_reducible exact LeO.refl _)
      | (with_reducible exact LeO.none _)
      | (with_reducible refine LeO.ite ?_ ?_)
      | (with_reducible refine LeO.bind ?_ (fun _ => ?_))
      | exact ih0 _ _ _ _
      | exact ih1 _ _ _ _ _ _
      | exact ih2 _ _ _ _ _ _
      | exact ih3 _ _ _ _ _ _
      | exact ih4 _ _ _ _ _ _
      | exact foretellref_TruthsOf.mono _ _ _ _
      | exact foretellref_secondAt.mono _ _ _
      | exact LeO.none _
      | refine LeO.ite ?_ ?_
      | refine LeO.bind ?_ (fun _ => ?_)
    · intro y0 y1 y2 y3 y4 y5
      unfold foretellref_FollowsOn.j2
      repeat' first
      | (with_reducible exact ih0 _ _ _ _)
      | (with_reducible exact ih1 _ _ _ _ _ _)
      | (with_reducible exact ih2 _ _ _ _ _ _)
      | (with_reducible exact ih3 _ _ _ _ _ _)
      | (with_reducible exact ih4 _ _ _ _ _ _)
      | (with_reducible exact foretellref_TruthsOf.mono _ _ _ _)
      | (with_reducible exact foretellref_secondAt.mono _ _ _)
      | (with_reducible exact LeO.refl _)
      | (with_reducible exact LeO.none _)
      | (with_reducible refine LeO.ite ?_ ?_)
      | (with_reducible refine LeO.bind ?_ (fun _ => ?_))
      | exact ih0 _ _ _ _
      | exact ih1 _ _ _ _ _ _
      | exact ih2 _ _ _ _ _ _
      | exact ih3 _ _ _ _ _ _
      | exact ih4 _ _ _ _ _ _
      | exact foretellref_TruthsOf.mono _ _ _ _
      | exact foretellref_secondAt.mono _ _ _
      | exact LeO.none _
      | refine LeO.ite ?_ ?_
      | refine LeO.bind ?_ (fun _ => ?_)
    · intro y0 y1 y2 y3 y4 y5
      unfold foretellref_FollowsOn.j3
      repeat' first
      | (with_reducible exact ih0 _ _ _ _)
      | (with_reducible exact ih1 _ _ _ _ _ _)
      | (with_reducible exact ih2 _ _ _ _ _ _)
      | (with_reducible exact ih3 _ _ _ _ _ _)
      | (with_reducible exact ih4 _ _ _ _ _ _)
      | (with_reducible exact foretellref_TruthsOf.mono _ _ _ _)
      | (with_reducible exact foretellref_secondAt.mono _ _ _)
      | (with_reducible exact LeO.refl _)
      | (with_reducible exact LeO.none _)
      | (with_reducible refine LeO.ite ?_ ?_)
      | (with_reducible refine LeO.bind ?_ (fun _ => ?_))
      | exact ih0 _ _ _ _
      | exact ih1 _ _ _ _ _ _
      | exact ih2 _ _ _ _ _ _
      | exact ih3 _ _ _ _ _ _
      | exact ih4 _ _ _ _ _ _
      | exact foretellref_TruthsOf.mono _ _ _ _
      | exact foretellref_secondAt.mono _ _ _
      | exact LeO.none _
      | refine LeO.ite ?_ ?_
      | refine LeO.bind ?_ (fun _ => ?_)
    · intro y0 y1 y2 y3 y4 y5
      unfold foretellref_FollowsOn.j4
      repeat' first
      | (with_reducible exact ih0 _ _ _ _)
      | (with_reducible exact ih1 _ _ _ _ _ _)
      | (with_reducible exact ih2 _ _ _ _ _ _)
      | (with_reducible exact ih3 _ _ _ _ _ _)
      | (with_reducible exact ih4 _ _ _ _ _ _)
      | (with_reducible exact foretellref_TruthsOf.mono _ _ _ _)
      | (with_reducible exact foretellref_secondAt.mono _ _ _)
      | (with_reducible exact LeO.refl _)
      | (with_reducible exact LeO.none _)
      | (with_reducible refine LeO.ite ?_ ?_)
      | (with_reducible refine LeO.bind ?_ (fun _ => ?_))
      | exact ih0 _ _ _ _
      | exact ih1 _ _ _ _ _ _
      | exact ih2 _ _ _ _ _ _
      | exact ih3 _ _ _ _ _ _
      | exact ih4 _ _ _ _ _ _
      | exact foretellref_TruthsOf.mono _ _ _ _
      | exact foretellref_secondAt.mono _ _ _
      | exact LeO.none _
      | refine LeO.ite ?_ ?_
      | refine LeO.bind ?_ (fun _ => ?_)
theorem foretellref_FollowsOn.mono : ∀ a0 a1 a2 a3 a4 k, LeO (foretellref_FollowsOn.f k a0 a1 a2 a3 a4) (foretellref_FollowsOn.f (k + 1) a0 a1 a2 a3 a4) := by
  intro a0 a1 a2 a3 a4 k
  obtain ⟨ih0, ih1, ih2, ih3, ih4⟩ := foretellref_FollowsOn.mono_l k
  unfold foretellref_FollowsOn.f
  repeat' first
      | (with_reducible exact ih0 _ _ _ _)
      | (with_reducible exact ih1 _ _ _ _ _ _)
      | (with_reducible exact ih2 _ _ _ _ _ _)
      | (with_reducible exact ih3 _ _ _ _ _ _)
      | (with_reducible exact ih4 _ _ _ _ _ _)
      | (with_reducible exact foretellref_TruthsOf.mono _ _ _ _)
      | (with_reducible exact foretellref_secondAt.mono _ _ _)
      | (with_reducible exact LeO.refl _)
      | (with_reducible exact LeO.none _)
      | (with_reducible refine LeO.ite ?_ ?_)
      | (with_reducible refine LeO.bind ?_ (fun _ => ?_))
      | exact ih0 _ _ _ _
      | exact ih1 _ _ _ _ _ _
      | exact ih2 _ _ _ _ _ _
      | exact ih3 _ _ _ _ _ _
      | exact ih4 _ _ _ _ _ _
      | exact foretellref_TruthsOf.mono _ _ _ _
      | exact foretellref_secondAt.mono _ _ _
      | exact LeO.none _
      | refine LeO.ite ?_ ?_
      | refine LeO.bind ?_ (fun _ => ?_)
set_option maxHeartbeats 8000000 in
set_option maxRecDepth 100000 in
theorem foretellref_FollowsOn.calls (k : Nat) (A0 : Option Addr) (c0 : Nat) (l0 : List (S63)) (A1 : Option Addr) (c1 : Nat) (l1 : List Bool) (a2 : Int) (A3 : Option Addr) (c3 : Nat) (l3 : List Bool) (a4 : Int) (r1 : Bool) (r2 : Int) (w : World) (hr0 : Kd.C k63 w A0 l0.length l0) (hc0 : l0.length ≤ c0) (hr1 : Kd.C Kd.bool w A1 l1.length l1) (hc1 : l1.length ≤ c1) (hr3 : Kd.C Kd.bool w A3 l3.length l3) (hc3 : l3.length ≤ c3) (h : foretellref_FollowsOn.f k l0 l1 a2 l3 a4 = some (r1, r2)) :
    Calls Tryd.prog 39 #[.slice A0 l0.length c0, .slice A1 l1.length c1, .int .i64 a2, .slice A3 l3.length c3, .int .i64 a4] w fun e w' => e = .returned (.tuple #[.bool r1, .int .i64 r2]) ∧ Below w.heap.size w w' := by
  have HR0 := Aside0.mk hr0
  have HC0 := Aside0.mk hc0
  clear hr0 hc0
  have HR1 := Aside0.mk hr1
  have HC1 := Aside0.mk hc1
  clear hr1 hc1
  have HR3 := Aside0.mk hr3
  have HC3 := Aside0.mk hc3
  clear hr3 hc3
  have HB := Aside0.mk (Below.refl w.heap.size w)
  have H : (if (l1.length : Int) = (l3.length : Int) then ((foretellref_TruthsOf.f k l0 l1 a2).bind fun bt293 => (if bt293.2 = 0 then ((foretellref_TruthsOf.f k l0 l3 a4).bind fun bt297 => (if bt297.2 = 0 then (foretellref_FollowsOn.l0 k l0 bt293.1 bt297.1 0) else (some (false, bt297.2)))) else (some (false, bt293.2)))) else (some (false, 1))) = some (r1, r2) := h
  clear h
  by_cases c6 : (l1.length : Int) = (l3.length : Int)
  · rw [if_pos c6] at H
    have c6b0 : ((l1.length : Int) == (l3.length : Int)) = true := beq_iff_eq.mpr c6
    have c6b1 : ((l1.length : Int) != (l3.length : Int)) = false := bne_eq_false_iff_eq.mpr c6
    have c6b2 : (l1.length == l3.length) = true := by first | simpa using c6 | (simp at c6 ⊢; omega)
    clear c6
    replace H := Option.bind_eq_some_iff.mp H
    obtain ⟨⟨t293, t294⟩, A70, H⟩ := H
    replace H : (if t294 = 0 then ((foretellref_TruthsOf.f k l0 l3 a4).bind fun bt297 => (if bt297.2 = 0 then (foretellref_FollowsOn.l0 k l0 t293 bt297.1 0) else (some (false, bt297.2)))) else (some (false, t294))) = some (r1, r2) := H
    have A7 := Aside0.mk A70
    clear A70
    by_cases c8 : t294 = 0
    · rw [if_pos c8] at H
      have c8b0 : (t294 == 0) = true := beq_iff_eq.mpr c8
      have c8b1 : (t294 != 0) = false := bne_eq_false_iff_eq.mpr c8
      clear c8
      replace H := Option.bind_eq_some_iff.mp H
      obtain ⟨⟨t297, t298⟩, A90, H⟩ := H
      replace H : (if t298 = 0 then (foretellref_FollowsOn.l0 k l0 t293 t297 0) else (some (false, t298))) = some (r1, r2) := H
      have A9 := Aside0.mk A90
      clear A90
      by_cases c10 : t298 = 0
      · rw [if_pos c10] at H
        have c10b0 : (t298 == 0) = true := beq_iff_eq.mpr c10
        have c10b1 : (t298 != 0) = false := bne_eq_false_iff_eq.mpr c10
        clear c10
        have H' := Aside0.mk H
        clear H
        go_enter Tryd.func39, Tryd.ntmps39
        go_wp2_with (first | ((with_reducible refine gate_callee (f := 34) rfl ?_); refine goesL_ (some 27) rfl rfl Tryd.func34 (by kernel_rfl) rfl #[.slice A0 l0.length c0, .slice A1 l1.length c1, .int .i64 a2] rfl (by (try simp only [List.map_toArray, List.map_cons, List.map_nil]); first | done | rfl | (simp only [List.length_drop, List.length_take]; rfl)) ?_; (with_reducible refine (foretellref_TruthsOf.calls k _ _ l0 _ _ l1 a2 t293 t294 _ ?side1 ?side2 ?side3 ?side4 A7.out).mono ?_); (case side1 => repeat (first | exact HR0.out | (with_reducible refine Kd.C_alloc ?_ _) | (with_reducible refine Kd.C_drewN ?_ _) | (with_reducible refine Kd.C_drew ?_))); (case side2 => exact HC0.out); (case side3 => repeat (first | exact HR1.out | (with_reducible refine Kd.C_alloc ?_ _) | (with_reducible refine Kd.C_drewN ?_ _) | (with_reducible refine Kd.C_drew ?_))); (case side4 => exact HC1.out); rintro e w11 ⟨v295, rfl, ho0, hb⟩; refine ⟨_, rfl, ?_⟩; have n0_ := Aside0.mk (Kd.R_lower ho0 (below_size (by repeat (first | (with_reducible first | exact HB.out | apply below_alloc | apply pw_below_drewN | apply below_drew1) | exact HB.out)))); have n1_ := Aside0.mk (below_step (by repeat (first | (with_reducible first | exact HB.out | apply below_alloc | apply pw_below_drewN | apply below_drew1) | exact HB.out)) hb); clear HB; have HO296 := n0_; have HB := n1_; clear n0_ n1_; (try clear hb); (try clear hb2); (try clear hk); (try clear hi); (try clear ho0)) | ((with_reducible refine gate_callee (f := 34) rfl ?_); refine goesL_ (some 37) rfl rfl Tryd.func34 (by kernel_rfl) rfl #[.slice A0 l0.length c0, .slice A3 l3.length c3, .int .i64 a4] rfl (by (try simp only [List.map_toArray, List.map_cons, List.map_nil]); first | done | rfl | (simp only [List.length_drop, List.length_take]; rfl)) ?_; (with_reducible refine (foretellref_TruthsOf.calls k _ _ l0 _ _ l3 a4 t297 t298 _ ?side1 ?side2 ?side3 ?side4 A9.out).mono ?_); (case side1 => repeat (first | exact (Kd.C_below HR0.out HB.out) | (with_reducible refine Kd.C_alloc ?_ _) | (with_reducible refine Kd.C_drewN ?_ _) | (with_reducible refine Kd.C_drew ?_))); (case side2 => exact HC0.out); (case side3 => repeat (first | exact (Kd.C_below HR3.out HB.out) | (with_reducible refine Kd.C_alloc ?_ _) | (with_reducible refine Kd.C_drewN ?_ _) | (with_reducible refine Kd.C_drew ?_))); (case side4 => exact HC3.out); rintro e w12 ⟨v299, rfl, ho0, hb⟩; refine ⟨_, rfl, ?_⟩; have n0_ := Aside0.mk (Kd.R_elder' (by (with_reducible repeat (first | apply Kd.R_alloc | apply Kd.R_drewN | apply Kd.R_drew)); exact HO296.out) (Kd.R_base ho0) hb); have n1_ := Aside0.mk (Kd.R_lower (Kd.R_new' ho0 (Kd.R_lt (by (with_reducible repeat (first | apply Kd.R_alloc | apply Kd.R_drewN | apply Kd.R_drew)); exact HO296.out))) (below_size (by repeat (first | (with_reducible first | exact HB.out | apply below_alloc | apply pw_below_drewN | apply below_drew1) | exact HB.out)))); have n2_ := Aside0.mk (below_step (by repeat (first | (with_reducible first | exact HB.out | apply below_alloc | apply pw_below_drewN | apply below_drew1) | exact HB.out)) hb); clear HO296; clear HB; have HO296 := n0_; have HO300 := n1_; have HB := n2_; clear n0_ n1_ n2_; (try clear hb); (try clear hb2); (try clear hk); (try clear hi); (try clear ho0)))
        go_loopg [15] k (fun kq v15 w' => ∃ (x15_1 : Int), v15 = .int .i64 x15_1 ∧ Aside0 (foretellref_FollowsOn.l0 kq l0 t293 t297 x15_1 = some (r1, r2)) ∧ Aside0 (kq ≤ k) ∧ Aside0 (Kd.R Kd.bool 4 w' w.heap.size (fun k_ => some k_ ≠ (v299 : Value).ownBlock) v295 t293) ∧ Aside0 (Kd.R Kd.bool 4 w' w.heap.size (fun k_ => some k_ ≠ (v295 : Value).ownBlock) v299 t297) ∧ Aside0 (Below w.heap.size w w'))
        case atStart => exact ⟨(0), (by first | rfl | (simp; done) | (simp [*]; done)), H', ⟨Nat.le_refl _⟩, ⟨by (with_reducible repeat (first | apply Kd.R_alloc | apply Kd.R_drewN | apply Kd.R_drew)); exact Kd.R_mono HO296.out (fun _ hk => hk.2)⟩, ⟨by (with_reducible repeat (first | apply Kd.R_alloc | apply Kd.R_drewN | apply Kd.R_drew)); exact Kd.R_mono HO300.out (fun _ hk => hk.2)⟩, ⟨by repeat (first | (with_reducible first | exact HB.out | apply below_alloc | apply pw_below_drewN | apply below_drew1) | exact HB.out)⟩⟩
        case round =>
          clear H'
          try clear c1
          try clear p2
          try clear c3
          try clear c6
          try clear c6b0
          try clear c6b1
          try clear c6b2
          try clear c8
          try clear c8b0
          try clear c8b1
          try clear c10
          try clear c10b0
          try clear c10b1
          obtain ⟨x15_1, rfl, HA, HK1, HO_12, HO_14, HB⟩ := hrel
          cases gk with
          | zero => exact absurd HA.out (by simp [foretellref_FollowsOn.l0])
          | succ k1 =>
            have H := HA.out
            clear HA
            simp only [foretellref_FollowsOn.l0] at H
            by_cases c13 : x15_1 < (l0.length : Int)
            · rw [if_pos c13] at H
              have c13b0 : decide (x15_1 < (l0.length : Int)) = true := decide_eq_true c13
              clear c13
              by_cases c14 : 0 ≤ x15_1
              · rw [if_pos c14] at H
                have c14b0 : decide (0 ≤ x15_1) = true := decide_eq_true c14
                clear c14
                replace H := Option.bind_eq_some_iff.mp H
                obtain ⟨t302, A150, H⟩ := H
                replace H : (if t302 = true then (if ((rd_T63 l0 x15_1).f0) = 14 then (if 0 ≤ (wrap64 (x15_1 + 1)) then (if (wrap64 (x15_1 + 1)) < (t297.length : Int) then (foretellref_FollowsOn.j1 k1 l0 t293 t297 x15_1 ((rd_T63 l0 x15_1).f0) (rdOf false t297 (wrap64 (x15_1 + 1)))) else (none)) else (none)) else (foretellref_FollowsOn.j1 k1 l0 t293 t297 x15_1 ((rd_T63 l0 x15_1).f0) false)) else (foretellref_FollowsOn.l0 k1 l0 t293 t297 (wrap64 (x15_1 + 1)))) = some (r1, r2) := H
                have A15 := Aside0.mk A150
                clear A150
                by_cases c16 : t302 = true
                · subst c16
                  have H1 : (if ((rd_T63 l0 x15_1).f0) = 14 then (if 0 ≤ (wrap64 (x15_1 + 1)) then (if (wrap64 (x15_1 + 1)) < (t297.length : Int) then (foretellref_FollowsOn.j1 k1 l0 t293 t297 x15_1 ((rd_T63 l0 x15_1).f0) (rdOf false t297 (wrap64 (x15_1 + 1)))) else (none)) else (none)) else (foretellref_FollowsOn.j1 k1 l0 t293 t297 x15_1 ((rd_T63 l0 x15_1).f0) false)) = some (r1, r2) := by rw [if_pos rfl] at H; exact H
                  clear H
                  have H := H1
                  clear H1
                  have HC17 := Aside0.mk H
                  clear H
                  have p301 : 0 ≤ (x15_1 : Int) := of_decide_eq_true (by first | (with_reducible assumption) | assumption)
                  have q301 : x15_1 < (l0.length : Int) := of_decide_eq_true (by first | (with_reducible assumption) | assumption)
                  obtain ⟨ad301, e301, hx301_0, hx301_1⟩ := at_T63 HR0.out x15_1 p301 q301
                  cases e301
                  replace hx301_0 := (HB.out.cell (World.block_lt_of_cell? w _ hx301_0)).trans hx301_0
                  replace hx301_1 := (HB.out.cell (World.block_lt_of_cell? w _ hx301_1)).trans hx301_1
                  replace p301 := eq_true p301
                  replace q301 := eq_true q301
                  go_upto_if 58 with (first | ((with_reducible refine gate_callee (f := 50) rfl ?_); refine goesL_ (some 55) rfl rfl Tryd.func50 (by kernel_rfl) rfl #[.int .i64 ((rd_T63 l0 x15_1).f0)] rfl (by (try simp only [List.map_toArray, List.map_cons, List.map_nil]); first | done | rfl | (simp only [List.length_drop, List.length_take]; rfl)) ?_; (with_reducible refine (foretellref_looksAhead.calls ((rd_T63 l0 x15_1).f0) true _ A15.out).mono ?_); rintro e w' ⟨rfl, ⟨nd, rfl⟩⟩; refine ⟨_, rfl, ?_⟩))
                  (try simp only [Act.put, List.setIfInBounds_toArray, List.set_cons_zero, List.set_cons_succ])
                  go_cut [17] (fun v17 wc => ∃ (kq : Nat) (x17_16 : Bool), v17 = .bool x17_16 ∧ Aside0 (foretellref_FollowsOn.j1 kq l0 t293 t297 x15_1 ((rd_T63 l0 x15_1).f0) x17_16 = some (r1, r2)) ∧ Aside0 (kq ≤ k1) ∧ Aside0 (Kd.R Kd.bool 4 wc w.heap.size (fun k_ => some k_ ≠ (v299 : Value).ownBlock) v295 t293) ∧ Aside0 (Kd.R Kd.bool 4 wc w.heap.size (fun k_ => some k_ ≠ (v295 : Value).ownBlock) v299 t297) ∧ Aside0 (Below w.heap.size w wc))
                  case first =>
                    have H := HC17.out
                    clear HC17
                    by_cases c18 : ((rd_T63 l0 x15_1).f0) = 14
                    · rw [if_pos c18] at H
                      have c18b0 : (((rd_T63 l0 x15_1).f0) == 14) = true := beq_iff_eq.mpr c18
                      have c18b1 : (((rd_T63 l0 x15_1).f0) != 14) = false := bne_eq_false_iff_eq.mpr c18
                      clear c18
                      (first | rw [c18b0] | (simp only [i64_w, i32_w]; rw [c18b0]) | skip)
                      obtain ⟨ji19, hji19⟩ : ∃ j_ : Int, (wrap64 (x15_1 + 1)) = j_ := ⟨_, rfl⟩
                      replace H : (if 0 ≤ (ji19) then (if (ji19) < (t297.length : Int) then (foretellref_FollowsOn.j1 k1 l0 t293 t297 x15_1 ((rd_T63 l0 x15_1).f0) (rdOf false t297 (ji19))) else (none)) else (none)) = some (r1, r2) := by first | (rw [hji19] at H; exact H) | (simp only [hji19] at H ⊢; exact H)
                      have hji19w : (IntKind.i64.wrap (x15_1 + 1)) = ji19 := (i64_w _).trans hji19
                      by_cases c20 : 0 ≤ (ji19)
                      · rw [if_pos c20] at H
                        have c20b0 : decide (0 ≤ (ji19)) = true := decide_eq_true c20
                        clear c20
                        by_cases c21 : (ji19) < (t297.length : Int)
                        · rw [if_pos c21] at H
                          have c21b0 : decide ((ji19) < (t297.length : Int)) = true := decide_eq_true c21
                          clear c21
                          have H' := Aside0.mk H
                          clear H
                          obtain ⟨Ao22, co22, eo22⟩ := Kd.R_slice HO_14.out
                          subst eo22
                          have p303 : 0 ≤ ((ji19) : Int) := of_decide_eq_true (by first | (with_reducible assumption) | assumption)
                          have q303 : (ji19) < (t297.length : Int) := of_decide_eq_true (by first | (with_reducible assumption) | assumption)
                          (try (obtain ⟨A_, c_, e_⟩ := Kd.R_slice HO_14.out; subst e_))
                          obtain ⟨ad303, e303, hx303_0⟩ := Kd.at_bool (Kd.R_reads' HO_14.out).2.2 (ji19) p303 q303
                          cases e303
                          replace p303 := eq_true p303
                          replace q303 := eq_true q303
                          go_wp2
                          first | go_meet | ((try subst hji19); go_meet)
                          case rel => exact ⟨_, (rdOf false t297 (ji19)), (by first | rfl | (simp; done) | (simp only [← hji19] <;> (first | rfl | simp)) | (simp [*]; done)), H', ⟨by have := HK1.out; first | omega | exact Nat.le_refl _⟩, ⟨by (with_reducible repeat (first | apply Kd.R_alloc | apply Kd.R_drewN | apply Kd.R_drew)); exact HO_12.out⟩, ⟨by (with_reducible repeat (first | apply Kd.R_alloc | apply Kd.R_drewN | apply Kd.R_drew)); exact HO_14.out⟩, ⟨by repeat (first | (with_reducible first | exact HB.out | apply below_alloc | apply pw_below_drewN | apply below_drew1) | exact HB.out)⟩⟩
                        · rw [if_neg c21] at H
                          exact absurd H (by simp)
                      · rw [if_neg c20] at H
                        exact absurd H (by simp)
                    · rw [if_neg c18] at H
                      have c18b0 : (((rd_T63 l0 x15_1).f0) == 14) = false := beq_eq_false_iff_ne.mpr c18
                      have c18b1 : (((rd_T63 l0 x15_1).f0) != 14) = true := bne_iff_ne.mpr c18
                      (first | rw [c18b0] | (simp only [i64_w, i32_w]; rw [c18b0]) | skip)
                      have H' := Aside0.mk H
                      clear H
                      go_wp2
                      first | go_meet | ((try subst hji19); go_meet)
                      case rel => exact ⟨_, (false), (by first | rfl | (simp; done) | (simp [*]; done)), H', ⟨by have := HK1.out; first | omega | exact Nat.le_refl _⟩, ⟨by (with_reducible repeat (first | apply Kd.R_alloc | apply Kd.R_drewN | apply Kd.R_drew)); exact HO_12.out⟩, ⟨by (with_reducible repeat (first | apply Kd.R_alloc | apply Kd.R_drewN | apply Kd.R_drew)); exact HO_14.out⟩, ⟨by repeat (first | (with_reducible first | exact HB.out | apply below_alloc | apply pw_below_drewN | apply below_drew1) | exact HB.out)⟩⟩
                  case rest =>
                    clear HC17
                    try clear c1
                    try clear c2
                    try clear p2
                    try clear c3
                    try clear p3
                    try clear q3
                    try clear hx3
                    try clear c5
                    try clear c6
                    try clear c6b0
                    try clear c6b1
                    try clear c6b2
                    try clear p6
                    try clear c8
                    try clear c8b0
                    try clear c8b1
                    try clear c10
                    try clear c10b0
                    try clear c10b1
                    try clear c13
                    try clear c13b0
                    try clear c14
                    try clear c14b0
                    try clear c16
                    try clear c18
                    try clear c18b0
                    try clear c18b1
                    try clear c20
                    try clear c20b0
                    try clear c21
                    try clear c21b0
                    try clear hx301_0
                    try clear hx301_1
                    try clear hx303_0
                    try clear p2
                    try clear p301
                    try clear p303
                    try clear q301
                    try clear q303
                    obtain ⟨kq, x17_16, rfl, HA, HJ16, HO_12, HO_14, HB⟩ := hcut
                    cases kq with
                    | zero => exact absurd HA.out (by simp [foretellref_FollowsOn.j1])
                    | succ kj16 =>
                      have H := HA.out
                      clear HA
                      simp only [foretellref_FollowsOn.j1] at H
                      have HC23 := Aside0.mk H
                      clear H
                      go_upto_if 65 with (fail)
                      go_cut [17] (fun v17 wc => ∃ (kq : Nat) (x17_22 : Bool), v17 = .bool x17_22 ∧ Aside0 (foretellref_FollowsOn.j2 kq l0 t293 t297 x15_1 ((rd_T63 l0 x15_1).f0) x17_22 = some (r1, r2)) ∧ Aside0 (kq ≤ kj16) ∧ Aside0 (Kd.R Kd.bool 4 wc w.heap.size (fun k_ => some k_ ≠ (v299 : Value).ownBlock) v295 t293) ∧ Aside0 (Kd.R Kd.bool 4 wc w.heap.size (fun k_ => some k_ ≠ (v295 : Value).ownBlock) v299 t297) ∧ Aside0 (Below w.heap.size w wc))
                      case first =>
                        have H := HC23.out
                        clear HC23
                        by_cases c24 : ((rd_T63 l0 x15_1).f0) = 17
                        · rw [if_pos c24] at H
                          have c24b0 : (((rd_T63 l0 x15_1).f0) == 17) = true := beq_iff_eq.mpr c24
                          have c24b1 : (((rd_T63 l0 x15_1).f0) != 17) = false := bne_eq_false_iff_eq.mpr c24
                          clear c24
                          (first | rw [c24b0] | (simp only [i64_w, i32_w]; rw [c24b0]) | skip)
                          obtain ⟨ji25, hji25⟩ : ∃ j_ : Int, (wrap64 (x15_1 + 1)) = j_ := ⟨_, rfl⟩
                          replace H : (if 0 ≤ (ji25) then (if (ji25) < (t293.length : Int) then (if rdOf false t293 (ji25) = true then (foretellref_FollowsOn.j2 kj16 l0 t293 t297 x15_1 ((rd_T63 l0 x15_1).f0) true) else (if 0 ≤ x15_1 then (if x15_1 < (t297.length : Int) then (foretellref_FollowsOn.j2 kj16 l0 t293 t297 x15_1 ((rd_T63 l0 x15_1).f0) (rdOf false t297 x15_1)) else (none)) else (none))) else (none)) else (none)) = some (r1, r2) := by first | (rw [hji25] at H; exact H) | (simp only [hji25] at H ⊢; exact H)
                          have hji25w : (IntKind.i64.wrap (x15_1 + 1)) = ji25 := (i64_w _).trans hji25
                          by_cases c26 : 0 ≤ (ji25)
                          · rw [if_pos c26] at H
                            have c26b0 : decide (0 ≤ (ji25)) = true := decide_eq_true c26
                            clear c26
                            by_cases c27 : (ji25) < (t293.length : Int)
                            · rw [if_pos c27] at H
                              have c27b0 : decide ((ji25) < (t293.length : Int)) = true := decide_eq_true c27
                              clear c27
                              obtain ⟨bq28, hbq28⟩ : ∃ b_ : Bool, b_ = (rdOf false t293 (ji25)) := ⟨_, rfl⟩
                              replace H : (if bq28 = true then (foretellref_FollowsOn.j2 kj16 l0 t293 t297 x15_1 ((rd_T63 l0 x15_1).f0) true) else (if 0 ≤ x15_1 then (if x15_1 < (t297.length : Int) then (foretellref_FollowsOn.j2 kj16 l0 t293 t297 x15_1 ((rd_T63 l0 x15_1).f0) (rdOf false t297 x15_1)) else (none)) else (none))) = some (r1, r2) := by rw [← hbq28] at H; exact H
                              have Nbq28 := Aside0.mk hbq28
                              clear hbq28
                              by_cases c29 : bq28 = true
                              · subst c29
                                have H1 : (foretellref_FollowsOn.j2 kj16 l0 t293 t297 x15_1 ((rd_T63 l0 x15_1).f0) true) = some (r1, r2) := by rw [if_pos rfl] at H; exact H
                                clear H
                                have H := H1
                                clear H1
                                have H' := Aside0.mk H
                                clear H
                                obtain ⟨Ao30, co30, eo30⟩ := Kd.R_slice HO_12.out
                                subst eo30
                                have p304 : 0 ≤ ((ji25) : Int) := of_decide_eq_true (by first | (with_reducible assumption) | assumption)
                                have q304 : (ji25) < (t293.length : Int) := of_decide_eq_true (by first | (with_reducible assumption) | assumption)
                                (try (obtain ⟨A_, c_, e_⟩ := Kd.R_slice HO_12.out; subst e_))
                                obtain ⟨ad304, e304, hx304_0⟩ := Kd.at_bool (Kd.R_reads' HO_12.out).2.2 (ji25) p304 q304
                                (try rw [← Nbq28.out] at hx304_0)
                                cases e304
                                replace p304 := eq_true p304
                                replace q304 := eq_true q304
                                go_wp2
                                first | go_meet | ((try subst hji19); (try subst hji25); go_meet)
                                case rel => exact ⟨_, (true), (by first | rfl | (simp; done) | (simp [*]; done)), H', ⟨by have := HK1.out; have := HJ16.out; first | omega | exact Nat.le_refl _⟩, ⟨by (with_reducible repeat (first | apply Kd.R_alloc | apply Kd.R_drewN | apply Kd.R_drew)); exact HO_12.out⟩, ⟨by (with_reducible repeat (first | apply Kd.R_alloc | apply Kd.R_drewN | apply Kd.R_drew)); exact HO_14.out⟩, ⟨by repeat (first | (with_reducible first | exact HB.out | apply below_alloc | apply pw_below_drewN | apply below_drew1) | exact HB.out)⟩⟩
                              · replace c29 := Bool.eq_false_iff.mpr c29
                                subst c29
                                have H1 : (if 0 ≤ x15_1 then (if x15_1 < (t297.length : Int) then (foretellref_FollowsOn.j2 kj16 l0 t293 t297 x15_1 ((rd_T63 l0 x15_1).f0) (rdOf false t297 x15_1)) else (none)) else (none)) = some (r1, r2) := by rw [if_neg (show ¬ (false = true) by decide)] at H; exact H
                                clear H
                                have H := H1
                                clear H1
                                by_cases c31 : 0 ≤ x15_1
                                · rw [if_pos c31] at H
                                  have c31b0 : decide (0 ≤ x15_1) = true := decide_eq_true c31
                                  clear c31
                                  by_cases c32 : x15_1 < (t297.length : Int)
                                  · rw [if_pos c32] at H
                                    have c32b0 : decide (x15_1 < (t297.length : Int)) = true := decide_eq_true c32
                                    clear c32
                                    have H' := Aside0.mk H
                                    clear H
                                    obtain ⟨Ao33, co33, eo33⟩ := Kd.R_slice HO_12.out
                                    subst eo33
                                    have p304 : 0 ≤ ((ji25) : Int) := of_decide_eq_true (by first | (with_reducible assumption) | assumption)
                                    have q304 : (ji25) < (t293.length : Int) := of_decide_eq_true (by first | (with_reducible assumption) | assumption)
                                    (try (obtain ⟨A_, c_, e_⟩ := Kd.R_slice HO_12.out; subst e_))
                                    obtain ⟨ad304, e304, hx304_0⟩ := Kd.at_bool (Kd.R_reads' HO_12.out).2.2 (ji25) p304 q304
                                    (try rw [← Nbq28.out] at hx304_0)
                                    cases e304
                                    replace p304 := eq_true p304
                                    replace q304 := eq_true q304
                                    obtain ⟨Ao34, co34, eo34⟩ := Kd.R_slice HO_14.out
                                    subst eo34
                                    have p305 : 0 ≤ (x15_1 : Int) := of_decide_eq_true (by first | (with_reducible assumption) | assumption)
                                    have q305 : x15_1 < (t297.length : Int) := of_decide_eq_true (by first | (with_reducible assumption) | assumption)
                                    (try (obtain ⟨A_, c_, e_⟩ := Kd.R_slice HO_14.out; subst e_))
                                    obtain ⟨ad305, e305, hx305_0⟩ := Kd.at_bool (Kd.R_reads' HO_14.out).2.2 x15_1 p305 q305
                                    (try rw [← Nbq28.out] at hx305_0)
                                    cases e305
                                    replace p305 := eq_true p305
                                    replace q305 := eq_true q305
                                    go_wp2
                                    first | go_meet | ((try subst hji19); (try subst hji25); go_meet)
                                    case rel => exact ⟨_, (rdOf false t297 x15_1), (by first | rfl | (simp; done) | (simp [*]; done)), H', ⟨by have := HK1.out; have := HJ16.out; first | omega | exact Nat.le_refl _⟩, ⟨by (with_reducible repeat (first | apply Kd.R_alloc | apply Kd.R_drewN | apply Kd.R_drew)); exact HO_12.out⟩, ⟨by (with_reducible repeat (first | apply Kd.R_alloc | apply Kd.R_drewN | apply Kd.R_drew)); exact HO_14.out⟩, ⟨by repeat (first | (with_reducible first | exact HB.out | apply below_alloc | apply pw_below_drewN | apply below_drew1) | exact HB.out)⟩⟩
                                  · rw [if_neg c32] at H
                                    exact absurd H (by simp)
                                · rw [if_neg c31] at H
                                  exact absurd H (by simp)
                            · rw [if_neg c27] at H
                              exact absurd H (by simp)
                          · rw [if_neg c26] at H
                            exact absurd H (by simp)
                        · rw [if_neg c24] at H
                          have c24b0 : (((rd_T63 l0 x15_1).f0) == 17) = false := beq_eq_false_iff_ne.mpr c24
                          have c24b1 : (((rd_T63 l0 x15_1).f0) != 17) = true := bne_iff_ne.mpr c24
                          (first | rw [c24b0] | (simp only [i64_w, i32_w]; rw [c24b0]) | skip)
                          have H' := Aside0.mk H
                          clear H
                          go_wp2
                          first | go_meet | ((try subst hji19); (try subst hji25); go_meet)
                          case rel => exact ⟨_, (x17_16), (by first | rfl | (simp; done) | (simp [*]; done)), H', ⟨by have := HK1.out; have := HJ16.out; first | omega | exact Nat.le_refl _⟩, ⟨by (with_reducible repeat (first | apply Kd.R_alloc | apply Kd.R_drewN | apply Kd.R_drew)); exact HO_12.out⟩, ⟨by (with_reducible repeat (first | apply Kd.R_alloc | apply Kd.R_drewN | apply Kd.R_drew)); exact HO_14.out⟩, ⟨by repeat (first | (with_reducible first | exact HB.out | apply below_alloc | apply pw_below_drewN | apply below_drew1) | exact HB.out)⟩⟩
                      case rest =>
                        clear HC23
                        try clear c1
                        try clear c2
                        try clear p2
                        try clear q2
                        try clear c3
                        try clear p3
                        try clear q3
                        try clear hx3
                        try clear c5
                        try clear c6
                        try clear c6b0
                        try clear c6b1
                        try clear c6b2
                        try clear p6
                        try clear c8
                        try clear c8b0
                        try clear c8b1
                        try clear c10
                        try clear c10b0
                        try clear c10b1
                        try clear c13
                        try clear c13b0
                        try clear c14
                        try clear c14b0
                        try clear c16
                        try clear c18
                        try clear c18b0
                        try clear c18b1
                        try clear c20
                        try clear c20b0
                        try clear c21
                        try clear c21b0
                        try clear c24
                        try clear c24b0
                        try clear c24b1
                        try clear c26
                        try clear c26b0
                        try clear c27
                        try clear c27b0
                        try clear q28
                        try clear c29
                        try clear p30
                        try clear q30
                        try clear hx30
                        try clear c31
                        try clear c31b0
                        try clear c32
                        try clear c32b0
                        try clear c34
                        try clear hx301_0
                        try clear hx301_1
                        try clear hx303_0
                        try clear hx304_0
                        try clear hx305_0
                        try clear p2
                        try clear p3
                        try clear p301
                        try clear p303
                        try clear p304
                        try clear p305
                        try clear p6
                        try clear q3
                        try clear q301
                        try clear q303
                        try clear q304
                        try clear q305
                        obtain ⟨kq, x17_22, rfl, HA, HJ22, HO_12, HO_14, HB⟩ := hcut
                        cases kq with
                        | zero => exact absurd HA.out (by simp [foretellref_FollowsOn.j2])
                        | succ kj22 =>
                          have H := HA.out
                          clear HA
                          simp only [foretellref_FollowsOn.j2] at H
                          have HC35 := Aside0.mk H
                          clear H
                          go_upto_if 78 with (fail)
                          go_cut [17] (fun v17 wc => ∃ (kq : Nat) (x17_34 : Bool), v17 = .bool x17_34 ∧ Aside0 (foretellref_FollowsOn.j3 kq l0 t293 t297 x15_1 ((rd_T63 l0 x15_1).f0) x17_34 = some (r1, r2)) ∧ Aside0 (kq ≤ kj22) ∧ Aside0 (Kd.R Kd.bool 4 wc w.heap.size (fun k_ => some k_ ≠ (v299 : Value).ownBlock) v295 t293) ∧ Aside0 (Kd.R Kd.bool 4 wc w.heap.size (fun k_ => some k_ ≠ (v295 : Value).ownBlock) v299 t297) ∧ Aside0 (Below w.heap.size w wc))
                          case first =>
                            have H := HC35.out
                            clear HC35
                            by_cases c36 : ((rd_T63 l0 x15_1).f0) = 18
                            · rw [if_pos c36] at H
                              have c36b0 : (((rd_T63 l0 x15_1).f0) == 18) = true := beq_iff_eq.mpr c36
                              have c36b1 : (((rd_T63 l0 x15_1).f0) != 18) = false := bne_eq_false_iff_eq.mpr c36
                              clear c36
                              (first | rw [c36b0] | (simp only [i64_w, i32_w]; rw [c36b0]) | skip)
                              obtain ⟨ji37, hji37⟩ : ∃ j_ : Int, (wrap64 (x15_1 + 1)) = j_ := ⟨_, rfl⟩
                              replace H : (if 0 ≤ (ji37) then (if (ji37) < (t293.length : Int) then (if rdOf false t293 (ji37) = true then (if 0 ≤ x15_1 then (if x15_1 < (t297.length : Int) then (foretellref_FollowsOn.j3 kj22 l0 t293 t297 x15_1 ((rd_T63 l0 x15_1).f0) (rdOf false t297 x15_1)) else (none)) else (none)) else (foretellref_FollowsOn.j3 kj22 l0 t293 t297 x15_1 ((rd_T63 l0 x15_1).f0) false)) else (none)) else (none)) = some (r1, r2) := by first | (rw [hji37] at H; exact H) | (simp only [hji37] at H ⊢; exact H)
                              have hji37w : (IntKind.i64.wrap (x15_1 + 1)) = ji37 := (i64_w _).trans hji37
                              by_cases c38 : 0 ≤ (ji37)
                              · rw [if_pos c38] at H
                                have c38b0 : decide (0 ≤ (ji37)) = true := decide_eq_true c38
                                clear c38
                                by_cases c39 : (ji37) < (t293.length : Int)
                                · rw [if_pos c39] at H
                                  have c39b0 : decide ((ji37) < (t293.length : Int)) = true := decide_eq_true c39
                                  clear c39
                                  obtain ⟨bq40, hbq40⟩ : ∃ b_ : Bool, b_ = (rdOf false t293 (ji37)) := ⟨_, rfl⟩
                                  replace H : (if bq40 = true then (if 0 ≤ x15_1 then (if x15_1 < (t297.length : Int) then (foretellref_FollowsOn.j3 kj22 l0 t293 t297 x15_1 ((rd_T63 l0 x15_1).f0) (rdOf false t297 x15_1)) else (none)) else (none)) else (foretellref_FollowsOn.j3 kj22 l0 t293 t297 x15_1 ((rd_T63 l0 x15_1).f0) false)) = some (r1, r2) := by rw [← hbq40] at H; exact H
                                  have Nbq40 := Aside0.mk hbq40
                                  clear hbq40
                                  by_cases c41 : bq40 = true
                                  · subst c41
                                    have H1 : (if 0 ≤ x15_1 then (if x15_1 < (t297.length : Int) then (foretellref_FollowsOn.j3 kj22 l0 t293 t297 x15_1 ((rd_T63 l0 x15_1).f0) (rdOf false t297 x15_1)) else (none)) else (none)) = some (r1, r2) := by rw [if_pos rfl] at H; exact H
                                    clear H
                                    have H := H1
                                    clear H1
                                    by_cases c42 : 0 ≤ x15_1
                                    · rw [if_pos c42] at H
                                      have c42b0 : decide (0 ≤ x15_1) = true := decide_eq_true c42
                                      clear c42
                                      by_cases c43 : x15_1 < (t297.length : Int)
                                      · rw [if_pos c43] at H
                                        have c43b0 : decide (x15_1 < (t297.length : Int)) = true := decide_eq_true c43
                                        clear c43
                                        have H' := Aside0.mk H
                                        clear H
                                        obtain ⟨Ao44, co44, eo44⟩ := Kd.R_slice HO_12.out
                                        subst eo44
                                        have p306 : 0 ≤ ((ji37) : Int) := of_decide_eq_true (by first | (with_reducible assumption) | assumption)
                                        have q306 : (ji37) < (t293.length : Int) := of_decide_eq_true (by first | (with_reducible assumption) | assumption)
                                        (try (obtain ⟨A_, c_, e_⟩ := Kd.R_slice HO_12.out; subst e_))
                                        obtain ⟨ad306, e306, hx306_0⟩ := Kd.at_bool (Kd.R_reads' HO_12.out).2.2 (ji37) p306 q306
                                        (try rw [← Nbq40.out] at hx306_0)
                                        cases e306
                                        replace p306 := eq_true p306
                                        replace q306 := eq_true q306
                                        obtain ⟨Ao45, co45, eo45⟩ := Kd.R_slice HO_14.out
                                        subst eo45
                                        have p307 : 0 ≤ (x15_1 : Int) := of_decide_eq_true (by first | (with_reducible assumption) | assumption)
                                        have q307 : x15_1 < (t297.length : Int) := of_decide_eq_true (by first | (with_reducible assumption) | assumption)
                                        (try (obtain ⟨A_, c_, e_⟩ := Kd.R_slice HO_14.out; subst e_))
                                        obtain ⟨ad307, e307, hx307_0⟩ := Kd.at_bool (Kd.R_reads' HO_14.out).2.2 x15_1 p307 q307
                                        (try rw [← Nbq40.out] at hx307_0)
                                        cases e307
                                        replace p307 := eq_true p307
                                        replace q307 := eq_true q307
                                        go_wp2
                                        first | go_meet | ((try subst hji19); (try subst hji25); (try subst hji37); go_meet)
                                        case rel => exact ⟨_, (rdOf false t297 x15_1), (by first | rfl | (simp; done) | (simp [*]; done)), H', ⟨by have := HK1.out; have := HJ16.out; have := HJ22.out; first | omega | exact Nat.le_refl _⟩, ⟨by (with_reducible repeat (first | apply Kd.R_alloc | apply Kd.R_drewN | apply Kd.R_drew)); exact HO_12.out⟩, ⟨by (with_reducible repeat (first | apply Kd.R_alloc | apply Kd.R_drewN | apply Kd.R_drew)); exact HO_14.out⟩, ⟨by repeat (first | (with_reducible first | exact HB.out | apply below_alloc | apply pw_below_drewN | apply below_drew1) | exact HB.out)⟩⟩
                                      · rw [if_neg c43] at H
                                        exact absurd H (by simp)
                                    · rw [if_neg c42] at H
                                      exact absurd H (by simp)
                                  · replace c41 := Bool.eq_false_iff.mpr c41
                                    subst c41
                                    have H1 : (foretellref_FollowsOn.j3 kj22 l0 t293 t297 x15_1 ((rd_T63 l0 x15_1).f0) false) = some (r1, r2) := by rw [if_neg (show ¬ (false = true) by decide)] at H; exact H
                                    clear H
                                    have H := H1
                                    clear H1
                                    have H' := Aside0.mk H
                                    clear H
                                    obtain ⟨Ao46, co46, eo46⟩ := Kd.R_slice HO_12.out
                                    subst eo46
                                    have p306 : 0 ≤ ((ji37) : Int) := of_decide_eq_true (by first | (with_reducible assumption) | assumption)
                                    have q306 : (ji37) < (t293.length : Int) := of_decide_eq_true (by first | (with_reducible assumption) | assumption)
                                    (try (obtain ⟨A_, c_, e_⟩ := Kd.R_slice HO_12.out; subst e_))
                                    obtain ⟨ad306, e306, hx306_0⟩ := Kd.at_bool (Kd.R_reads' HO_12.out).2.2 (ji37) p306 q306
                                    (try rw [← Nbq40.out] at hx306_0)
                                    cases e306
                                    replace p306 := eq_true p306
                                    replace q306 := eq_true q306
                                    go_wp2
                                    first | go_meet | ((try subst hji19); (try subst hji25); (try subst hji37); go_meet)
                                    case rel => exact ⟨_, (false), (by first | rfl | (simp; done) | (simp [*]; done)), H', ⟨by have := HK1.out; have := HJ16.out; have := HJ22.out; first | omega | exact Nat.le_refl _⟩, ⟨by (with_reducible repeat (first | apply Kd.R_alloc | apply Kd.R_drewN | apply Kd.R_drew)); exact HO_12.out⟩, ⟨by (with_reducible repeat (first | apply Kd.R_alloc | apply Kd.R_drewN | apply Kd.R_drew)); exact HO_14.out⟩, ⟨by repeat (first | (with_reducible first | exact HB.out | apply below_alloc | apply pw_below_drewN | apply below_drew1) | exact HB.out)⟩⟩
                                · rw [if_neg c39] at H
                                  exact absurd H (by simp)
                              · rw [if_neg c38] at H
                                exact absurd H (by simp)
                            · rw [if_neg c36] at H
                              have c36b0 : (((rd_T63 l0 x15_1).f0) == 18) = false := beq_eq_false_iff_ne.mpr c36
                              have c36b1 : (((rd_T63 l0 x15_1).f0) != 18) = true := bne_iff_ne.mpr c36
                              (first | rw [c36b0] | (simp only [i64_w, i32_w]; rw [c36b0]) | skip)
                              have H' := Aside0.mk H
                              clear H
                              go_wp2
                              first | go_meet | ((try subst hji19); (try subst hji25); (try subst hji37); go_meet)
                              case rel => exact ⟨_, (x17_22), (by first | rfl | (simp; done) | (simp [*]; done)), H', ⟨by have := HK1.out; have := HJ16.out; have := HJ22.out; first | omega | exact Nat.le_refl _⟩, ⟨by (with_reducible repeat (first | apply Kd.R_alloc | apply Kd.R_drewN | apply Kd.R_drew)); exact HO_12.out⟩, ⟨by (with_reducible repeat (first | apply Kd.R_alloc | apply Kd.R_drewN | apply Kd.R_drew)); exact HO_14.out⟩, ⟨by repeat (first | (with_reducible first | exact HB.out | apply below_alloc | apply pw_below_drewN | apply below_drew1) | exact HB.out)⟩⟩
                          case rest =>
                            clear HC35
                            try clear c1
                            try clear c2
                            try clear p2
                            try clear q2
                            try clear c3
                            try clear p3
                            try clear q3
                            try clear hx3
                            try clear c4
                            try clear q4
                            try clear c5
                            try clear c6
                            try clear c6b0
                            try clear c6b1
                            try clear c6b2
                            try clear p6
                            try clear c8
                            try clear c8b0
                            try clear c8b1
                            try clear c10
                            try clear c10b0
                            try clear c10b1
                            try clear c13
                            try clear c13b0
                            try clear c14
                            try clear c14b0
                            try clear c16
                            try clear c18
                            try clear c18b0
                            try clear c18b1
                            try clear c20
                            try clear c20b0
                            try clear c21
                            try clear c21b0
                            try clear c24
                            try clear c24b0
                            try clear c24b1
                            try clear c26
                            try clear c26b0
                            try clear c27
                            try clear c27b0
                            try clear q28
                            try clear c29
                            try clear p30
                            try clear q30
                            try clear hx30
                            try clear c31
                            try clear c31b0
                            try clear c32
                            try clear c32b0
                            try clear c34
                            try clear c36
                            try clear c36b0
                            try clear c36b1
                            try clear c38
                            try clear c38b0
                            try clear c39
                            try clear c39b0
                            try clear q40
                            try clear c41
                            try clear c42
                            try clear c42b0
                            try clear c43
                            try clear c43b0
                            try clear hx301_0
                            try clear hx301_1
                            try clear hx303_0
                            try clear hx304_0
                            try clear hx305_0
                            try clear hx306_0
                            try clear hx307_0
                            try clear p2
                            try clear p3
                            try clear p30
                            try clear p301
                            try clear p303
                            try clear p304
                            try clear p305
                            try clear p306
                            try clear p307
                            try clear p6
                            try clear q2
                            try clear q28
                            try clear q3
                            try clear q30
                            try clear q301
                            try clear q303
                            try clear q304
                            try clear q305
                            try clear q306
                            try clear q307
                            obtain ⟨kq, x17_34, rfl, HA, HJ34, HO_12, HO_14, HB⟩ := hcut
                            cases kq with
                            | zero => exact absurd HA.out (by simp [foretellref_FollowsOn.j3])
                            | succ kj34 =>
                              have H := HA.out
                              clear HA
                              simp only [foretellref_FollowsOn.j3] at H
                              have HC47 := Aside0.mk H
                              clear H
                              go_upto_if 91 with (fail)
                              go_cut [17] (fun v17 wc => ∃ (kq : Nat) (x17_46 : Bool), v17 = .bool x17_46 ∧ Aside0 (foretellref_FollowsOn.j4 kq l0 t293 t297 x15_1 ((rd_T63 l0 x15_1).f0) x17_46 = some (r1, r2)) ∧ Aside0 (kq ≤ kj34) ∧ Aside0 (Kd.R Kd.bool 4 wc w.heap.size (fun k_ => some k_ ≠ (v299 : Value).ownBlock) v295 t293) ∧ Aside0 (Kd.R Kd.bool 4 wc w.heap.size (fun k_ => some k_ ≠ (v295 : Value).ownBlock) v299 t297) ∧ Aside0 (Below w.heap.size w wc))
                              case first =>
                                have H := HC47.out
                                clear HC47
                                by_cases c48 : ((rd_T63 l0 x15_1).f0) = 15
                                · rw [if_pos c48] at H
                                  have c48b0 : (((rd_T63 l0 x15_1).f0) == 15) = true := beq_iff_eq.mpr c48
                                  have c48b1 : (((rd_T63 l0 x15_1).f0) != 15) = false := bne_eq_false_iff_eq.mpr c48
                                  clear c48
                                  (first | rw [c48b0] | (simp only [i64_w, i32_w]; rw [c48b0]) | skip)
                                  replace H := Option.bind_eq_some_iff.mp H
                                  obtain ⟨t308, A490, H⟩ := H
                                  replace H : (if 0 ≤ t308 then (if t308 < (t293.length : Int) then (if rdOf false t293 t308 = true then (foretellref_FollowsOn.j4 kj34 l0 t293 t297 x15_1 ((rd_T63 l0 x15_1).f0) true) else (if 0 ≤ (wrap64 (x15_1 + 1)) then (if (wrap64 (x15_1 + 1)) < (t293.length : Int) then (if rdOf false t293 (wrap64 (x15_1 + 1)) = true then (if 0 ≤ x15_1 then (if x15_1 < (t297.length : Int) then (foretellref_FollowsOn.j4 kj34 l0 t293 t297 x15_1 ((rd_T63 l0 x15_1).f0) (rdOf false t297 x15_1)) else (none)) else (none)) else (foretellref_FollowsOn.j4 kj34 l0 t293 t297 x15_1 ((rd_T63 l0 x15_1).f0) false)) else (none)) else (none))) else (none)) else (none)) = some (r1, r2) := H
                                  have A49 := Aside0.mk A490
                                  clear A490
                                  by_cases c50 : 0 ≤ t308
                                  · rw [if_pos c50] at H
                                    have c50b0 : decide (0 ≤ t308) = true := decide_eq_true c50
                                    clear c50
                                    by_cases c51 : t308 < (t293.length : Int)
                                    · rw [if_pos c51] at H
                                      have c51b0 : decide (t308 < (t293.length : Int)) = true := decide_eq_true c51
                                      clear c51
                                      obtain ⟨bq52, hbq52⟩ : ∃ b_ : Bool, b_ = (rdOf false t293 t308) := ⟨_, rfl⟩
                                      replace H : (if bq52 = true then (foretellref_FollowsOn.j4 kj34 l0 t293 t297 x15_1 ((rd_T63 l0 x15_1).f0) true) else (if 0 ≤ (wrap64 (x15_1 + 1)) then (if (wrap64 (x15_1 + 1)) < (t293.length : Int) then (if rdOf false t293 (wrap64 (x15_1 + 1)) = true then (if 0 ≤ x15_1 then (if x15_1 < (t297.length : Int) then (foretellref_FollowsOn.j4 kj34 l0 t293 t297 x15_1 ((rd_T63 l0 x15_1).f0) (rdOf false t297 x15_1)) else (none)) else (none)) else (foretellref_FollowsOn.j4 kj34 l0 t293 t297 x15_1 ((rd_T63 l0 x15_1).f0) false)) else (none)) else (none))) = some (r1, r2) := by rw [← hbq52] at H; exact H
                                      have Nbq52 := Aside0.mk hbq52
                                      clear hbq52
                                      by_cases c53 : bq52 = true
                                      · subst c53
                                        have H1 : (foretellref_FollowsOn.j4 kj34 l0 t293 t297 x15_1 ((rd_T63 l0 x15_1).f0) true) = some (r1, r2) := by rw [if_pos rfl] at H; exact H
                                        clear H
                                        have H := H1
                                        clear H1
                                        have H' := Aside0.mk H
                                        clear H
                                        go_wp2_with (first | ((with_reducible refine gate_callee (f := 58) rfl ?_); refine goesL_ (some 95) rfl rfl Tryd.func58 (by kernel_rfl) rfl #[.slice (some ad301) l0.length c0, .int .i64 x15_1] rfl (by (try simp only [List.map_toArray, List.map_cons, List.map_nil]); first | done | rfl | (simp only [List.length_drop, List.length_take]; rfl)) ?_; (with_reducible refine (foretellref_secondAt.calls kj34 _ _ l0 x15_1 t308 _ ?side1 ?side2 A49.out).mono ?_); (case side1 => repeat (first | exact (Kd.C_below HR0.out HB.out) | (with_reducible refine Kd.C_alloc ?_ _) | (with_reducible refine Kd.C_drewN ?_ _) | (with_reducible refine Kd.C_drew ?_))); (case side2 => exact HC0.out); rintro e w' ⟨rfl, ⟨nd, rfl⟩⟩; refine ⟨_, rfl, ?_⟩; obtain ⟨Ao54, co54, eo54⟩ := Kd.R_slice HO_12.out; subst eo54; have p309 : 0 ≤ (t308 : Int) := of_decide_eq_true (by first | (with_reducible assumption) | assumption); have q309 : t308 < (t293.length : Int) := of_decide_eq_true (by first | (with_reducible assumption) | assumption); obtain ⟨ad309, e309, hx309_0⟩ := Kd.at_bool (Kd.R_reads' HO_12.out).2.2 t308 p309 q309; (try rw [← Nbq52.out] at hx309_0); cases e309; replace p309 := eq_true p309; replace q309 := eq_true q309))
                                        first | go_meet | ((try subst hji19); (try subst hji25); (try subst hji37); go_meet)
                                        case rel => exact ⟨_, (true), (by first | rfl | (simp; done) | (simp [*]; done)), H', ⟨by have := HK1.out; have := HJ16.out; have := HJ22.out; have := HJ34.out; first | omega | exact Nat.le_refl _⟩, ⟨by (with_reducible repeat (first | apply Kd.R_alloc | apply Kd.R_drewN | apply Kd.R_drew)); exact HO_12.out⟩, ⟨by (with_reducible repeat (first | apply Kd.R_alloc | apply Kd.R_drewN | apply Kd.R_drew)); exact HO_14.out⟩, ⟨by repeat (first | (with_reducible first | exact HB.out | apply below_alloc | apply pw_below_drewN | apply below_drew1) | exact HB.out)⟩⟩
                                      · replace c53 := Bool.eq_false_iff.mpr c53
                                        subst c53
                                        have H1 : (if 0 ≤ (wrap64 (x15_1 + 1)) then (if (wrap64 (x15_1 + 1)) < (t293.length : Int) then (if rdOf false t293 (wrap64 (x15_1 + 1)) = true then (if 0 ≤ x15_1 then (if x15_1 < (t297.length : Int) then (foretellref_FollowsOn.j4 kj34 l0 t293 t297 x15_1 ((rd_T63 l0 x15_1).f0) (rdOf false t297 x15_1)) else (none)) else (none)) else (foretellref_FollowsOn.j4 kj34 l0 t293 t297 x15_1 ((rd_T63 l0 x15_1).f0) false)) else (none)) else (none)) = some (r1, r2) := by rw [if_neg (show ¬ (false = true) by decide)] at H; exact H
                                        clear H
                                        have H := H1
                                        clear H1
                                        obtain ⟨ji55, hji55⟩ : ∃ j_ : Int, (wrap64 (x15_1 + 1)) = j_ := ⟨_, rfl⟩
                                        replace H : (if 0 ≤ (ji55) then (if (ji55) < (t293.length : Int) then (if rdOf false t293 (ji55) = true then (if 0 ≤ x15_1 then (if x15_1 < (t297.length : Int) then (foretellref_FollowsOn.j4 kj34 l0 t293 t297 x15_1 ((rd_T63 l0 x15_1).f0) (rdOf false t297 x15_1)) else (none)) else (none)) else (foretellref_FollowsOn.j4 kj34 l0 t293 t297 x15_1 ((rd_T63 l0 x15_1).f0) false)) else (none)) else (none)) = some (r1, r2) := by first | (rw [hji55] at H; exact H) | (simp only [hji55] at H ⊢; exact H)
                                        (try rw [hji55] at A49)
                                        have hji55w : (IntKind.i64.wrap (x15_1 + 1)) = ji55 := (i64_w _).trans hji55
                                        by_cases c56 : 0 ≤ (ji55)
                                        · rw [if_pos c56] at H
                                          have c56b0 : decide (0 ≤ (ji55)) = true := decide_eq_true c56
                                          clear c56
                                          by_cases c57 : (ji55) < (t293.length : Int)
                                          · rw [if_pos c57] at H
                                            have c57b0 : decide ((ji55) < (t293.length : Int)) = true := decide_eq_true c57
                                            clear c57
                                            obtain ⟨bq58, hbq58⟩ : ∃ b_ : Bool, b_ = (rdOf false t293 (ji55)) := ⟨_, rfl⟩
                                            replace H : (if bq58 = true then (if 0 ≤ x15_1 then (if x15_1 < (t297.length : Int) then (foretellref_FollowsOn.j4 kj34 l0 t293 t297 x15_1 ((rd_T63 l0 x15_1).f0) (rdOf false t297 x15_1)) else (none)) else (none)) else (foretellref_FollowsOn.j4 kj34 l0 t293 t297 x15_1 ((rd_T63 l0 x15_1).f0) false)) = some (r1, r2) := by rw [← hbq58] at H; exact H
                                            have Nbq58 := Aside0.mk hbq58
                                            clear hbq58
                                            by_cases c59 : bq58 = true
                                            · subst c59
                                              have H1 : (if 0 ≤ x15_1 then (if x15_1 < (t297.length : Int) then (foretellref_FollowsOn.j4 kj34 l0 t293 t297 x15_1 ((rd_T63 l0 x15_1).f0) (rdOf false t297 x15_1)) else (none)) else (none)) = some (r1, r2) := by rw [if_pos rfl] at H; exact H
                                              clear H
                                              have H := H1
                                              clear H1
                                              by_cases c60 : 0 ≤ x15_1
                                              · rw [if_pos c60] at H
                                                have c60b0 : decide (0 ≤ x15_1) = true := decide_eq_true c60
                                                clear c60
                                                by_cases c61 : x15_1 < (t297.length : Int)
                                                · rw [if_pos c61] at H
                                                  have c61b0 : decide (x15_1 < (t297.length : Int)) = true := decide_eq_true c61
                                                  clear c61
                                                  have H' := Aside0.mk H
                                                  clear H
                                                  go_wp2_with (first | ((with_reducible refine gate_callee (f := 58) rfl ?_); refine goesL_ (some 95) rfl rfl Tryd.func58 (by kernel_rfl) rfl #[.slice (some ad301) l0.length c0, .int .i64 x15_1] rfl (by (try simp only [List.map_toArray, List.map_cons, List.map_nil]); first | done | rfl | (simp only [List.length_drop, List.length_take]; rfl)) ?_; (with_reducible refine (foretellref_secondAt.calls kj34 _ _ l0 x15_1 t308 _ ?side1 ?side2 A49.out).mono ?_); (case side1 => repeat (first | exact (Kd.C_below HR0.out HB.out) | (with_reducible refine Kd.C_alloc ?_ _) | (with_reducible refine Kd.C_drewN ?_ _) | (with_reducible refine Kd.C_drew ?_))); (case side2 => exact HC0.out); rintro e w' ⟨rfl, ⟨nd, rfl⟩⟩; refine ⟨_, rfl, ?_⟩; obtain ⟨Ao62, co62, eo62⟩ := Kd.R_slice HO_12.out; subst eo62; have p309 : 0 ≤ (t308 : Int) := of_decide_eq_true (by first | (with_reducible assumption) | assumption); have q309 : t308 < (t293.length : Int) := of_decide_eq_true (by first | (with_reducible assumption) | assumption); obtain ⟨ad309, e309, hx309_0⟩ := Kd.at_bool (Kd.R_reads' HO_12.out).2.2 t308 p309 q309; (try rw [← Nbq52.out] at hx309_0); (try rw [← Nbq58.out] at hx309_0); cases e309; replace p309 := eq_true p309; replace q309 := eq_true q309; have p310 : 0 ≤ ((ji55) : Int) := of_decide_eq_true (by first | (with_reducible assumption) | assumption); have q310 : (ji55) < (t293.length : Int) := of_decide_eq_true (by first | (with_reducible assumption) | assumption); obtain ⟨ad310, e310, hx310_0⟩ := Kd.at_bool (Kd.R_reads' HO_12.out).2.2 (ji55) p310 q310; (try rw [← Nbq52.out] at hx310_0); (try rw [← Nbq58.out] at hx310_0); obtain rfl : ad309 = ad310 := (by injection e310); replace p310 := eq_true p310; replace q310 := eq_true q310; obtain ⟨Ao63, co63, eo63⟩ := Kd.R_slice HO_14.out; subst eo63; have p311 : 0 ≤ (x15_1 : Int) := of_decide_eq_true (by first | (with_reducible assumption) | assumption); have q311 : x15_1 < (t297.length : Int) := of_decide_eq_true (by first | (with_reducible assumption) | assumption); obtain ⟨ad311, e311, hx311_0⟩ := Kd.at_bool (Kd.R_reads' HO_14.out).2.2 x15_1 p311 q311; (try rw [← Nbq52.out] at hx311_0); (try rw [← Nbq58.out] at hx311_0); cases e311; replace p311 := eq_true p311; replace q311 := eq_true q311))
                                                  first | go_meet | ((try subst hji19); (try subst hji25); (try subst hji37); (try subst hji55); go_meet)
                                                  case rel => exact ⟨_, (rdOf false t297 x15_1), (by first | rfl | (simp; done) | (simp [*]; done)), H', ⟨by have := HK1.out; have := HJ16.out; have := HJ22.out; have := HJ34.out; first | omega | exact Nat.le_refl _⟩, ⟨by (with_reducible repeat (first | apply Kd.R_alloc | apply Kd.R_drewN | apply Kd.R_drew)); exact HO_12.out⟩, ⟨by (with_reducible repeat (first | apply Kd.R_alloc | apply Kd.R_drewN | apply Kd.R_drew)); exact HO_14.out⟩, ⟨by repeat (first | (with_reducible first | exact HB.out | apply below_alloc | apply pw_below_drewN | apply below_drew1) | exact HB.out)⟩⟩
                                                · rw [if_neg c61] at H
                                                  exact absurd H (by simp)
                                              · rw [if_neg c60] at H
                                                exact absurd H (by simp)
                                            · replace c59 := Bool.eq_false_iff.mpr c59
                                              subst c59
                                              have H1 : (foretellref_FollowsOn.j4 kj34 l0 t293 t297 x15_1 ((rd_T63 l0 x15_1).f0) false) = some (r1, r2) := by rw [if_neg (show ¬ (false = true) by decide)] at H; exact H
                                              clear H
                                              have H := H1
                                              clear H1
                                              have H' := Aside0.mk H
                                              clear H
                                              go_wp2_with (first | ((with_reducible refine gate_callee (f := 58) rfl ?_); refine goesL_ (some 95) rfl rfl Tryd.func58 (by kernel_rfl) rfl #[.slice (some ad301) l0.length c0, .int .i64 x15_1] rfl (by (try simp only [List.map_toArray, List.map_cons, List.map_nil]); first | done | rfl | (simp only [List.length_drop, List.length_take]; rfl)) ?_; (with_reducible refine (foretellref_secondAt.calls kj34 _ _ l0 x15_1 t308 _ ?side1 ?side2 A49.out).mono ?_); (case side1 => repeat (first | exact (Kd.C_below HR0.out HB.out) | (with_reducible refine Kd.C_alloc ?_ _) | (with_reducible refine Kd.C_drewN ?_ _) | (with_reducible refine Kd.C_drew ?_))); (case side2 => exact HC0.out); rintro e w' ⟨rfl, ⟨nd, rfl⟩⟩; refine ⟨_, rfl, ?_⟩; obtain ⟨Ao64, co64, eo64⟩ := Kd.R_slice HO_12.out; subst eo64; have p309 : 0 ≤ (t308 : Int) := of_decide_eq_true (by first | (with_reducible assumption) | assumption); have q309 : t308 < (t293.length : Int) := of_decide_eq_true (by first | (with_reducible assumption) | assumption); obtain ⟨ad309, e309, hx309_0⟩ := Kd.at_bool (Kd.R_reads' HO_12.out).2.2 t308 p309 q309; (try rw [← Nbq52.out] at hx309_0); (try rw [← Nbq58.out] at hx309_0); cases e309; replace p309 := eq_true p309; replace q309 := eq_true q309; have p310 : 0 ≤ ((ji55) : Int) := of_decide_eq_true (by first | (with_reducible assumption) | assumption); have q310 : (ji55) < (t293.length : Int) := of_decide_eq_true (by first | (with_reducible assumption) | assumption); obtain ⟨ad310, e310, hx310_0⟩ := Kd.at_bool (Kd.R_reads' HO_12.out).2.2 (ji55) p310 q310; (try rw [← Nbq52.out] at hx310_0); (try rw [← Nbq58.out] at hx310_0); obtain rfl : ad309 = ad310 := (by injection e310); replace p310 := eq_true p310; replace q310 := eq_true q310))
                                              first | go_meet | ((try subst hji19); (try subst hji25); (try subst hji37); (try subst hji55); go_meet)
                                              case rel => exact ⟨_, (false), (by first | rfl | (simp; done) | (simp [*]; done)), H', ⟨by have := HK1.out; have := HJ16.out; have := HJ22.out; have := HJ34.out; first | omega | exact Nat.le_refl _⟩, ⟨by (with_reducible repeat (first | apply Kd.R_alloc | apply Kd.R_drewN | apply Kd.R_drew)); exact HO_12.out⟩, ⟨by (with_reducible repeat (first | apply Kd.R_alloc | apply Kd.R_drewN | apply Kd.R_drew)); exact HO_14.out⟩, ⟨by repeat (first | (with_reducible first | exact HB.out | apply below_alloc | apply pw_below_drewN | apply below_drew1) | exact HB.out)⟩⟩
                                          · rw [if_neg c57] at H
                                            exact absurd H (by simp)
                                        · rw [if_neg c56] at H
                                          exact absurd H (by simp)
                                    · rw [if_neg c51] at H
                                      exact absurd H (by simp)
                                  · rw [if_neg c50] at H
                                    exact absurd H (by simp)
                                · rw [if_neg c48] at H
                                  have c48b0 : (((rd_T63 l0 x15_1).f0) == 15) = false := beq_eq_false_iff_ne.mpr c48
                                  have c48b1 : (((rd_T63 l0 x15_1).f0) != 15) = true := bne_iff_ne.mpr c48
                                  (first | rw [c48b0] | (simp only [i64_w, i32_w]; rw [c48b0]) | skip)
                                  have H' := Aside0.mk H
                                  clear H
                                  go_wp2
                                  first | go_meet | ((try subst hji19); (try subst hji25); (try subst hji37); go_meet)
                                  case rel => exact ⟨_, (x17_34), (by first | rfl | (simp; done) | (simp [*]; done)), H', ⟨by have := HK1.out; have := HJ16.out; have := HJ22.out; have := HJ34.out; first | omega | exact Nat.le_refl _⟩, ⟨by (with_reducible repeat (first | apply Kd.R_alloc | apply Kd.R_drewN | apply Kd.R_drew)); exact HO_12.out⟩, ⟨by (with_reducible repeat (first | apply Kd.R_alloc | apply Kd.R_drewN | apply Kd.R_drew)); exact HO_14.out⟩, ⟨by repeat (first | (with_reducible first | exact HB.out | apply below_alloc | apply pw_below_drewN | apply below_drew1) | exact HB.out)⟩⟩
                              case rest =>
                                clear HC47
                                try clear c1
                                try clear c2
                                try clear p2
                                try clear q2
                                try clear c3
                                try clear p3
                                try clear q3
                                try clear hx3
                                try clear c4
                                try clear q4
                                try clear c5
                                try clear q5
                                try clear c6
                                try clear c6b0
                                try clear c6b1
                                try clear c6b2
                                try clear p6
                                try clear c8
                                try clear c8b0
                                try clear c8b1
                                try clear c10
                                try clear c10b0
                                try clear c10b1
                                try clear c13
                                try clear c13b0
                                try clear c14
                                try clear c14b0
                                try clear c16
                                try clear c18
                                try clear c18b0
                                try clear c18b1
                                try clear c20
                                try clear c20b0
                                try clear c21
                                try clear c21b0
                                try clear c24
                                try clear c24b0
                                try clear c24b1
                                try clear c26
                                try clear c26b0
                                try clear c27
                                try clear c27b0
                                try clear q28
                                try clear c29
                                try clear p30
                                try clear q30
                                try clear hx30
                                try clear c31
                                try clear c31b0
                                try clear p31
                                try clear q31
                                try clear hx31
                                try clear c32
                                try clear c32b0
                                try clear c34
                                try clear c36
                                try clear c36b0
                                try clear c36b1
                                try clear c38
                                try clear c38b0
                                try clear c39
                                try clear c39b0
                                try clear q40
                                try clear c41
                                try clear c42
                                try clear c42b0
                                try clear c43
                                try clear c43b0
                                try clear c48
                                try clear c48b0
                                try clear c48b1
                                try clear c50
                                try clear c50b0
                                try clear c51
                                try clear c51b0
                                try clear q52
                                try clear c53
                                try clear c56
                                try clear c56b0
                                try clear c57
                                try clear c57b0
                                try clear c58
                                try clear q58
                                try clear c59
                                try clear c60
                                try clear c60b0
                                try clear c61
                                try clear c61b0
                                try clear p64
                                try clear hx301_0
                                try clear hx301_1
                                try clear hx303_0
                                try clear hx304_0
                                try clear hx305_0
                                try clear hx306_0
                                try clear hx307_0
                                try clear hx309_0
                                try clear hx310_0
                                try clear hx311_0
                                try clear p2
                                try clear p3
                                try clear p30
                                try clear p301
                                try clear p303
                                try clear p304
                                try clear p305
                                try clear p306
                                try clear p307
                                try clear p309
                                try clear p310
                                try clear p311
                                try clear p6
                                try clear q2
                                try clear q28
                                try clear q3
                                try clear q30
                                try clear q301
                                try clear q303
                                try clear q304
                                try clear q305
                                try clear q306
                                try clear q307
                                try clear q309
                                try clear q310
                                try clear q311
                                try clear q4
                                try clear q40
                                obtain ⟨kq, x17_46, rfl, HA, HJ46, HO_12, HO_14, HB⟩ := hcut
                                cases kq with
                                | zero => exact absurd HA.out (by simp [foretellref_FollowsOn.j4])
                                | succ kj46 =>
                                  have H := HA.out
                                  clear HA
                                  simp only [foretellref_FollowsOn.j4] at H
                                  by_cases c65 : ((rd_T63 l0 x15_1).f0) = 16
                                  · rw [if_pos c65] at H
                                    have c65b0 : (((rd_T63 l0 x15_1).f0) == 16) = true := beq_iff_eq.mpr c65
                                    have c65b1 : (((rd_T63 l0 x15_1).f0) != 16) = false := bne_eq_false_iff_eq.mpr c65
                                    clear c65
                                    replace H := Option.bind_eq_some_iff.mp H
                                    obtain ⟨t312, A660, H⟩ := H
                                    replace H : (if 0 ≤ t312 then (if t312 < (t293.length : Int) then (if rdOf false t293 t312 = true then (if 0 ≤ (wrap64 (x15_1 + 1)) then (if (wrap64 (x15_1 + 1)) < (t293.length : Int) then (if rdOf false t293 (wrap64 (x15_1 + 1)) = true then (if 0 ≤ x15_1 then (if x15_1 < (t293.length : Int) then (if ((rdOf false t293 x15_1) != true) = true then (some (false, 0)) else (foretellref_FollowsOn.l0 kj46 l0 t293 t297 (wrap64 (x15_1 + 1)))) else (none)) else (none)) else (if 0 ≤ x15_1 then (if x15_1 < (t297.length : Int) then (if x15_1 < (t293.length : Int) then (if ((rdOf false t293 x15_1) != (rdOf false t297 x15_1)) = true then (some (false, 0)) else (foretellref_FollowsOn.l0 kj46 l0 t293 t297 (wrap64 (x15_1 + 1)))) else (none)) else (none)) else (none))) else (none)) else (none)) else (if 0 ≤ x15_1 then (if x15_1 < (t293.length : Int) then (if ((rdOf false t293 x15_1) != false) = true then (some (false, 0)) else (foretellref_FollowsOn.l0 kj46 l0 t293 t297 (wrap64 (x15_1 + 1)))) else (none)) else (none))) else (none)) else (none)) = some (r1, r2) := H
                                    have A66 := Aside0.mk A660
                                    clear A660
                                    by_cases c67 : 0 ≤ t312
                                    · rw [if_pos c67] at H
                                      have c67b0 : decide (0 ≤ t312) = true := decide_eq_true c67
                                      clear c67
                                      by_cases c68 : t312 < (t293.length : Int)
                                      · rw [if_pos c68] at H
                                        have c68b0 : decide (t312 < (t293.length : Int)) = true := decide_eq_true c68
                                        clear c68
                                        obtain ⟨bq69, hbq69⟩ : ∃ b_ : Bool, b_ = (rdOf false t293 t312) := ⟨_, rfl⟩
                                        replace H : (if bq69 = true then (if 0 ≤ (wrap64 (x15_1 + 1)) then (if (wrap64 (x15_1 + 1)) < (t293.length : Int) then (if rdOf false t293 (wrap64 (x15_1 + 1)) = true then (if 0 ≤ x15_1 then (if x15_1 < (t293.length : Int) then (if ((rdOf false t293 x15_1) != true) = true then (some (false, 0)) else (foretellref_FollowsOn.l0 kj46 l0 t293 t297 (wrap64 (x15_1 + 1)))) else (none)) else (none)) else (if 0 ≤ x15_1 then (if x15_1 < (t297.length : Int) then (if x15_1 < (t293.length : Int) then (if ((rdOf false t293 x15_1) != (rdOf false t297 x15_1)) = true then (some (false, 0)) else (foretellref_FollowsOn.l0 kj46 l0 t293 t297 (wrap64 (x15_1 + 1)))) else (none)) else (none)) else (none))) else (none)) else (none)) else (if 0 ≤ x15_1 then (if x15_1 < (t293.length : Int) then (if ((rdOf false t293 x15_1) != false) = true then (some (false, 0)) else (foretellref_FollowsOn.l0 kj46 l0 t293 t297 (wrap64 (x15_1 + 1)))) else (none)) else (none))) = some (r1, r2) := by rw [← hbq69] at H; exact H
                                        have Nbq69 := Aside0.mk hbq69
                                        clear hbq69
                                        by_cases c70 : bq69 = true
                                        · subst c70
                                          have H1 : (if 0 ≤ (wrap64 (x15_1 + 1)) then (if (wrap64 (x15_1 + 1)) < (t293.length : Int) then (if rdOf false t293 (wrap64 (x15_1 + 1)) = true then (if 0 ≤ x15_1 then (if x15_1 < (t293.length : Int) then (if ((rdOf false t293 x15_1) != true) = true then (some (false, 0)) else (foretellref_FollowsOn.l0 kj46 l0 t293 t297 (wrap64 (x15_1 + 1)))) else (none)) else (none)) else (if 0 ≤ x15_1 then (if x15_1 < (t297.length : Int) then (if x15_1 < (t293.length : Int) then (if ((rdOf false t293 x15_1) != (rdOf false t297 x15_1)) = true then (some (false, 0)) else (foretellref_FollowsOn.l0 kj46 l0 t293 t297 (wrap64 (x15_1 + 1)))) else (none)) else (none)) else (none))) else (none)) else (none)) = some (r1, r2) := by rw [if_pos rfl] at H; exact H
                                          clear H
                                          have H := H1
                                          clear H1
                                          obtain ⟨ji71, hji71⟩ : ∃ j_ : Int, (wrap64 (x15_1 + 1)) = j_ := ⟨_, rfl⟩
                                          replace H : (if 0 ≤ (ji71) then (if (ji71) < (t293.length : Int) then (if rdOf false t293 (ji71) = true then (if 0 ≤ x15_1 then (if x15_1 < (t293.length : Int) then (if ((rdOf false t293 x15_1) != true) = true then (some (false, 0)) else (foretellref_FollowsOn.l0 kj46 l0 t293 t297 ji71)) else (none)) else (none)) else (if 0 ≤ x15_1 then (if x15_1 < (t297.length : Int) then (if x15_1 < (t293.length : Int) then (if ((rdOf false t293 x15_1) != (rdOf false t297 x15_1)) = true then (some (false, 0)) else (foretellref_FollowsOn.l0 kj46 l0 t293 t297 ji71)) else (none)) else (none)) else (none))) else (none)) else (none)) = some (r1, r2) := by first | (rw [hji71] at H; exact H) | (simp only [hji71] at H ⊢; exact H)
                                          (try rw [hji71] at A66)
                                          have hji71w : (IntKind.i64.wrap (x15_1 + 1)) = ji71 := (i64_w _).trans hji71
                                          by_cases c72 : 0 ≤ (ji71)
                                          · rw [if_pos c72] at H
                                            have c72b0 : decide (0 ≤ (ji71)) = true := decide_eq_true c72
                                            clear c72
                                            by_cases c73 : (ji71) < (t293.length : Int)
                                            · rw [if_pos c73] at H
                                              have c73b0 : decide ((ji71) < (t293.length : Int)) = true := decide_eq_true c73
                                              clear c73
                                              obtain ⟨bq74, hbq74⟩ : ∃ b_ : Bool, b_ = (rdOf false t293 (ji71)) := ⟨_, rfl⟩
                                              replace H : (if bq74 = true then (if 0 ≤ x15_1 then (if x15_1 < (t293.length : Int) then (if ((rdOf false t293 x15_1) != true) = true then (some (false, 0)) else (foretellref_FollowsOn.l0 kj46 l0 t293 t297 ji71)) else (none)) else (none)) else (if 0 ≤ x15_1 then (if x15_1 < (t297.length : Int) then (if x15_1 < (t293.length : Int) then (if ((rdOf false t293 x15_1) != (rdOf false t297 x15_1)) = true then (some (false, 0)) else (foretellref_FollowsOn.l0 kj46 l0 t293 t297 ji71)) else (none)) else (none)) else (none))) = some (r1, r2) := by rw [← hbq74] at H; exact H
                                              have Nbq74 := Aside0.mk hbq74
                                              clear hbq74
                                              by_cases c75 : bq74 = true
                                              · subst c75
                                                have H1 : (if 0 ≤ x15_1 then (if x15_1 < (t293.length : Int) then (if ((rdOf false t293 x15_1) != true) = true then (some (false, 0)) else (foretellref_FollowsOn.l0 kj46 l0 t293 t297 ji71)) else (none)) else (none)) = some (r1, r2) := by rw [if_pos rfl] at H; exact H
                                                clear H
                                                have H := H1
                                                clear H1
                                                by_cases c76 : 0 ≤ x15_1
                                                · rw [if_pos c76] at H
                                                  have c76b0 : decide (0 ≤ x15_1) = true := decide_eq_true c76
                                                  clear c76
                                                  by_cases c77 : x15_1 < (t293.length : Int)
                                                  · rw [if_pos c77] at H
                                                    have c77b0 : decide (x15_1 < (t293.length : Int)) = true := decide_eq_true c77
                                                    clear c77
                                                    by_cases c78 : ((rdOf false t293 x15_1) != true) = true
                                                    · rw [if_pos c78] at H
                                                      have c78b0 : ((rdOf false t293 x15_1) != true) = true := c78
                                                      (try (have c78b1 : decide ((rdOf false t293 x15_1) = true) = false := by simpa using c78))
                                                      (try (have c78b2 : ((rdOf false t293 x15_1) == true) = false := by simpa using c78))
                                                      (try (have c78b3 : ¬ ((rdOf false t293 x15_1) = true) := by simpa using c78))
                                                      clear c78
                                                      simp only [Option.some.injEq, Prod.mk.injEq] at H
                                                      obtain ⟨rfl, rfl⟩ := H
                                                      go_wp2_with (first | ((with_reducible refine gate_callee (f := 58) rfl ?_); refine goesL_ (some 116) rfl rfl Tryd.func58 (by kernel_rfl) rfl #[.slice (some ad301) l0.length c0, .int .i64 x15_1] rfl (by (try simp only [List.map_toArray, List.map_cons, List.map_nil]); first | done | rfl | (simp only [List.length_drop, List.length_take]; rfl)) ?_; (with_reducible refine (foretellref_secondAt.calls kj46 _ _ l0 x15_1 t312 _ ?side1 ?side2 A66.out).mono ?_); (case side1 => repeat (first | exact (Kd.C_below HR0.out HB.out) | (with_reducible refine Kd.C_alloc ?_ _) | (with_reducible refine Kd.C_drewN ?_ _) | (with_reducible refine Kd.C_drew ?_))); (case side2 => exact HC0.out); rintro e w' ⟨rfl, ⟨nd, rfl⟩⟩; refine ⟨_, rfl, ?_⟩; obtain ⟨Ao79, co79, eo79⟩ := Kd.R_slice HO_12.out; subst eo79; have p313 : 0 ≤ (t312 : Int) := of_decide_eq_true (by first | (with_reducible assumption) | assumption); have q313 : t312 < (t293.length : Int) := of_decide_eq_true (by first | (with_reducible assumption) | assumption); obtain ⟨ad313, e313, hx313_0⟩ := Kd.at_bool (Kd.R_reads' HO_12.out).2.2 t312 p313 q313; (try rw [← Nbq69.out] at hx313_0); (try rw [← Nbq74.out] at hx313_0); cases e313; replace p313 := eq_true p313; replace q313 := eq_true q313; have p314 : 0 ≤ ((ji71) : Int) := of_decide_eq_true (by first | (with_reducible assumption) | assumption); have q314 : (ji71) < (t293.length : Int) := of_decide_eq_true (by first | (with_reducible assumption) | assumption); obtain ⟨ad314, e314, hx314_0⟩ := Kd.at_bool (Kd.R_reads' HO_12.out).2.2 (ji71) p314 q314; (try rw [← Nbq69.out] at hx314_0); (try rw [← Nbq74.out] at hx314_0); obtain rfl : ad313 = ad314 := (by injection e314); replace p314 := eq_true p314; replace q314 := eq_true q314; have p315 : 0 ≤ (x15_1 : Int) := of_decide_eq_true (by first | (with_reducible assumption) | assumption); have q315 : x15_1 < (t293.length : Int) := of_decide_eq_true (by first | (with_reducible assumption) | assumption); obtain ⟨ad315, e315, hx315_0⟩ := Kd.at_bool (Kd.R_reads' HO_12.out).2.2 x15_1 p315 q315; (try rw [← Nbq69.out] at hx315_0); (try rw [← Nbq74.out] at hx315_0); obtain rfl : ad313 = ad315 := (by injection e315); replace p315 := eq_true p315; replace q315 := eq_true q315))
                                                      go_ret2
                                                      exact ⟨by first | rfl | (simp [errW_none, errW_some] <;> rfl) | (simp only [← hji71]; first | rfl | (simp [errW_none, errW_some] <;> rfl)) | (simp [*, errW_none, errW_some] <;> rfl), by repeat (first | (with_reducible first | exact HB.out | apply below_alloc | apply pw_below_drewN | apply below_drew1) | exact HB.out)⟩
                                                    · rw [if_neg c78] at H
                                                      have c78b0 : ((rdOf false t293 x15_1) != true) = false := by simpa using c78
                                                      (try (have c78b1 : decide ((rdOf false t293 x15_1) = true) = true := by simpa using c78))
                                                      (try (have c78b2 : ((rdOf false t293 x15_1) == true) = true := by simpa using c78))
                                                      clear c78
                                                      have H' := Aside0.mk H
                                                      clear H
                                                      go_wp2_with (first | ((with_reducible refine gate_callee (f := 58) rfl ?_); refine goesL_ (some 116) rfl rfl Tryd.func58 (by kernel_rfl) rfl #[.slice (some ad301) l0.length c0, .int .i64 x15_1] rfl (by (try simp only [List.map_toArray, List.map_cons, List.map_nil]); first | done | rfl | (simp only [List.length_drop, List.length_take]; rfl)) ?_; (with_reducible refine (foretellref_secondAt.calls kj46 _ _ l0 x15_1 t312 _ ?side1 ?side2 A66.out).mono ?_); (case side1 => repeat (first | exact (Kd.C_below HR0.out HB.out) | (with_reducible refine Kd.C_alloc ?_ _) | (with_reducible refine Kd.C_drewN ?_ _) | (with_reducible refine Kd.C_drew ?_))); (case side2 => exact HC0.out); rintro e w' ⟨rfl, ⟨nd, rfl⟩⟩; refine ⟨_, rfl, ?_⟩; obtain ⟨Ao80, co80, eo80⟩ := Kd.R_slice HO_12.out; subst eo80; have p313 : 0 ≤ (t312 : Int) := of_decide_eq_true (by first | (with_reducible assumption) | assumption); have q313 : t312 < (t293.length : Int) := of_decide_eq_true (by first | (with_reducible assumption) | assumption); obtain ⟨ad313, e313, hx313_0⟩ := Kd.at_bool (Kd.R_reads' HO_12.out).2.2 t312 p313 q313; (try rw [← Nbq69.out] at hx313_0); (try rw [← Nbq74.out] at hx313_0); cases e313; replace p313 := eq_true p313; replace q313 := eq_true q313; have p314 : 0 ≤ ((ji71) : Int) := of_decide_eq_true (by first | (with_reducible assumption) | assumption); have q314 : (ji71) < (t293.length : Int) := of_decide_eq_true (by first | (with_reducible assumption) | assumption); obtain ⟨ad314, e314, hx314_0⟩ := Kd.at_bool (Kd.R_reads' HO_12.out).2.2 (ji71) p314 q314; (try rw [← Nbq69.out] at hx314_0); (try rw [← Nbq74.out] at hx314_0); obtain rfl : ad313 = ad314 := (by injection e314); replace p314 := eq_true p314; replace q314 := eq_true q314; have p315 : 0 ≤ (x15_1 : Int) := of_decide_eq_true (by first | (with_reducible assumption) | assumption); have q315 : x15_1 < (t293.length : Int) := of_decide_eq_true (by first | (with_reducible assumption) | assumption); obtain ⟨ad315, e315, hx315_0⟩ := Kd.at_bool (Kd.R_reads' HO_12.out).2.2 x15_1 p315 q315; (try rw [← Nbq69.out] at hx315_0); (try rw [← Nbq74.out] at hx315_0); obtain rfl : ad313 = ad315 := (by injection e315); replace p315 := eq_true p315; replace q315 := eq_true q315))
                                                      go_roundg kj46
                                                      case measure => have := HK1.out; have := HJ16.out; have := HJ22.out; have := HJ34.out; have := HJ46.out; omega
                                                      case rel => exact ⟨(ji71), (by first | rfl | (simp; done) | (simp only [← hji71] <;> (first | rfl | simp)) | (simp [*]; done)), H', ⟨by have := HK1.out; have := HJ16.out; have := HJ22.out; have := HJ34.out; have := HJ46.out; omega⟩, ⟨by (with_reducible repeat (first | apply Kd.R_alloc | apply Kd.R_drewN | apply Kd.R_drew)); exact HO_12.out⟩, ⟨by (with_reducible repeat (first | apply Kd.R_alloc | apply Kd.R_drewN | apply Kd.R_drew)); exact HO_14.out⟩, ⟨by repeat (first | (with_reducible first | exact HB.out | apply below_alloc | apply pw_below_drewN | apply below_drew1) | exact HB.out)⟩⟩
                                                  · rw [if_neg c77] at H
                                                    exact absurd H (by simp)
                                                · rw [if_neg c76] at H
                                                  exact absurd H (by simp)
                                              · replace c75 := Bool.eq_false_iff.mpr c75
                                                subst c75
                                                have H1 : (if 0 ≤ x15_1 then (if x15_1 < (t297.length : Int) then (if x15_1 < (t293.length : Int) then (if ((rdOf false t293 x15_1) != (rdOf false t297 x15_1)) = true then (some (false, 0)) else (foretellref_FollowsOn.l0 kj46 l0 t293 t297 ji71)) else (none)) else (none)) else (none)) = some (r1, r2) := by rw [if_neg (show ¬ (false = true) by decide)] at H; exact H
                                                clear H
                                                have H := H1
                                                clear H1
                                                by_cases c81 : 0 ≤ x15_1
                                                · rw [if_pos c81] at H
                                                  have c81b0 : decide (0 ≤ x15_1) = true := decide_eq_true c81
                                                  clear c81
                                                  by_cases c82 : x15_1 < (t297.length : Int)
                                                  · rw [if_pos c82] at H
                                                    have c82b0 : decide (x15_1 < (t297.length : Int)) = true := decide_eq_true c82
                                                    clear c82
                                                    by_cases c83 : x15_1 < (t293.length : Int)
                                                    · rw [if_pos c83] at H
                                                      have c83b0 : decide (x15_1 < (t293.length : Int)) = true := decide_eq_true c83
                                                      clear c83
                                                      by_cases c84 : ((rdOf false t293 x15_1) != (rdOf false t297 x15_1)) = true
                                                      · rw [if_pos c84] at H
                                                        have c84b0 : ((rdOf false t293 x15_1) != (rdOf false t297 x15_1)) = true := c84
                                                        (try (have c84b1 : decide ((rdOf false t293 x15_1) = (rdOf false t297 x15_1)) = false := by simpa using c84))
                                                        (try (have c84b2 : ((rdOf false t293 x15_1) == (rdOf false t297 x15_1)) = false := by simpa using c84))
                                                        (try (have c84b3 : ¬ ((rdOf false t293 x15_1) = (rdOf false t297 x15_1)) := by simpa using c84))
                                                        clear c84
                                                        simp only [Option.some.injEq, Prod.mk.injEq] at H
                                                        obtain ⟨rfl, rfl⟩ := H
                                                        go_wp2_with (first | ((with_reducible refine gate_callee (f := 58) rfl ?_); refine goesL_ (some 116) rfl rfl Tryd.func58 (by kernel_rfl) rfl #[.slice (some ad301) l0.length c0, .int .i64 x15_1] rfl (by (try simp only [List.map_toArray, List.map_cons, List.map_nil]); first | done | rfl | (simp only [List.length_drop, List.length_take]; rfl)) ?_; (with_reducible refine (foretellref_secondAt.calls kj46 _ _ l0 x15_1 t312 _ ?side1 ?side2 A66.out).mono ?_); (case side1 => repeat (first | exact (Kd.C_below HR0.out HB.out) | (with_reducible refine Kd.C_alloc ?_ _) | (with_reducible refine Kd.C_drewN ?_ _) | (with_reducible refine Kd.C_drew ?_))); (case side2 => exact HC0.out); rintro e w' ⟨rfl, ⟨nd, rfl⟩⟩; refine ⟨_, rfl, ?_⟩; obtain ⟨Ao85, co85, eo85⟩ := Kd.R_slice HO_12.out; subst eo85; have p313 : 0 ≤ (t312 : Int) := of_decide_eq_true (by first | (with_reducible assumption) | assumption); have q313 : t312 < (t293.length : Int) := of_decide_eq_true (by first | (with_reducible assumption) | assumption); obtain ⟨ad313, e313, hx313_0⟩ := Kd.at_bool (Kd.R_reads' HO_12.out).2.2 t312 p313 q313; (try rw [← Nbq69.out] at hx313_0); (try rw [← Nbq74.out] at hx313_0); cases e313; replace p313 := eq_true p313; replace q313 := eq_true q313; have p314 : 0 ≤ ((ji71) : Int) := of_decide_eq_true (by first | (with_reducible assumption) | assumption); have q314 : (ji71) < (t293.length : Int) := of_decide_eq_true (by first | (with_reducible assumption) | assumption); obtain ⟨ad314, e314, hx314_0⟩ := Kd.at_bool (Kd.R_reads' HO_12.out).2.2 (ji71) p314 q314; (try rw [← Nbq69.out] at hx314_0); (try rw [← Nbq74.out] at hx314_0); obtain rfl : ad313 = ad314 := (by injection e314); replace p314 := eq_true p314; replace q314 := eq_true q314; obtain ⟨Ao86, co86, eo86⟩ := Kd.R_slice HO_14.out; subst eo86; have p316 : 0 ≤ (x15_1 : Int) := of_decide_eq_true (by first | (with_reducible assumption) | assumption); have q316 : x15_1 < (t297.length : Int) := of_decide_eq_true (by first | (with_reducible assumption) | assumption); obtain ⟨ad316, e316, hx316_0⟩ := Kd.at_bool (Kd.R_reads' HO_14.out).2.2 x15_1 p316 q316; (try rw [← Nbq69.out] at hx316_0); (try rw [← Nbq74.out] at hx316_0); cases e316; replace p316 := eq_true p316; replace q316 := eq_true q316; have p317 : 0 ≤ (x15_1 : Int) := of_decide_eq_true (by first | (with_reducible assumption) | assumption); have q317 : x15_1 < (t293.length : Int) := of_decide_eq_true (by first | (with_reducible assumption) | assumption); obtain ⟨ad317, e317, hx317_0⟩ := Kd.at_bool (Kd.R_reads' HO_12.out).2.2 x15_1 p317 q317; (try rw [← Nbq69.out] at hx317_0); (try rw [← Nbq74.out] at hx317_0); obtain rfl : ad313 = ad317 := (by injection e317); replace p317 := eq_true p317; replace q317 := eq_true q317))
                                                        go_ret2
                                                        exact ⟨by first | rfl | (simp [errW_none, errW_some] <;> rfl) | (simp only [← hji71]; first | rfl | (simp [errW_none, errW_some] <;> rfl)) | (simp [*, errW_none, errW_some] <;> rfl), by repeat (first | (with_reducible first | exact HB.out | apply below_alloc | apply pw_below_drewN | apply below_drew1) | exact HB.out)⟩
                                                      · rw [if_neg c84] at H
                                                        have c84b0 : ((rdOf false t293 x15_1) != (rdOf false t297 x15_1)) = false := by simpa using c84
                                                        (try (have c84b1 : decide ((rdOf false t293 x15_1) = (rdOf false t297 x15_1)) = true := by simpa using c84))
                                                        (try (have c84b2 : ((rdOf false t293 x15_1) == (rdOf false t297 x15_1)) = true := by simpa using c84))
                                                        clear c84
                                                        have H' := Aside0.mk H
                                                        clear H
                                                        go_wp2_with (first | ((with_reducible refine gate_callee (f := 58) rfl ?_); refine goesL_ (some 116) rfl rfl Tryd.func58 (by kernel_rfl) rfl #[.slice (some ad301) l0.length c0, .int .i64 x15_1] rfl (by (try simp only [List.map_toArray, List.map_cons, List.map_nil]); first | done | rfl | (simp only [List.length_drop, List.length_take]; rfl)) ?_; (with_reducible refine (foretellref_secondAt.calls kj46 _ _ l0 x15_1 t312 _ ?side1 ?side2 A66.out).mono ?_); (case side1 => repeat (first | exact (Kd.C_below HR0.out HB.out) | (with_reducible refine Kd.C_alloc ?_ _) | (with_reducible refine Kd.C_drewN ?_ _) | (with_reducible refine Kd.C_drew ?_))); (case side2 => exact HC0.out); rintro e w' ⟨rfl, ⟨nd, rfl⟩⟩; refine ⟨_, rfl, ?_⟩; obtain ⟨Ao87, co87, eo87⟩ := Kd.R_slice HO_12.out; subst eo87; have p313 : 0 ≤ (t312 : Int) := of_decide_eq_true (by first | (with_reducible assumption) | assumption); have q313 : t312 < (t293.length : Int) := of_decide_eq_true (by first | (with_reducible assumption) | assumption); obtain ⟨ad313, e313, hx313_0⟩ := Kd.at_bool (Kd.R_reads' HO_12.out).2.2 t312 p313 q313; (try rw [← Nbq69.out] at hx313_0); (try rw [← Nbq74.out] at hx313_0); cases e313; replace p313 := eq_true p313; replace q313 := eq_true q313; have p314 : 0 ≤ ((ji71) : Int) := of_decide_eq_true (by first | (with_reducible assumption) | assumption); have q314 : (ji71) < (t293.length : Int) := of_decide_eq_true (by first | (with_reducible assumption) | assumption); obtain ⟨ad314, e314, hx314_0⟩ := Kd.at_bool (Kd.R_reads' HO_12.out).2.2 (ji71) p314 q314; (try rw [← Nbq69.out] at hx314_0); (try rw [← Nbq74.out] at hx314_0); obtain rfl : ad313 = ad314 := (by injection e314); replace p314 := eq_true p314; replace q314 := eq_true q314; obtain ⟨Ao88, co88, eo88⟩ := Kd.R_slice HO_14.out; subst eo88; have p316 : 0 ≤ (x15_1 : Int) := of_decide_eq_true (by first | (with_reducible assumption) | assumption); have q316 : x15_1 < (t297.length : Int) := of_decide_eq_true (by first | (with_reducible assumption) | assumption); obtain ⟨ad316, e316, hx316_0⟩ := Kd.at_bool (Kd.R_reads' HO_14.out).2.2 x15_1 p316 q316; (try rw [← Nbq69.out] at hx316_0); (try rw [← Nbq74.out] at hx316_0); cases e316; replace p316 := eq_true p316; replace q316 := eq_true q316; have p317 : 0 ≤ (x15_1 : Int) := of_decide_eq_true (by first | (with_reducible assumption) | assumption); have q317 : x15_1 < (t293.length : Int) := of_decide_eq_true (by first | (with_reducible assumption) | assumption); obtain ⟨ad317, e317, hx317_0⟩ := Kd.at_bool (Kd.R_reads' HO_12.out).2.2 x15_1 p317 q317; (try rw [← Nbq69.out] at hx317_0); (try rw [← Nbq74.out] at hx317_0); obtain rfl : ad313 = ad317 := (by injection e317); replace p317 := eq_true p317; replace q317 := eq_true q317))
                                                        go_roundg kj46
                                                        case measure => have := HK1.out; have := HJ16.out; have := HJ22.out; have := HJ34.out; have := HJ46.out; omega
                                                        case rel => exact ⟨(ji71), (by first | rfl | (simp; done) | (simp only [← hji71] <;> (first | rfl | simp)) | (simp [*]; done)), H', ⟨by have := HK1.out; have := HJ16.out; have := HJ22.out; have := HJ34.out; have := HJ46.out; omega⟩, ⟨by (with_reducible repeat (first | apply Kd.R_alloc | apply Kd.R_drewN | apply Kd.R_drew)); exact HO_12.out⟩, ⟨by (with_reducible repeat (first | apply Kd.R_alloc | apply Kd.R_drewN | apply Kd.R_drew)); exact HO_14.out⟩, ⟨by repeat (first | (with_reducible first | exact HB.out | apply below_alloc | apply pw_below_drewN | apply below_drew1) | exact HB.out)⟩⟩
                                                    · rw [if_neg c83] at H
                                                      exact absurd H (by simp)
                                                  · rw [if_neg c82] at H
                                                    exact absurd H (by simp)
                                                · rw [if_neg c81] at H
                                                  exact absurd H (by simp)
                                            · rw [if_neg c73] at H
                                              exact absurd H (by simp)
                                          · rw [if_neg c72] at H
                                            exact absurd H (by simp)
                                        · replace c70 := Bool.eq_false_iff.mpr c70
                                          subst c70
                                          have H1 : (if 0 ≤ x15_1 then (if x15_1 < (t293.length : Int) then (if ((rdOf false t293 x15_1) != false) = true then (some (false, 0)) else (foretellref_FollowsOn.l0 kj46 l0 t293 t297 (wrap64 (x15_1 + 1)))) else (none)) else (none)) = some (r1, r2) := by rw [if_neg (show ¬ (false = true) by decide)] at H; exact H
                                          clear H
                                          have H := H1
                                          clear H1
                                          by_cases c89 : 0 ≤ x15_1
                                          · rw [if_pos c89] at H
                                            have c89b0 : decide (0 ≤ x15_1) = true := decide_eq_true c89
                                            clear c89
                                            by_cases c90 : x15_1 < (t293.length : Int)
                                            · rw [if_pos c90] at H
                                              have c90b0 : decide (x15_1 < (t293.length : Int)) = true := decide_eq_true c90
                                              clear c90
                                              by_cases c91 : ((rdOf false t293 x15_1) != false) = true
                                              · rw [if_pos c91] at H
                                                have c91b0 : ((rdOf false t293 x15_1) != false) = true := c91
                                                (try (have c91b1 : decide ((rdOf false t293 x15_1) = false) = false := by simpa using c91))
                                                (try (have c91b2 : ((rdOf false t293 x15_1) == false) = false := by simpa using c91))
                                                (try (have c91b3 : ¬ ((rdOf false t293 x15_1) = false) := by simpa using c91))
                                                clear c91
                                                simp only [Option.some.injEq, Prod.mk.injEq] at H
                                                obtain ⟨rfl, rfl⟩ := H
                                                go_wp2_with (first | ((with_reducible refine gate_callee (f := 58) rfl ?_); refine goesL_ (some 116) rfl rfl Tryd.func58 (by kernel_rfl) rfl #[.slice (some ad301) l0.length c0, .int .i64 x15_1] rfl (by (try simp only [List.map_toArray, List.map_cons, List.map_nil]); first | done | rfl | (simp only [List.length_drop, List.length_take]; rfl)) ?_; (with_reducible refine (foretellref_secondAt.calls kj46 _ _ l0 x15_1 t312 _ ?side1 ?side2 A66.out).mono ?_); (case side1 => repeat (first | exact (Kd.C_below HR0.out HB.out) | (with_reducible refine Kd.C_alloc ?_ _) | (with_reducible refine Kd.C_drewN ?_ _) | (with_reducible refine Kd.C_drew ?_))); (case side2 => exact HC0.out); rintro e w' ⟨rfl, ⟨nd, rfl⟩⟩; refine ⟨_, rfl, ?_⟩; obtain ⟨Ao92, co92, eo92⟩ := Kd.R_slice HO_12.out; subst eo92; have p313 : 0 ≤ (t312 : Int) := of_decide_eq_true (by first | (with_reducible assumption) | assumption); have q313 : t312 < (t293.length : Int) := of_decide_eq_true (by first | (with_reducible assumption) | assumption); obtain ⟨ad313, e313, hx313_0⟩ := Kd.at_bool (Kd.R_reads' HO_12.out).2.2 t312 p313 q313; (try rw [← Nbq69.out] at hx313_0); cases e313; replace p313 := eq_true p313; replace q313 := eq_true q313; have p318 : 0 ≤ (x15_1 : Int) := of_decide_eq_true (by first | (with_reducible assumption) | assumption); have q318 : x15_1 < (t293.length : Int) := of_decide_eq_true (by first | (with_reducible assumption) | assumption); obtain ⟨ad318, e318, hx318_0⟩ := Kd.at_bool (Kd.R_reads' HO_12.out).2.2 x15_1 p318 q318; (try rw [← Nbq69.out] at hx318_0); obtain rfl : ad313 = ad318 := (by injection e318); replace p318 := eq_true p318; replace q318 := eq_true q318))
                                                go_ret2
                                                exact ⟨by first | rfl | (simp [errW_none, errW_some] <;> rfl) | (simp [*, errW_none, errW_some] <;> rfl), by repeat (first | (with_reducible first | exact HB.out | apply below_alloc | apply pw_below_drewN | apply below_drew1) | exact HB.out)⟩
                                              · rw [if_neg c91] at H
                                                have c91b0 : ((rdOf false t293 x15_1) != false) = false := by simpa using c91
                                                (try (have c91b1 : decide ((rdOf false t293 x15_1) = false) = true := by simpa using c91))
                                                (try (have c91b2 : ((rdOf false t293 x15_1) == false) = true := by simpa using c91))
                                                clear c91
                                                have H' := Aside0.mk H
                                                clear H
                                                go_wp2_with (first | ((with_reducible refine gate_callee (f := 58) rfl ?_); refine goesL_ (some 116) rfl rfl Tryd.func58 (by kernel_rfl) rfl #[.slice (some ad301) l0.length c0, .int .i64 x15_1] rfl (by (try simp only [List.map_toArray, List.map_cons, List.map_nil]); first | done | rfl | (simp only [List.length_drop, List.length_take]; rfl)) ?_; (with_reducible refine (foretellref_secondAt.calls kj46 _ _ l0 x15_1 t312 _ ?side1 ?side2 A66.out).mono ?_); (case side1 => repeat (first | exact (Kd.C_below HR0.out HB.out) | (with_reducible refine Kd.C_alloc ?_ _) | (with_reducible refine Kd.C_drewN ?_ _) | (with_reducible refine Kd.C_drew ?_))); (case side2 => exact HC0.out); rintro e w' ⟨rfl, ⟨nd, rfl⟩⟩; refine ⟨_, rfl, ?_⟩; obtain ⟨Ao93, co93, eo93⟩ := Kd.R_slice HO_12.out; subst eo93; have p313 : 0 ≤ (t312 : Int) := of_decide_eq_true (by first | (with_reducible assumption) | assumption); have q313 : t312 < (t293.length : Int) := of_decide_eq_true (by first | (with_reducible assumption) | assumption); obtain ⟨ad313, e313, hx313_0⟩ := Kd.at_bool (Kd.R_reads' HO_12.out).2.2 t312 p313 q313; (try rw [← Nbq69.out] at hx313_0); cases e313; replace p313 := eq_true p313; replace q313 := eq_true q313; have p318 : 0 ≤ (x15_1 : Int) := of_decide_eq_true (by first | (with_reducible assumption) | assumption); have q318 : x15_1 < (t293.length : Int) := of_decide_eq_true (by first | (with_reducible assumption) | assumption); obtain ⟨ad318, e318, hx318_0⟩ := Kd.at_bool (Kd.R_reads' HO_12.out).2.2 x15_1 p318 q318; (try rw [← Nbq69.out] at hx318_0); obtain rfl : ad313 = ad318 := (by injection e318); replace p318 := eq_true p318; replace q318 := eq_true q318))
                                                go_roundg kj46
                                                case measure => have := HK1.out; have := HJ16.out; have := HJ22.out; have := HJ34.out; have := HJ46.out; omega
                                                case rel => exact ⟨(wrap64 (x15_1 + 1)), (by first | rfl | (simp; done) | (simp [*]; done)), H', ⟨by have := HK1.out; have := HJ16.out; have := HJ22.out; have := HJ34.out; have := HJ46.out; omega⟩, ⟨by (with_reducible repeat (first | apply Kd.R_alloc | apply Kd.R_drewN | apply Kd.R_drew)); exact HO_12.out⟩, ⟨by (with_reducible repeat (first | apply Kd.R_alloc | apply Kd.R_drewN | apply Kd.R_drew)); exact HO_14.out⟩, ⟨by repeat (first | (with_reducible first | exact HB.out | apply below_alloc | apply pw_below_drewN | apply below_drew1) | exact HB.out)⟩⟩
                                            · rw [if_neg c90] at H
                                              exact absurd H (by simp)
                                          · rw [if_neg c89] at H
                                            exact absurd H (by simp)
                                      · rw [if_neg c68] at H
                                        exact absurd H (by simp)
                                    · rw [if_neg c67] at H
                                      exact absurd H (by simp)
                                  · rw [if_neg c65] at H
                                    have c65b0 : (((rd_T63 l0 x15_1).f0) == 16) = false := beq_eq_false_iff_ne.mpr c65
                                    have c65b1 : (((rd_T63 l0 x15_1).f0) != 16) = true := bne_iff_ne.mpr c65
                                    by_cases c94 : 0 ≤ x15_1
                                    · rw [if_pos c94] at H
                                      have c94b0 : decide (0 ≤ x15_1) = true := decide_eq_true c94
                                      clear c94
                                      by_cases c95 : x15_1 < (t293.length : Int)
                                      · rw [if_pos c95] at H
                                        have c95b0 : decide (x15_1 < (t293.length : Int)) = true := decide_eq_true c95
                                        clear c95
                                        by_cases c96 : ((rdOf false t293 x15_1) != x17_46) = true
                                        · rw [if_pos c96] at H
                                          have c96b0 : ((rdOf false t293 x15_1) != x17_46) = true := c96
                                          (try (have c96b1 : decide ((rdOf false t293 x15_1) = x17_46) = false := by simpa using c96))
                                          (try (have c96b2 : ((rdOf false t293 x15_1) == x17_46) = false := by simpa using c96))
                                          (try (have c96b3 : ¬ ((rdOf false t293 x15_1) = x17_46) := by simpa using c96))
                                          clear c96
                                          simp only [Option.some.injEq, Prod.mk.injEq] at H
                                          obtain ⟨rfl, rfl⟩ := H
                                          obtain ⟨Ao97, co97, eo97⟩ := Kd.R_slice HO_12.out
                                          subst eo97
                                          have p319 : 0 ≤ (x15_1 : Int) := of_decide_eq_true (by first | (with_reducible assumption) | assumption)
                                          have q319 : x15_1 < (t293.length : Int) := of_decide_eq_true (by first | (with_reducible assumption) | assumption)
                                          (try (obtain ⟨A_, c_, e_⟩ := Kd.R_slice HO_12.out; subst e_))
                                          obtain ⟨ad319, e319, hx319_0⟩ := Kd.at_bool (Kd.R_reads' HO_12.out).2.2 x15_1 p319 q319
                                          cases e319
                                          replace p319 := eq_true p319
                                          replace q319 := eq_true q319
                                          go_wp2
                                          go_ret2
                                          exact ⟨by first | rfl | (simp [errW_none, errW_some] <;> rfl) | (simp [*, errW_none, errW_some] <;> rfl), by repeat (first | (with_reducible first | exact HB.out | apply below_alloc | apply pw_below_drewN | apply below_drew1) | exact HB.out)⟩
                                        · rw [if_neg c96] at H
                                          have c96b0 : ((rdOf false t293 x15_1) != x17_46) = false := by simpa using c96
                                          (try (have c96b1 : decide ((rdOf false t293 x15_1) = x17_46) = true := by simpa using c96))
                                          (try (have c96b2 : ((rdOf false t293 x15_1) == x17_46) = true := by simpa using c96))
                                          clear c96
                                          have H' := Aside0.mk H
                                          clear H
                                          obtain ⟨Ao98, co98, eo98⟩ := Kd.R_slice HO_12.out
                                          subst eo98
                                          have p319 : 0 ≤ (x15_1 : Int) := of_decide_eq_true (by first | (with_reducible assumption) | assumption)
                                          have q319 : x15_1 < (t293.length : Int) := of_decide_eq_true (by first | (with_reducible assumption) | assumption)
                                          (try (obtain ⟨A_, c_, e_⟩ := Kd.R_slice HO_12.out; subst e_))
                                          obtain ⟨ad319, e319, hx319_0⟩ := Kd.at_bool (Kd.R_reads' HO_12.out).2.2 x15_1 p319 q319
                                          cases e319
                                          replace p319 := eq_true p319
                                          replace q319 := eq_true q319
                                          go_wp2
                                          go_roundg kj46
                                          case measure => have := HK1.out; have := HJ16.out; have := HJ22.out; have := HJ34.out; have := HJ46.out; omega
                                          case rel => exact ⟨(wrap64 (x15_1 + 1)), (by first | rfl | (simp; done) | (simp [*]; done)), H', ⟨by have := HK1.out; have := HJ16.out; have := HJ22.out; have := HJ34.out; have := HJ46.out; omega⟩, ⟨by (with_reducible repeat (first | apply Kd.R_alloc | apply Kd.R_drewN | apply Kd.R_drew)); exact HO_12.out⟩, ⟨by (with_reducible repeat (first | apply Kd.R_alloc | apply Kd.R_drewN | apply Kd.R_drew)); exact HO_14.out⟩, ⟨by repeat (first | (with_reducible first | exact HB.out | apply below_alloc | apply pw_below_drewN | apply below_drew1) | exact HB.out)⟩⟩
                                      · rw [if_neg c95] at H
                                        exact absurd H (by simp)
                                    · rw [if_neg c94] at H
                                      exact absurd H (by simp)
                · replace c16 := Bool.eq_false_iff.mpr c16
                  subst c16
                  have H1 : (foretellref_FollowsOn.l0 k1 l0 t293 t297 (wrap64 (x15_1 + 1))) = some (r1, r2) := by rw [if_neg (show ¬ (false = true) by decide)] at H; exact H
                  clear H
                  have H := H1
                  clear H1
                  have H' := Aside0.mk H
                  clear H
                  have p301 : 0 ≤ (x15_1 : Int) := of_decide_eq_true (by first | (with_reducible assumption) | assumption)
                  have q301 : x15_1 < (l0.length : Int) := of_decide_eq_true (by first | (with_reducible assumption) | assumption)
                  obtain ⟨ad301, e301, hx301_0, hx301_1⟩ := at_T63 HR0.out x15_1 p301 q301
                  cases e301
                  replace hx301_0 := (HB.out.cell (World.block_lt_of_cell? w _ hx301_0)).trans hx301_0
                  replace hx301_1 := (HB.out.cell (World.block_lt_of_cell? w _ hx301_1)).trans hx301_1
                  replace p301 := eq_true p301
                  replace q301 := eq_true q301
                  go_wp2_with (first | ((with_reducible refine gate_callee (f := 50) rfl ?_); refine goesL_ (some 55) rfl rfl Tryd.func50 (by kernel_rfl) rfl #[.int .i64 ((rd_T63 l0 x15_1).f0)] rfl (by (try simp only [List.map_toArray, List.map_cons, List.map_nil]); first | done | rfl | (simp only [List.length_drop, List.length_take]; rfl)) ?_; (with_reducible refine (foretellref_looksAhead.calls ((rd_T63 l0 x15_1).f0) false _ A15.out).mono ?_); rintro e w' ⟨rfl, ⟨nd, rfl⟩⟩; refine ⟨_, rfl, ?_⟩))
                  go_roundg k1
                  case measure => have := HK1.out; omega
                  case rel => exact ⟨(wrap64 (x15_1 + 1)), (by first | rfl | (simp; done) | (simp [*]; done)), H', ⟨by have := HK1.out; omega⟩, ⟨by (with_reducible repeat (first | apply Kd.R_alloc | apply Kd.R_drewN | apply Kd.R_drew)); exact HO_12.out⟩, ⟨by (with_reducible repeat (first | apply Kd.R_alloc | apply Kd.R_drewN | apply Kd.R_drew)); exact HO_14.out⟩, ⟨by repeat (first | (with_reducible first | exact HB.out | apply below_alloc | apply pw_below_drewN | apply below_drew1) | exact HB.out)⟩⟩
              · rw [if_neg c14] at H
                exact absurd H (by simp)
            · rw [if_neg c13] at H
              have c13b0 : decide (x15_1 < (l0.length : Int)) = false := decide_eq_false c13
              clear c13
              simp only [Option.some.injEq, Prod.mk.injEq] at H
              obtain ⟨rfl, rfl⟩ := H
              go_wp2
              go_ret2
              exact ⟨by first | rfl | (simp [errW_none, errW_some] <;> rfl) | (simp [*, errW_none, errW_some] <;> rfl), by repeat (first | (with_reducible first | exact HB.out | apply below_alloc | apply pw_below_drewN | apply below_drew1) | exact HB.out)⟩
      · rw [if_neg c10] at H
        have c10b0 : (t298 == 0) = false := beq_eq_false_iff_ne.mpr c10
        have c10b1 : (t298 != 0) = true := bne_iff_ne.mpr c10
        simp only [Option.some.injEq, Prod.mk.injEq] at H
        obtain ⟨rfl, rfl⟩ := H
        go_enter Tryd.func39, Tryd.ntmps39
        go_wp2_with (first | ((with_reducible refine gate_callee (f := 34) rfl ?_); refine goesL_ (some 27) rfl rfl Tryd.func34 (by kernel_rfl) rfl #[.slice A0 l0.length c0, .slice A1 l1.length c1, .int .i64 a2] rfl (by (try simp only [List.map_toArray, List.map_cons, List.map_nil]); first | done | rfl | (simp only [List.length_drop, List.length_take]; rfl)) ?_; (with_reducible refine (foretellref_TruthsOf.calls k _ _ l0 _ _ l1 a2 t293 t294 _ ?side1 ?side2 ?side3 ?side4 A7.out).mono ?_); (case side1 => repeat (first | exact HR0.out | (with_reducible refine Kd.C_alloc ?_ _) | (with_reducible refine Kd.C_drewN ?_ _) | (with_reducible refine Kd.C_drew ?_))); (case side2 => exact HC0.out); (case side3 => repeat (first | exact HR1.out | (with_reducible refine Kd.C_alloc ?_ _) | (with_reducible refine Kd.C_drewN ?_ _) | (with_reducible refine Kd.C_drew ?_))); (case side4 => exact HC1.out); rintro e w99 ⟨v295, rfl, ho0, hb⟩; refine ⟨_, rfl, ?_⟩; have n0_ := Aside0.mk (Kd.R_lower ho0 (below_size (by repeat (first | (with_reducible first | exact HB.out | apply below_alloc | apply pw_below_drewN | apply below_drew1) | exact HB.out)))); have n1_ := Aside0.mk (below_step (by repeat (first | (with_reducible first | exact HB.out | apply below_alloc | apply pw_below_drewN | apply below_drew1) | exact HB.out)) hb); clear HB; have HO296 := n0_; have HB := n1_; clear n0_ n1_; (try clear hb); (try clear hb2); (try clear hk); (try clear hi); (try clear ho0)) | ((with_reducible refine gate_callee (f := 34) rfl ?_); refine goesL_ (some 37) rfl rfl Tryd.func34 (by kernel_rfl) rfl #[.slice A0 l0.length c0, .slice A3 l3.length c3, .int .i64 a4] rfl (by (try simp only [List.map_toArray, List.map_cons, List.map_nil]); first | done | rfl | (simp only [List.length_drop, List.length_take]; rfl)) ?_; (with_reducible refine (foretellref_TruthsOf.calls k _ _ l0 _ _ l3 a4 t297 t298 _ ?side1 ?side2 ?side3 ?side4 A9.out).mono ?_); (case side1 => repeat (first | exact (Kd.C_below HR0.out HB.out) | (with_reducible refine Kd.C_alloc ?_ _) | (with_reducible refine Kd.C_drewN ?_ _) | (with_reducible refine Kd.C_drew ?_))); (case side2 => exact HC0.out); (case side3 => repeat (first | exact (Kd.C_below HR3.out HB.out) | (with_reducible refine Kd.C_alloc ?_ _) | (with_reducible refine Kd.C_drewN ?_ _) | (with_reducible refine Kd.C_drew ?_))); (case side4 => exact HC3.out); rintro e w100 ⟨v299, rfl, ho0, hb⟩; refine ⟨_, rfl, ?_⟩; have n0_ := Aside0.mk (Kd.R_elder' (by (with_reducible repeat (first | apply Kd.R_alloc | apply Kd.R_drewN | apply Kd.R_drew)); exact HO296.out) (Kd.R_base ho0) hb); have n1_ := Aside0.mk (Kd.R_lower (Kd.R_new' ho0 (Kd.R_lt (by (with_reducible repeat (first | apply Kd.R_alloc | apply Kd.R_drewN | apply Kd.R_drew)); exact HO296.out))) (below_size (by repeat (first | (with_reducible first | exact HB.out | apply below_alloc | apply pw_below_drewN | apply below_drew1) | exact HB.out)))); have n2_ := Aside0.mk (below_step (by repeat (first | (with_reducible first | exact HB.out | apply below_alloc | apply pw_below_drewN | apply below_drew1) | exact HB.out)) hb); clear HO296; clear HB; have HO296 := n0_; have HO300 := n1_; have HB := n2_; clear n0_ n1_ n2_; (try clear hb); (try clear hb2); (try clear hk); (try clear hi); (try clear ho0)))
        go_ret2
        exact ⟨by first | rfl | (simp [errW_none, errW_some] <;> rfl) | (simp [*, errW_none, errW_some] <;> rfl), by repeat (first | (with_reducible first | exact HB.out | apply below_alloc | apply pw_below_drewN | apply below_drew1) | exact HB.out)⟩
    · rw [if_neg c8] at H
      have c8b0 : (t294 == 0) = false := beq_eq_false_iff_ne.mpr c8
      have c8b1 : (t294 != 0) = true := bne_iff_ne.mpr c8
      simp only [Option.some.injEq, Prod.mk.injEq] at H
      obtain ⟨rfl, rfl⟩ := H
      go_enter Tryd.func39, Tryd.ntmps39
      go_wp2_with (first | ((with_reducible refine gate_callee (f := 34) rfl ?_); refine goesL_ (some 27) rfl rfl Tryd.func34 (by kernel_rfl) rfl #[.slice A0 l0.length c0, .slice A1 l1.length c1, .int .i64 a2] rfl (by (try simp only [List.map_toArray, List.map_cons, List.map_nil]); first | done | rfl | (simp only [List.length_drop, List.length_take]; rfl)) ?_; (with_reducible refine (foretellref_TruthsOf.calls k _ _ l0 _ _ l1 a2 t293 t294 _ ?side1 ?side2 ?side3 ?side4 A7.out).mono ?_); (case side1 => repeat (first | exact HR0.out | (with_reducible refine Kd.C_alloc ?_ _) | (with_reducible refine Kd.C_drewN ?_ _) | (with_reducible refine Kd.C_drew ?_))); (case side2 => exact HC0.out); (case side3 => repeat (first | exact HR1.out | (with_reducible refine Kd.C_alloc ?_ _) | (with_reducible refine Kd.C_drewN ?_ _) | (with_reducible refine Kd.C_drew ?_))); (case side4 => exact HC1.out); rintro e w101 ⟨v295, rfl, ho0, hb⟩; refine ⟨_, rfl, ?_⟩; have n0_ := Aside0.mk (Kd.R_lower ho0 (below_size (by repeat (first | (with_reducible first | exact HB.out | apply below_alloc | apply pw_below_drewN | apply below_drew1) | exact HB.out)))); have n1_ := Aside0.mk (below_step (by repeat (first | (with_reducible first | exact HB.out | apply below_alloc | apply pw_below_drewN | apply below_drew1) | exact HB.out)) hb); clear HB; have HO296 := n0_; have HB := n1_; clear n0_ n1_; (try clear hb); (try clear hb2); (try clear hk); (try clear hi); (try clear ho0)))
      go_ret2
      exact ⟨by first | rfl | (simp [errW_none, errW_some] <;> rfl) | (simp [*, errW_none, errW_some] <;> rfl), by repeat (first | (with_reducible first | exact HB.out | apply below_alloc | apply pw_below_drewN | apply below_drew1) | exact HB.out)⟩
  · rw [if_neg c6] at H
    have c6b0 : ((l1.length : Int) == (l3.length : Int)) = false := beq_eq_false_iff_ne.mpr c6
    have c6b1 : ((l1.length : Int) != (l3.length : Int)) = true := bne_iff_ne.mpr c6
    have c6b2 : (l1.length == l3.length) = false := by first | simpa using c6 | (simp at c6 ⊢; omega)
    simp only [Option.some.injEq, Prod.mk.injEq] at H
    obtain ⟨rfl, rfl⟩ := H
    go_enter Tryd.func39, Tryd.ntmps39
    go_wp2
    go_ret2
    exact ⟨by first | rfl | (simp [errW_none, errW_some] <;> rfl) | (simp [*, errW_none, errW_some] <;> rfl), by repeat (first | (with_reducible first | exact HB.out | apply below_alloc | apply pw_below_drewN | apply below_drew1) | exact HB.out)⟩

/-! ### foretelllaw_LogicFollows: function 12 -/
def foretelllaw_LogicFollows.f (k : Nat) (l0 : List (S63)) (l1 : List Bool) (a2 : Int) (l3 : List Bool) (a4 : Int) : Option (Bool) := (foretelllaw_ops.f l0).bind fun t320 => ((foretelllaw_truths.f l1).bind fun t323 => ((foretelllaw_truths.f l3).bind fun t326 => ((logic_Follows.f k t320 t323 a2 t326 a4).bind fun bt329 => ((foretellref_FollowsOn.f k l0 l1 a2 l3 a4).bind fun bt331 => (if (bt329.1 == bt331.1) = true then (some (bt329.2 == bt331.2)) else (some false))))))
theorem foretelllaw_LogicFollows.mono : ∀ a0 a1 a2 a3 a4 k, LeO (foretelllaw_LogicFollows.f k a0 a1 a2 a3 a4) (foretelllaw_LogicFollows.f (k + 1) a0 a1 a2 a3 a4) := by
  intro a0 a1 a2 a3 a4 k
  unfold foretelllaw_LogicFollows.f
  repeat' first
      | (with_reducible exact foretellref_FollowsOn.mono _ _ _ _ _ _)
      | (with_reducible exact logic_Follows.mono _ _ _ _ _ _)
      | (with_reducible exact LeO.refl _)
      | (with_reducible exact LeO.none _)
      | (with_reducible refine LeO.ite ?_ ?_)
      | (with_reducible refine LeO.bind ?_ (fun _ => ?_))
      | exact foretellref_FollowsOn.mono _ _ _ _ _ _
      | exact logic_Follows.mono _ _ _ _ _ _
      | exact LeO.none _
      | refine LeO.ite ?_ ?_
      | refine LeO.bind ?_ (fun _ => ?_)
set_option maxHeartbeats 8000000 in
set_option maxRecDepth 100000 in
theorem foretelllaw_LogicFollows.calls (k : Nat) (A0 : Option Addr) (c0 : Nat) (l0 : List (S63)) (A1 : Option Addr) (c1 : Nat) (l1 : List Bool) (a2 : Int) (A3 : Option Addr) (c3 : Nat) (l3 : List Bool) (a4 : Int) (r : Bool) (w : World) (hr0 : Kd.C k63 w A0 l0.length l0) (hc0 : l0.length ≤ c0) (hr1 : Kd.C Kd.bool w A1 l1.length l1) (hc1 : l1.length ≤ c1) (hr3 : Kd.C Kd.bool w A3 l3.length l3) (hc3 : l3.length ≤ c3) (hL : LaidG w) (h : foretelllaw_LogicFollows.f k l0 l1 a2 l3 a4 = some r) :
    Calls Tryd.prog 12 #[.slice A0 l0.length c0, .slice A1 l1.length c1, .int .i64 a2, .slice A3 l3.length c3, .int .i64 a4] w fun e w' => e = .returned (.bool r) ∧ Below w.heap.size w w' := by
  have HLd := Aside0.mk hL
  clear hL
  have HR0 := Aside0.mk hr0
  have HC0 := Aside0.mk hc0
  clear hr0 hc0
  have HR1 := Aside0.mk hr1
  have HC1 := Aside0.mk hc1
  clear hr1 hc1
  have HR3 := Aside0.mk hr3
  have HC3 := Aside0.mk hc3
  clear hr3 hc3
  have HB := Aside0.mk (Below.refl w.heap.size w)
  have H : ((foretelllaw_ops.f l0).bind fun t320 => ((foretelllaw_truths.f l1).bind fun t323 => ((foretelllaw_truths.f l3).bind fun t326 => ((logic_Follows.f k t320 t323 a2 t326 a4).bind fun bt329 => ((foretellref_FollowsOn.f k l0 l1 a2 l3 a4).bind fun bt331 => (if (bt329.1 == bt331.1) = true then (some (bt329.2 == bt331.2)) else (some false))))))) = some r := h
  clear h
  replace H := Option.bind_eq_some_iff.mp H
  obtain ⟨t320, A60, H⟩ := H
  replace H : ((foretelllaw_truths.f l1).bind fun t323 => ((foretelllaw_truths.f l3).bind fun t326 => ((logic_Follows.f k t320 t323 a2 t326 a4).bind fun bt329 => ((foretellref_FollowsOn.f k l0 l1 a2 l3 a4).bind fun bt331 => (if (bt329.1 == bt331.1) = true then (some (bt329.2 == bt331.2)) else (some false)))))) = some r := H
  have A6 := Aside0.mk A60
  clear A60
  replace H := Option.bind_eq_some_iff.mp H
  obtain ⟨t323, A70, H⟩ := H
  replace H : ((foretelllaw_truths.f l3).bind fun t326 => ((logic_Follows.f k t320 t323 a2 t326 a4).bind fun bt329 => ((foretellref_FollowsOn.f k l0 l1 a2 l3 a4).bind fun bt331 => (if (bt329.1 == bt331.1) = true then (some (bt329.2 == bt331.2)) else (some false))))) = some r := H
  have A7 := Aside0.mk A70
  clear A70
  replace H := Option.bind_eq_some_iff.mp H
  obtain ⟨t326, A80, H⟩ := H
  replace H : ((logic_Follows.f k t320 t323 a2 t326 a4).bind fun bt329 => ((foretellref_FollowsOn.f k l0 l1 a2 l3 a4).bind fun bt331 => (if (bt329.1 == bt331.1) = true then (some (bt329.2 == bt331.2)) else (some false)))) = some r := H
  have A8 := Aside0.mk A80
  clear A80
  replace H := Option.bind_eq_some_iff.mp H
  obtain ⟨⟨t329, t330⟩, A90, H⟩ := H
  replace H : ((foretellref_FollowsOn.f k l0 l1 a2 l3 a4).bind fun bt331 => (if (t329 == bt331.1) = true then (some (t330 == bt331.2)) else (some false))) = some r := H
  have A9 := Aside0.mk A90
  clear A90
  replace H := Option.bind_eq_some_iff.mp H
  obtain ⟨⟨t331, t332⟩, A100, H⟩ := H
  replace H : (if (t329 == t331) = true then (some (t330 == t332)) else (some false)) = some r := H
  have A10 := Aside0.mk A100
  clear A100
  by_cases c11 : (t329 == t331) = true
  · rw [if_pos c11] at H
    have c11b0 : (t329 == t331) = true := c11
    (try (have c11b1 : decide (t329 = t331) = true := by simpa using c11))
    (try (have c11b2 : (t329 == t331) = true := by simpa using c11))
    clear c11
    obtain rfl := Option.some.inj H
    go_enter Tryd.func12, Tryd.ntmps12
    go_wp2_with (first | ((with_reducible refine gate_callee (f := 16) rfl ?_); refine goesL_ (some 17) rfl rfl Tryd.func16 (by kernel_rfl) rfl #[.slice A0 l0.length c0] rfl (by (try simp only [List.map_toArray, List.map_cons, List.map_nil]); first | done | rfl | (simp only [List.length_drop, List.length_take]; rfl)) ?_; (with_reducible refine (foretelllaw_ops.calls _ _ l0 t320 _ ?side1 ?side2 A6.out).mono ?_); (case side1 => repeat (first | exact HR0.out | (with_reducible refine Kd.C_alloc ?_ _) | (with_reducible refine Kd.C_drewN ?_ _) | (with_reducible refine Kd.C_drew ?_))); (case side2 => exact HC0.out); rintro e w12 ⟨v321, rfl, ho0, hb⟩; refine ⟨_, rfl, ?_⟩; have n0_ := Aside0.mk (Kd.R_lower ho0 (below_size (by repeat (first | (with_reducible first | exact HB.out | apply below_alloc | apply pw_below_drewN | apply below_drew1) | exact HB.out)))); have n1_ := Aside0.mk (below_step (by repeat (first | (with_reducible first | exact HB.out | apply below_alloc | apply pw_below_drewN | apply below_drew1) | exact HB.out)) hb); clear HB; have HO322 := n0_; have HB := n1_; clear n0_ n1_; (try clear hb); (try clear hb2); (try clear hk); (try clear hi); (try clear ho0)) | ((with_reducible refine gate_callee (f := 32) rfl ?_); refine goesL_ (some 19) rfl rfl Tryd.func32 (by kernel_rfl) rfl #[.slice A1 l1.length c1] rfl (by (try simp only [List.map_toArray, List.map_cons, List.map_nil]); first | done | rfl | (simp only [List.length_drop, List.length_take]; rfl)) ?_; (with_reducible refine (foretelllaw_truths.calls _ _ l1 t323 _ ?side1 ?side2 A7.out).mono ?_); (case side1 => repeat (first | exact (Kd.C_below HR1.out HB.out) | (with_reducible refine Kd.C_alloc ?_ _) | (with_reducible refine Kd.C_drewN ?_ _) | (with_reducible refine Kd.C_drew ?_))); (case side2 => exact HC1.out); rintro e w13 ⟨v324, rfl, ho0, hb⟩; refine ⟨_, rfl, ?_⟩; have n0_ := Aside0.mk (Kd.R_below (by (with_reducible repeat (first | apply Kd.R_alloc | apply Kd.R_drewN | apply Kd.R_drew)); exact HO322.out) hb); have n1_ := Aside0.mk (Kd.R_lower ho0 (below_size (by repeat (first | (with_reducible first | exact HB.out | apply below_alloc | apply pw_below_drewN | apply below_drew1) | exact HB.out)))); have n2_ := Aside0.mk (below_step (by repeat (first | (with_reducible first | exact HB.out | apply below_alloc | apply pw_below_drewN | apply below_drew1) | exact HB.out)) hb); clear HO322; clear HB; have HO322 := n0_; have HO325 := n1_; have HB := n2_; clear n0_ n1_ n2_; (try clear hb); (try clear hb2); (try clear hk); (try clear hi); (try clear ho0)) | ((with_reducible refine gate_callee (f := 32) rfl ?_); refine goesL_ (some 22) rfl rfl Tryd.func32 (by kernel_rfl) rfl #[.slice A3 l3.length c3] rfl (by (try simp only [List.map_toArray, List.map_cons, List.map_nil]); first | done | rfl | (simp only [List.length_drop, List.length_take]; rfl)) ?_; (with_reducible refine (foretelllaw_truths.calls _ _ l3 t326 _ ?side1 ?side2 A8.out).mono ?_); (case side1 => repeat (first | exact (Kd.C_below HR3.out HB.out) | (with_reducible refine Kd.C_alloc ?_ _) | (with_reducible refine Kd.C_drewN ?_ _) | (with_reducible refine Kd.C_drew ?_))); (case side2 => exact HC3.out); rintro e w14 ⟨v327, rfl, ho0, hb⟩; refine ⟨_, rfl, ?_⟩; have n0_ := Aside0.mk (Kd.R_below (by (with_reducible repeat (first | apply Kd.R_alloc | apply Kd.R_drewN | apply Kd.R_drew)); exact HO322.out) hb); have n1_ := Aside0.mk (Kd.R_elder' (by (with_reducible repeat (first | apply Kd.R_alloc | apply Kd.R_drewN | apply Kd.R_drew)); exact HO325.out) (Kd.R_base ho0) hb); have n2_ := Aside0.mk (Kd.R_lower (Kd.R_new' ho0 (Kd.R_lt (by (with_reducible repeat (first | apply Kd.R_alloc | apply Kd.R_drewN | apply Kd.R_drew)); exact HO325.out))) (below_size (by repeat (first | (with_reducible first | exact HB.out | apply below_alloc | apply pw_below_drewN | apply below_drew1) | exact HB.out)))); have n3_ := Aside0.mk (below_step (by repeat (first | (with_reducible first | exact HB.out | apply below_alloc | apply pw_below_drewN | apply below_drew1) | exact HB.out)) hb); clear HO322; clear HO325; clear HB; have HO322 := n0_; have HO325 := n1_; have HO328 := n2_; have HB := n3_; clear n0_ n1_ n2_ n3_; (try clear hb); (try clear hb2); (try clear hk); (try clear hi); (try clear ho0); obtain ⟨Ao15, co15, eo15⟩ := Kd.R_slice HO322.out; subst eo15; obtain ⟨Ao16, co16, eo16⟩ := Kd.R_slice HO325.out; subst eo16; obtain ⟨Ao17, co17, eo17⟩ := Kd.R_slice HO328.out; subst eo17) | ((with_reducible refine gate_callee (f := 38) rfl ?_); refine goesL_ (some 24) rfl rfl Tryd.func38 (by kernel_rfl) rfl #[.slice Ao15 t320.length co15, .slice Ao16 t323.length co16, .int .i64 a2, .slice Ao17 t326.length co17, .int .i64 a4] rfl (by (try simp only [List.map_toArray, List.map_cons, List.map_nil]); first | done | rfl | (simp only [List.length_drop, List.length_take]; rfl)) ?_; (with_reducible refine (logic_Follows.calls k _ _ t320 _ _ t323 a2 _ _ t326 a4 t329 t330 _ ?side1 ?side2 ?side3 ?side4 ?side5 ?side6 ?side7 A9.out).mono ?_); (case side1 => repeat (first | exact (Kd.R_reads' HO322.out).2.2 | (with_reducible refine Kd.C_alloc ?_ _) | (with_reducible refine Kd.C_drewN ?_ _) | (with_reducible refine Kd.C_drew ?_))); (case side2 => exact (Kd.R_reads' HO322.out).2.1); (case side3 => repeat (first | exact (Kd.R_reads' HO325.out).2.2 | (with_reducible refine Kd.C_alloc ?_ _) | (with_reducible refine Kd.C_drewN ?_ _) | (with_reducible refine Kd.C_drew ?_))); (case side4 => exact (Kd.R_reads' HO325.out).2.1); (case side5 => repeat (first | exact (Kd.R_reads' HO328.out).2.2 | (with_reducible refine Kd.C_alloc ?_ _) | (with_reducible refine Kd.C_drewN ?_ _) | (with_reducible refine Kd.C_drew ?_))); (case side6 => exact (Kd.R_reads' HO328.out).2.1); (case side7 => first | (refine LaidG.below HLd.out ?_; repeat (first | (with_reducible exact HB.out) | (with_reducible exact Below.refl _ _) | apply below_alloc | apply pw_below_drewN | apply below_drew1); done) | exact LaidG.below HLd.out (by repeat (first | (with_reducible first | exact HB.out | apply below_alloc | apply pw_below_drewN | apply below_drew1) | exact HB.out))); rintro e w18 ⟨rfl, hb⟩; refine ⟨_, rfl, ?_⟩; have n0_ := Aside0.mk (Kd.R_below (by (with_reducible repeat (first | apply Kd.R_alloc | apply Kd.R_drewN | apply Kd.R_drew)); exact HO322.out) hb); have n1_ := Aside0.mk (Kd.R_below (by (with_reducible repeat (first | apply Kd.R_alloc | apply Kd.R_drewN | apply Kd.R_drew)); exact HO325.out) hb); have n2_ := Aside0.mk (Kd.R_below (by (with_reducible repeat (first | apply Kd.R_alloc | apply Kd.R_drewN | apply Kd.R_drew)); exact HO328.out) hb); have n3_ := Aside0.mk (below_step (by repeat (first | (with_reducible first | exact HB.out | apply below_alloc | apply pw_below_drewN | apply below_drew1) | exact HB.out)) hb); clear HO322; clear HO325; clear HO328; clear HB; have HO322 := n0_; have HO325 := n1_; have HO328 := n2_; have HB := n3_; clear n0_ n1_ n2_ n3_; (try clear hb); (try clear hb2); (try clear hk); (try clear hi)) | ((with_reducible refine gate_callee (f := 39) rfl ?_); refine goesL_ (some 33) rfl rfl Tryd.func39 (by kernel_rfl) rfl #[.slice A0 l0.length c0, .slice A1 l1.length c1, .int .i64 a2, .slice A3 l3.length c3, .int .i64 a4] rfl (by (try simp only [List.map_toArray, List.map_cons, List.map_nil]); first | done | rfl | (simp only [List.length_drop, List.length_take]; rfl)) ?_; (with_reducible refine (foretellref_FollowsOn.calls k _ _ l0 _ _ l1 a2 _ _ l3 a4 t331 t332 _ ?side1 ?side2 ?side3 ?side4 ?side5 ?side6 A10.out).mono ?_); (case side1 => repeat (first | exact (Kd.C_below HR0.out HB.out) | (with_reducible refine Kd.C_alloc ?_ _) | (with_reducible refine Kd.C_drewN ?_ _) | (with_reducible refine Kd.C_drew ?_))); (case side2 => exact HC0.out); (case side3 => repeat (first | exact (Kd.C_below HR1.out HB.out) | (with_reducible refine Kd.C_alloc ?_ _) | (with_reducible refine Kd.C_drewN ?_ _) | (with_reducible refine Kd.C_drew ?_))); (case side4 => exact HC1.out); (case side5 => repeat (first | exact (Kd.C_below HR3.out HB.out) | (with_reducible refine Kd.C_alloc ?_ _) | (with_reducible refine Kd.C_drewN ?_ _) | (with_reducible refine Kd.C_drew ?_))); (case side6 => exact HC3.out); rintro e w19 ⟨rfl, hb⟩; refine ⟨_, rfl, ?_⟩; have n0_ := Aside0.mk (Kd.R_below (by (with_reducible repeat (first | apply Kd.R_alloc | apply Kd.R_drewN | apply Kd.R_drew)); exact HO322.out) hb); have n1_ := Aside0.mk (Kd.R_below (by (with_reducible repeat (first | apply Kd.R_alloc | apply Kd.R_drewN | apply Kd.R_drew)); exact HO325.out) hb); have n2_ := Aside0.mk (Kd.R_below (by (with_reducible repeat (first | apply Kd.R_alloc | apply Kd.R_drewN | apply Kd.R_drew)); exact HO328.out) hb); have n3_ := Aside0.mk (below_step (by repeat (first | (with_reducible first | exact HB.out | apply below_alloc | apply pw_below_drewN | apply below_drew1) | exact HB.out)) hb); clear HO322; clear HO325; clear HO328; clear HB; have HO322 := n0_; have HO325 := n1_; have HO328 := n2_; have HB := n3_; clear n0_ n1_ n2_ n3_; (try clear hb); (try clear hb2); (try clear hk); (try clear hi)))
    go_ret
    exact ⟨by first | rfl | (simp [errW_none, errW_some] <;> rfl) | (simp [*, errW_none, errW_some] <;> rfl), by repeat (first | (with_reducible first | exact HB.out | apply below_alloc | apply pw_below_drewN | apply below_drew1) | exact HB.out)⟩
  · rw [if_neg c11] at H
    have c11b0 : (t329 == t331) = false := by simpa using c11
    (try (have c11b1 : decide (t329 = t331) = false := by simpa using c11))
    (try (have c11b2 : (t329 == t331) = false := by simpa using c11))
    (try (have c11b3 : ¬ (t329 = t331) := by simpa using c11))
    clear c11
    obtain rfl := Option.some.inj H
    go_enter Tryd.func12, Tryd.ntmps12
    go_wp2_with (first | ((with_reducible refine gate_callee (f := 16) rfl ?_); refine goesL_ (some 17) rfl rfl Tryd.func16 (by kernel_rfl) rfl #[.slice A0 l0.length c0] rfl (by (try simp only [List.map_toArray, List.map_cons, List.map_nil]); first | done | rfl | (simp only [List.length_drop, List.length_take]; rfl)) ?_; (with_reducible refine (foretelllaw_ops.calls _ _ l0 t320 _ ?side1 ?side2 A6.out).mono ?_); (case side1 => repeat (first | exact HR0.out | (with_reducible refine Kd.C_alloc ?_ _) | (with_reducible refine Kd.C_drewN ?_ _) | (with_reducible refine Kd.C_drew ?_))); (case side2 => exact HC0.out); rintro e w20 ⟨v321, rfl, ho0, hb⟩; refine ⟨_, rfl, ?_⟩; have n0_ := Aside0.mk (Kd.R_lower ho0 (below_size (by repeat (first | (with_reducible first | exact HB.out | apply below_alloc | apply pw_below_drewN | apply below_drew1) | exact HB.out)))); have n1_ := Aside0.mk (below_step (by repeat (first | (with_reducible first | exact HB.out | apply below_alloc | apply pw_below_drewN | apply below_drew1) | exact HB.out)) hb); clear HB; have HO322 := n0_; have HB := n1_; clear n0_ n1_; (try clear hb); (try clear hb2); (try clear hk); (try clear hi); (try clear ho0)) | ((with_reducible refine gate_callee (f := 32) rfl ?_); refine goesL_ (some 19) rfl rfl Tryd.func32 (by kernel_rfl) rfl #[.slice A1 l1.length c1] rfl (by (try simp only [List.map_toArray, List.map_cons, List.map_nil]); first | done | rfl | (simp only [List.length_drop, List.length_take]; rfl)) ?_; (with_reducible refine (foretelllaw_truths.calls _ _ l1 t323 _ ?side1 ?side2 A7.out).mono ?_); (case side1 => repeat (first | exact (Kd.C_below HR1.out HB.out) | (with_reducible refine Kd.C_alloc ?_ _) | (with_reducible refine Kd.C_drewN ?_ _) | (with_reducible refine Kd.C_drew ?_))); (case side2 => exact HC1.out); rintro e w21 ⟨v324, rfl, ho0, hb⟩; refine ⟨_, rfl, ?_⟩; have n0_ := Aside0.mk (Kd.R_below (by (with_reducible repeat (first | apply Kd.R_alloc | apply Kd.R_drewN | apply Kd.R_drew)); exact HO322.out) hb); have n1_ := Aside0.mk (Kd.R_lower ho0 (below_size (by repeat (first | (with_reducible first | exact HB.out | apply below_alloc | apply pw_below_drewN | apply below_drew1) | exact HB.out)))); have n2_ := Aside0.mk (below_step (by repeat (first | (with_reducible first | exact HB.out | apply below_alloc | apply pw_below_drewN | apply below_drew1) | exact HB.out)) hb); clear HO322; clear HB; have HO322 := n0_; have HO325 := n1_; have HB := n2_; clear n0_ n1_ n2_; (try clear hb); (try clear hb2); (try clear hk); (try clear hi); (try clear ho0)) | ((with_reducible refine gate_callee (f := 32) rfl ?_); refine goesL_ (some 22) rfl rfl Tryd.func32 (by kernel_rfl) rfl #[.slice A3 l3.length c3] rfl (by (try simp only [List.map_toArray, List.map_cons, List.map_nil]); first | done | rfl | (simp only [List.length_drop, List.length_take]; rfl)) ?_; (with_reducible refine (foretelllaw_truths.calls _ _ l3 t326 _ ?side1 ?side2 A8.out).mono ?_); (case side1 => repeat (first | exact (Kd.C_below HR3.out HB.out) | (with_reducible refine Kd.C_alloc ?_ _) | (with_reducible refine Kd.C_drewN ?_ _) | (with_reducible refine Kd.C_drew ?_))); (case side2 => exact HC3.out); rintro e w22 ⟨v327, rfl, ho0, hb⟩; refine ⟨_, rfl, ?_⟩; have n0_ := Aside0.mk (Kd.R_below (by (with_reducible repeat (first | apply Kd.R_alloc | apply Kd.R_drewN | apply Kd.R_drew)); exact HO322.out) hb); have n1_ := Aside0.mk (Kd.R_elder' (by (with_reducible repeat (first | apply Kd.R_alloc | apply Kd.R_drewN | apply Kd.R_drew)); exact HO325.out) (Kd.R_base ho0) hb); have n2_ := Aside0.mk (Kd.R_lower (Kd.R_new' ho0 (Kd.R_lt (by (with_reducible repeat (first | apply Kd.R_alloc | apply Kd.R_drewN | apply Kd.R_drew)); exact HO325.out))) (below_size (by repeat (first | (with_reducible first | exact HB.out | apply below_alloc | apply pw_below_drewN | apply below_drew1) | exact HB.out)))); have n3_ := Aside0.mk (below_step (by repeat (first | (with_reducible first | exact HB.out | apply below_alloc | apply pw_below_drewN | apply below_drew1) | exact HB.out)) hb); clear HO322; clear HO325; clear HB; have HO322 := n0_; have HO325 := n1_; have HO328 := n2_; have HB := n3_; clear n0_ n1_ n2_ n3_; (try clear hb); (try clear hb2); (try clear hk); (try clear hi); (try clear ho0); obtain ⟨Ao23, co23, eo23⟩ := Kd.R_slice HO322.out; subst eo23; obtain ⟨Ao24, co24, eo24⟩ := Kd.R_slice HO325.out; subst eo24; obtain ⟨Ao25, co25, eo25⟩ := Kd.R_slice HO328.out; subst eo25) | ((with_reducible refine gate_callee (f := 38) rfl ?_); refine goesL_ (some 24) rfl rfl Tryd.func38 (by kernel_rfl) rfl #[.slice Ao23 t320.length co23, .slice Ao24 t323.length co24, .int .i64 a2, .slice Ao25 t326.length co25, .int .i64 a4] rfl (by (try simp only [List.map_toArray, List.map_cons, List.map_nil]); first | done | rfl | (simp only [List.length_drop, List.length_take]; rfl)) ?_; (with_reducible refine (logic_Follows.calls k _ _ t320 _ _ t323 a2 _ _ t326 a4 t329 t330 _ ?side1 ?side2 ?side3 ?side4 ?side5 ?side6 ?side7 A9.out).mono ?_); (case side1 => repeat (first | exact (Kd.R_reads' HO322.out).2.2 | (with_reducible refine Kd.C_alloc ?_ _) | (with_reducible refine Kd.C_drewN ?_ _) | (with_reducible refine Kd.C_drew ?_))); (case side2 => exact (Kd.R_reads' HO322.out).2.1); (case side3 => repeat (first | exact (Kd.R_reads' HO325.out).2.2 | (with_reducible refine Kd.C_alloc ?_ _) | (with_reducible refine Kd.C_drewN ?_ _) | (with_reducible refine Kd.C_drew ?_))); (case side4 => exact (Kd.R_reads' HO325.out).2.1); (case side5 => repeat (first | exact (Kd.R_reads' HO328.out).2.2 | (with_reducible refine Kd.C_alloc ?_ _) | (with_reducible refine Kd.C_drewN ?_ _) | (with_reducible refine Kd.C_drew ?_))); (case side6 => exact (Kd.R_reads' HO328.out).2.1); (case side7 => first | (refine LaidG.below HLd.out ?_; repeat (first | (with_reducible exact HB.out) | (with_reducible exact Below.refl _ _) | apply below_alloc | apply pw_below_drewN | apply below_drew1); done) | exact LaidG.below HLd.out (by repeat (first | (with_reducible first | exact HB.out | apply below_alloc | apply pw_below_drewN | apply below_drew1) | exact HB.out))); rintro e w26 ⟨rfl, hb⟩; refine ⟨_, rfl, ?_⟩; have n0_ := Aside0.mk (Kd.R_below (by (with_reducible repeat (first | apply Kd.R_alloc | apply Kd.R_drewN | apply Kd.R_drew)); exact HO322.out) hb); have n1_ := Aside0.mk (Kd.R_below (by (with_reducible repeat (first | apply Kd.R_alloc | apply Kd.R_drewN | apply Kd.R_drew)); exact HO325.out) hb); have n2_ := Aside0.mk (Kd.R_below (by (with_reducible repeat (first | apply Kd.R_alloc | apply Kd.R_drewN | apply Kd.R_drew)); exact HO328.out) hb); have n3_ := Aside0.mk (below_step (by repeat (first | (with_reducible first | exact HB.out | apply below_alloc | apply pw_below_drewN | apply below_drew1) | exact HB.out)) hb); clear HO322; clear HO325; clear HO328; clear HB; have HO322 := n0_; have HO325 := n1_; have HO328 := n2_; have HB := n3_; clear n0_ n1_ n2_ n3_; (try clear hb); (try clear hb2); (try clear hk); (try clear hi)) | ((with_reducible refine gate_callee (f := 39) rfl ?_); refine goesL_ (some 33) rfl rfl Tryd.func39 (by kernel_rfl) rfl #[.slice A0 l0.length c0, .slice A1 l1.length c1, .int .i64 a2, .slice A3 l3.length c3, .int .i64 a4] rfl (by (try simp only [List.map_toArray, List.map_cons, List.map_nil]); first | done | rfl | (simp only [List.length_drop, List.length_take]; rfl)) ?_; (with_reducible refine (foretellref_FollowsOn.calls k _ _ l0 _ _ l1 a2 _ _ l3 a4 t331 t332 _ ?side1 ?side2 ?side3 ?side4 ?side5 ?side6 A10.out).mono ?_); (case side1 => repeat (first | exact (Kd.C_below HR0.out HB.out) | (with_reducible refine Kd.C_alloc ?_ _) | (with_reducible refine Kd.C_drewN ?_ _) | (with_reducible refine Kd.C_drew ?_))); (case side2 => exact HC0.out); (case side3 => repeat (first | exact (Kd.C_below HR1.out HB.out) | (with_reducible refine Kd.C_alloc ?_ _) | (with_reducible refine Kd.C_drewN ?_ _) | (with_reducible refine Kd.C_drew ?_))); (case side4 => exact HC1.out); (case side5 => repeat (first | exact (Kd.C_below HR3.out HB.out) | (with_reducible refine Kd.C_alloc ?_ _) | (with_reducible refine Kd.C_drewN ?_ _) | (with_reducible refine Kd.C_drew ?_))); (case side6 => exact HC3.out); rintro e w27 ⟨rfl, hb⟩; refine ⟨_, rfl, ?_⟩; have n0_ := Aside0.mk (Kd.R_below (by (with_reducible repeat (first | apply Kd.R_alloc | apply Kd.R_drewN | apply Kd.R_drew)); exact HO322.out) hb); have n1_ := Aside0.mk (Kd.R_below (by (with_reducible repeat (first | apply Kd.R_alloc | apply Kd.R_drewN | apply Kd.R_drew)); exact HO325.out) hb); have n2_ := Aside0.mk (Kd.R_below (by (with_reducible repeat (first | apply Kd.R_alloc | apply Kd.R_drewN | apply Kd.R_drew)); exact HO328.out) hb); have n3_ := Aside0.mk (below_step (by repeat (first | (with_reducible first | exact HB.out | apply below_alloc | apply pw_below_drewN | apply below_drew1) | exact HB.out)) hb); clear HO322; clear HO325; clear HO328; clear HB; have HO322 := n0_; have HO325 := n1_; have HO328 := n2_; have HB := n3_; clear n0_ n1_ n2_ n3_; (try clear hb); (try clear hb2); (try clear hk); (try clear hi)))
    go_ret
    exact ⟨by first | rfl | (simp [errW_none, errW_some] <;> rfl) | (simp [*, errW_none, errW_some] <;> rfl), by repeat (first | (with_reducible first | exact HB.out | apply below_alloc | apply pw_below_drewN | apply below_drew1) | exact HB.out)⟩

end Go.Proofs.YtmlkkpkaaicobaaDoor.L
