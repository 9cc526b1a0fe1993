-- WRITTEN by this session's own program (wip/pp.py) over the translation. Not trusted: Lean checks it.
import Derived.Test.YtmlkkpkaaicobaaDoorLx0
import Derived.Test.YtmlkkpkaaicobaaDoorLx2
import Derived.Test.YtmlkkpkaaicobaaDoorLx3
import Derived.Test.YtmlkkpkaaicobaaDoorLx4
namespace Go.Proofs.YtmlkkpkaaicobaaDoor.L
open Go.RowKit Go.Proofs.YtmlkkpkaaicobaaDoorW.PrintWords Go.Proofs.YtmlkkpkaaicobaaDoorW.PrintLast Go.Proofs.YtmlkkpkaaicobaaDoorW.PrintMore
attribute [local go_sem] max2_int min2_int max_two min_two max_three min_three max_four min_four   -- for this text's walks alone
set_option linter.unusedVariables false
set_option linter.unusedSimpArgs false

/-! ### logic_Meets: function 36 -/
def logic_Meets.l0 : Nat → List Bool → List Int → Int → Int → List (S63) → Int → Int → Option (Int × Int)
  | 0, _, _, _, _, _, _, _ => none
  | k + 1, x8, x10, x12, x13, x32, x33, x34 => if x34 < x33 then (if 0 ≤ x34 then (if x34 < (x32.length : Int) then ((logic_ahead.f ((rd_T63 x32 x34).f0)).bind fun t229 => (if t229 = true then (if ((rd_T63 x32 x34).f0) = 17 then (if x34 < (x8.length : Int) then (if rdOf false x8 x34 = true then (if 0 ≤ (wrap64 (x34 + 1)) then (if (wrap64 (x34 + 1)) < (x8.length : Int) then (if rdOf false x8 (wrap64 (x34 + 1)) = true then (if 0 ≤ x13 then (logic_Meets.l0 k x8 x10 (Go.bits .or .i64 x12 (shl .i64 1 x13)) (wrap64 (x13 + 1)) x32 x33 (wrap64 (x34 + 1))) else (none)) else (logic_Meets.l0 k x8 x10 x12 (wrap64 (x13 + 1)) x32 x33 (wrap64 (x34 + 1)))) else (none)) else (none)) else (if 0 ≤ x13 then (logic_Meets.l0 k x8 x10 (Go.bits .or .i64 x12 (shl .i64 1 x13)) (wrap64 (x13 + 1)) x32 x33 (wrap64 (x34 + 1))) else (none))) else (none)) else (if ((rd_T63 x32 x34).f0) = 18 then (if x34 < (x8.length : Int) then (if rdOf false x8 x34 = true then (if 0 ≤ x13 then (logic_Meets.l0 k x8 x10 (Go.bits .or .i64 x12 (shl .i64 1 x13)) (wrap64 (x13 + 1)) x32 x33 (wrap64 (x34 + 1))) else (none)) else (if 0 ≤ (wrap64 (x34 + 1)) then (if (wrap64 (x34 + 1)) < (x8.length : Int) then (if (rdOf false x8 (wrap64 (x34 + 1)) = true) then (logic_Meets.l0 k x8 x10 x12 (wrap64 (x13 + 1)) x32 x33 (wrap64 (x34 + 1))) else (if 0 ≤ x13 then (logic_Meets.l0 k x8 x10 (Go.bits .or .i64 x12 (shl .i64 1 x13)) (wrap64 (x13 + 1)) x32 x33 (wrap64 (x34 + 1))) else (none))) else (none)) else (none))) else (none)) else (if ((rd_T63 x32 x34).f0) = 15 then (if x34 < (x8.length : Int) then (if rdOf false x8 x34 = true then (if 0 ≤ (wrap64 (x34 + 1)) then (if (wrap64 (x34 + 1)) < (x10.length : Int) then (if 0 ≤ (rd x10 (wrap64 (x34 + 1))) then (if (rd x10 (wrap64 (x34 + 1))) < (x8.length : Int) then (if rdOf false x8 (rd x10 (wrap64 (x34 + 1))) = true then (if 0 ≤ x13 then (logic_Meets.l0 k x8 x10 (Go.bits .or .i64 x12 (shl .i64 1 x13)) (wrap64 (x13 + 1)) x32 x33 (wrap64 (x34 + 1))) else (none)) else (logic_Meets.l0 k x8 x10 x12 (wrap64 (x13 + 1)) x32 x33 (wrap64 (x34 + 1)))) else (none)) else (none)) else (none)) else (none)) else (if 0 ≤ x13 then (logic_Meets.l0 k x8 x10 (Go.bits .or .i64 x12 (shl .i64 1 x13)) (wrap64 (x13 + 1)) x32 x33 (wrap64 (x34 + 1))) else (none))) else (none)) else (if ((rd_T63 x32 x34).f0) = 16 then (if x34 < (x8.length : Int) then (if rdOf false x8 x34 = true then (if 0 ≤ x13 then (logic_Meets.l0 k x8 x10 (Go.bits .or .i64 x12 (shl .i64 1 x13)) (wrap64 (x13 + 1)) x32 x33 (wrap64 (x34 + 1))) else (none)) else (if 0 ≤ (wrap64 (x34 + 1)) then (if (wrap64 (x34 + 1)) < (x10.length : Int) then (if 0 ≤ (rd x10 (wrap64 (x34 + 1))) then (if (rd x10 (wrap64 (x34 + 1))) < (x8.length : Int) then (if (rdOf false x8 (rd x10 (wrap64 (x34 + 1))) = true) then (logic_Meets.l0 k x8 x10 x12 (wrap64 (x13 + 1)) x32 x33 (wrap64 (x34 + 1))) else (if 0 ≤ x13 then (logic_Meets.l0 k x8 x10 (Go.bits .or .i64 x12 (shl .i64 1 x13)) (wrap64 (x13 + 1)) x32 x33 (wrap64 (x34 + 1))) else (none))) else (none)) else (none)) else (none)) else (none))) else (none)) else (if 0 ≤ x13 then (logic_Meets.l0 k x8 x10 (Go.bits .or .i64 x12 (shl .i64 1 x13)) (wrap64 (x13 + 1)) x32 x33 (wrap64 (x34 + 1))) else (none)))))) else (logic_Meets.l0 k x8 x10 x12 x13 x32 x33 (wrap64 (x34 + 1))))) else (none)) else (none)) else (some (x12, 0))
def logic_Meets.f (k : Nat) (l0 : List (S63)) (l1 : List Bool) (a2 : Int) : Option (Int × Int) := (logic_Truths.f l0 l1 a2).bind fun bt219 => (if bt219.2 = 0 then ((polish_Ends.f l0).bind fun bt223 => (logic_Meets.l0 k bt219.1 bt223.1 0 0 l0 (l0.length : Int) 0)) else (some (0, bt219.2)))
theorem logic_Meets.mono_l : ∀ k, (∀ y0 y1 y2 y3 y4 y5 y6, LeO (logic_Meets.l0 k y0 y1 y2 y3 y4 y5 y6) (logic_Meets.l0 (k + 1) y0 y1 y2 y3 y4 y5 y6))
  | 0 => fun _ _ _ _ _ _ _ r h => by simp [logic_Meets.l0] at h
  | k + 1 => by
    have ih0 := logic_Meets.mono_l k
    · intro y0 y1 y2 y3 y4 y5 y6
      unfold logic_Meets.l0
      repeat' first
      | (with_reducible exact ih0 _ _ _ _ _ _ _)
      | (with_reducible exact LeO.refl _)
      | (with_reducible exact LeO.none _)
      | (with_reducible refine LeO.ite ?_ ?_)
      | (with_reducible refine LeO.bind ?_ (fun _ => ?_))
      | exact ih0 _ _ _ _ _ _ _
      | exact LeO.none _
      | refine LeO.ite ?_ ?_
      | refine LeO.bind ?_ (fun _ => ?_)
theorem logic_Meets.mono : ∀ a0 a1 a2 k, LeO (logic_Meets.f k a0 a1 a2) (logic_Meets.f (k + 1) a0 a1 a2) := by
  intro a0 a1 a2 k
  have ih0 := logic_Meets.mono_l k
  unfold logic_Meets.f
  repeat' first
      | (with_reducible exact ih0 _ _ _ _ _ _ _)
      | (with_reducible exact LeO.refl _)
      | (with_reducible exact LeO.none _)
      | (with_reducible refine LeO.ite ?_ ?_)
      | (with_reducible refine LeO.bind ?_ (fun _ => ?_))
      | exact ih0 _ _ _ _ _ _ _
      | exact LeO.none _
      | refine LeO.ite ?_ ?_
      | refine LeO.bind ?_ (fun _ => ?_)
set_option maxHeartbeats 8000000 in
set_option maxRecDepth 100000 in
theorem logic_Meets.calls (k : Nat) (A0 : Option Addr) (c0 : Nat) (l0 : List (S63)) (A1 : Option Addr) (c1 : Nat) (l1 : List Bool) (a2 : Int) (r1 : Int) (r2 : Int) (w : World) (hr0 : Kd.C k63 w A0 l0.length l0) (hc0 : l0.length ≤ c0) (hr1 : Kd.C Kd.bool w A1 l1.length l1) (hc1 : l1.length ≤ c1) (hL : LaidG w) (h : logic_Meets.f k l0 l1 a2 = some (r1, r2)) :
    Calls Tryd.prog 36 #[.slice A0 l0.length c0, .slice A1 l1.length c1, .int .i64 a2] w fun e w' => e = .returned (.tuple #[.int .i64 r1, .int .i64 r2]) ∧ Below w.heap.size w w' := by
  have HLd := Aside0.mk hL
  clear hL
  have hu63 := Tryd.underlying63
  have HR0 := Aside0.mk hr0
  have HC0 := Aside0.mk hc0
  clear hr0 hc0
  have HR1 := Aside0.mk hr1
  have HC1 := Aside0.mk hc1
  clear hr1 hc1
  have HB := Aside0.mk (Below.refl w.heap.size w)
  have H : ((logic_Truths.f l0 l1 a2).bind fun bt219 => (if bt219.2 = 0 then ((polish_Ends.f l0).bind fun bt223 => (logic_Meets.l0 k bt219.1 bt223.1 0 0 l0 (l0.length : Int) 0)) else (some (0, bt219.2)))) = some (r1, r2) := h
  clear h
  replace H := Option.bind_eq_some_iff.mp H
  obtain ⟨⟨t219, t220⟩, A40, H⟩ := H
  replace H : (if t220 = 0 then ((polish_Ends.f l0).bind fun bt223 => (logic_Meets.l0 k t219 bt223.1 0 0 l0 (l0.length : Int) 0)) else (some (0, t220))) = some (r1, r2) := H
  have A4 := Aside0.mk A40
  clear A40
  by_cases c5 : t220 = 0
  · rw [if_pos c5] at H
    have c5b0 : (t220 == 0) = true := beq_iff_eq.mpr c5
    have c5b1 : (t220 != 0) = false := bne_eq_false_iff_eq.mpr c5
    clear c5
    replace H := Option.bind_eq_some_iff.mp H
    obtain ⟨⟨t223, t224⟩, A60, H⟩ := H
    replace H : (logic_Meets.l0 k t219 t223 0 0 l0 (l0.length : Int) 0) = some (r1, r2) := H
    have A6 := Aside0.mk A60
    clear A60
    have H' := Aside0.mk H
    clear H
    go_enter Tryd.func36, Tryd.ntmps36
    go_wp2_with (first | ((with_reducible refine gate_callee (f := 33) rfl ?_); refine goesL_ (some 21) rfl rfl Tryd.func33 (by kernel_rfl) rfl #[.slice A0 l0.length c0, .slice A1 l1.length c1, .int .i64 a2] rfl (by (try simp only [List.map_toArray, List.map_cons, List.map_nil]); first | done | rfl | (simp only [List.length_drop, List.length_take]; rfl)) ?_; (with_reducible refine (logic_Truths.calls _ _ l0 _ _ l1 a2 t219 t220 _ ?side1 ?side2 ?side3 ?side4 ?side5 A4.out).mono ?_); (case side1 => repeat (first | exact HR0.out | (with_reducible refine Kd.C_alloc ?_ _) | (with_reducible refine Kd.C_drewN ?_ _) | (with_reducible refine Kd.C_drew ?_))); (case side2 => exact HC0.out); (case side3 => repeat (first | exact HR1.out | (with_reducible refine Kd.C_alloc ?_ _) | (with_reducible refine Kd.C_drewN ?_ _) | (with_reducible refine Kd.C_drew ?_))); (case side4 => exact HC1.out); (case side5 => first | (refine LaidG.below HLd.out ?_; repeat (first | (with_reducible exact HB.out) | (with_reducible exact Below.refl _ _) | apply below_alloc | apply pw_below_drewN | apply below_drew1); done) | exact LaidG.below HLd.out (by repeat (first | (with_reducible first | exact HB.out | apply below_alloc | apply pw_below_drewN | apply below_drew1) | exact HB.out))); rintro e w7 ⟨v221, rfl, ho0, hb⟩; refine ⟨_, rfl, ?_⟩; have n0_ := Aside0.mk (Kd.R_lower ho0 (below_size (by repeat (first | (with_reducible first | exact HB.out | apply below_alloc | apply pw_below_drewN | apply below_drew1) | exact HB.out)))); have n1_ := Aside0.mk (below_step (by repeat (first | (with_reducible first | exact HB.out | apply below_alloc | apply pw_below_drewN | apply below_drew1) | exact HB.out)) hb); clear HB; have HO222 := n0_; have HB := n1_; clear n0_ n1_; (try clear hb); (try clear hb2); (try clear hk); (try clear hi); (try clear ho0)) | ((with_reducible refine gate_callee (f := 17) rfl ?_); refine goesL_ (some 29) rfl rfl Tryd.func17 (by kernel_rfl) rfl #[.slice A0 l0.length c0] rfl (by (try simp only [List.map_toArray, List.map_cons, List.map_nil]); first | done | rfl | (simp only [List.length_drop, List.length_take]; rfl)) ?_; (with_reducible refine (polish_Ends.calls _ _ l0 t223 t224 _ ?side1 ?side2 ?side3 A6.out).mono ?_); (case side1 => repeat (first | exact (Kd.C_below HR0.out HB.out) | (with_reducible refine Kd.C_alloc ?_ _) | (with_reducible refine Kd.C_drewN ?_ _) | (with_reducible refine Kd.C_drew ?_))); (case side2 => exact HC0.out); (case side3 => first | (refine LaidG.below HLd.out ?_; repeat (first | (with_reducible exact HB.out) | (with_reducible exact Below.refl _ _) | apply below_alloc | apply pw_below_drewN | apply below_drew1); done) | exact LaidG.below HLd.out (by repeat (first | (with_reducible first | exact HB.out | apply below_alloc | apply pw_below_drewN | apply below_drew1) | exact HB.out))); rintro e w8 ⟨v225, rfl, ho0, hb⟩; refine ⟨_, rfl, ?_⟩; have n0_ := Aside0.mk (Kd.R_below (by (with_reducible repeat (first | apply Kd.R_alloc | apply Kd.R_drewN | apply Kd.R_drew)); exact HO222.out) hb); have n1_ := Aside0.mk (Kd.R_lower ho0 (below_size (by repeat (first | (with_reducible first | exact HB.out | apply below_alloc | apply pw_below_drewN | apply below_drew1) | exact HB.out)))); have n2_ := Aside0.mk (below_step (by repeat (first | (with_reducible first | exact HB.out | apply below_alloc | apply pw_below_drewN | apply below_drew1) | exact HB.out)) hb); clear HO222; clear HB; have HO222 := n0_; have HO226 := n1_; have HB := n2_; clear n0_ n1_ n2_; (try clear hb); (try clear hb2); (try clear hk); (try clear hi); (try clear ho0)))
    go_loopg [12, 13, 34] k (fun kq v12 v13 v34 w' => ∃ (x12_1 : Int) (x13_1 : Int) (x34_1 : Int), v12 = .int .i64 x12_1 ∧ v13 = .int .i64 x13_1 ∧ v34 = .int .i64 x34_1 ∧ Aside0 (logic_Meets.l0 kq t219 t223 x12_1 x13_1 l0 (l0.length : Int) x34_1 = some (r1, r2)) ∧ Aside0 (kq ≤ k) ∧ Aside0 (Kd.R Kd.bool 4 w' w.heap.size (fun _ => True) v221 t219) ∧ Aside0 (Kd.R (Kd.int .i64) 3 w' w.heap.size (fun _ => True) v225 t223) ∧ Aside0 (Below w.heap.size w w'))
    case atStart => exact ⟨(0), (0), (0), (by first | rfl | (simp; done) | (simp [*]; done)), (by first | rfl | (simp; done) | (simp [*]; done)), (by first | rfl | (simp; done) | (simp [*]; done)), H', ⟨Nat.le_refl _⟩, ⟨by (with_reducible repeat (first | apply Kd.R_alloc | apply Kd.R_drewN | apply Kd.R_drew)); exact HO222.out⟩, ⟨by (with_reducible repeat (first | apply Kd.R_alloc | apply Kd.R_drewN | apply Kd.R_drew)); exact HO226.out⟩, ⟨by repeat (first | (with_reducible first | exact HB.out | apply below_alloc | apply pw_below_drewN | apply below_drew1) | exact HB.out)⟩⟩
    case round =>
      clear H'
      try clear c1
      try clear p2
      try clear c3
      try clear c5
      try clear c5b0
      try clear c5b1
      obtain ⟨x12_1, x13_1, x34_1, rfl, rfl, rfl, HA, HK1, HO_8, HO_10, HB⟩ := hrel
      cases gk with
      | zero => exact absurd HA.out (by simp [logic_Meets.l0])
      | succ k1 =>
        have H := HA.out
        clear HA
        simp only [logic_Meets.l0] at H
        by_cases c9 : x34_1 < (l0.length : Int)
        · rw [if_pos c9] at H
          have c9b0 : decide (x34_1 < (l0.length : Int)) = true := decide_eq_true c9
          clear c9
          by_cases c10 : 0 ≤ x34_1
          · rw [if_pos c10] at H
            have c10b0 : decide (0 ≤ x34_1) = true := decide_eq_true c10
            clear c10
            by_cases c11 : x34_1 < (l0.length : Int)
            · rw [if_pos c11] at H
              have c11b0 : decide (x34_1 < (l0.length : Int)) = true := decide_eq_true c11
              clear c11
              replace H := Option.bind_eq_some_iff.mp H
              obtain ⟨t229, A120, H⟩ := H
              replace H : (if t229 = true then (if ((rd_T63 l0 x34_1).f0) = 17 then (if x34_1 < (t219.length : Int) then (if rdOf false t219 x34_1 = true then (if 0 ≤ (wrap64 (x34_1 + 1)) then (if (wrap64 (x34_1 + 1)) < (t219.length : Int) then (if rdOf false t219 (wrap64 (x34_1 + 1)) = true then (if 0 ≤ x13_1 then (logic_Meets.l0 k1 t219 t223 (Go.bits .or .i64 x12_1 (shl .i64 1 x13_1)) (wrap64 (x13_1 + 1)) l0 (l0.length : Int) (wrap64 (x34_1 + 1))) else (none)) else (logic_Meets.l0 k1 t219 t223 x12_1 (wrap64 (x13_1 + 1)) l0 (l0.length : Int) (wrap64 (x34_1 + 1)))) else (none)) else (none)) else (if 0 ≤ x13_1 then (logic_Meets.l0 k1 t219 t223 (Go.bits .or .i64 x12_1 (shl .i64 1 x13_1)) (wrap64 (x13_1 + 1)) l0 (l0.length : Int) (wrap64 (x34_1 + 1))) else (none))) else (none)) else (if ((rd_T63 l0 x34_1).f0) = 18 then (if x34_1 < (t219.length : Int) then (if rdOf false t219 x34_1 = true then (if 0 ≤ x13_1 then (logic_Meets.l0 k1 t219 t223 (Go.bits .or .i64 x12_1 (shl .i64 1 x13_1)) (wrap64 (x13_1 + 1)) l0 (l0.length : Int) (wrap64 (x34_1 + 1))) else (none)) else (if 0 ≤ (wrap64 (x34_1 + 1)) then (if (wrap64 (x34_1 + 1)) < (t219.length : Int) then (if (rdOf false t219 (wrap64 (x34_1 + 1)) = true) then (logic_Meets.l0 k1 t219 t223 x12_1 (wrap64 (x13_1 + 1)) l0 (l0.length : Int) (wrap64 (x34_1 + 1))) else (if 0 ≤ x13_1 then (logic_Meets.l0 k1 t219 t223 (Go.bits .or .i64 x12_1 (shl .i64 1 x13_1)) (wrap64 (x13_1 + 1)) l0 (l0.length : Int) (wrap64 (x34_1 + 1))) else (none))) else (none)) else (none))) else (none)) else (if ((rd_T63 l0 x34_1).f0) = 15 then (if x34_1 < (t219.length : Int) then (if rdOf false t219 x34_1 = true then (if 0 ≤ (wrap64 (x34_1 + 1)) then (if (wrap64 (x34_1 + 1)) < (t223.length : Int) then (if 0 ≤ (rd t223 (wrap64 (x34_1 + 1))) then (if (rd t223 (wrap64 (x34_1 + 1))) < (t219.length : Int) then (if rdOf false t219 (rd t223 (wrap64 (x34_1 + 1))) = true then (if 0 ≤ x13_1 then (logic_Meets.l0 k1 t219 t223 (Go.bits .or .i64 x12_1 (shl .i64 1 x13_1)) (wrap64 (x13_1 + 1)) l0 (l0.length : Int) (wrap64 (x34_1 + 1))) else (none)) else (logic_Meets.l0 k1 t219 t223 x12_1 (wrap64 (x13_1 + 1)) l0 (l0.length : Int) (wrap64 (x34_1 + 1)))) else (none)) else (none)) else (none)) else (none)) else (if 0 ≤ x13_1 then (logic_Meets.l0 k1 t219 t223 (Go.bits .or .i64 x12_1 (shl .i64 1 x13_1)) (wrap64 (x13_1 + 1)) l0 (l0.length : Int) (wrap64 (x34_1 + 1))) else (none))) else (none)) else (if ((rd_T63 l0 x34_1).f0) = 16 then (if x34_1 < (t219.length : Int) then (if rdOf false t219 x34_1 = true then (if 0 ≤ x13_1 then (logic_Meets.l0 k1 t219 t223 (Go.bits .or .i64 x12_1 (shl .i64 1 x13_1)) (wrap64 (x13_1 + 1)) l0 (l0.length : Int) (wrap64 (x34_1 + 1))) else (none)) else (if 0 ≤ (wrap64 (x34_1 + 1)) then (if (wrap64 (x34_1 + 1)) < (t223.length : Int) then (if 0 ≤ (rd t223 (wrap64 (x34_1 + 1))) then (if (rd t223 (wrap64 (x34_1 + 1))) < (t219.length : Int) then (if (rdOf false t219 (rd t223 (wrap64 (x34_1 + 1))) = true) then (logic_Meets.l0 k1 t219 t223 x12_1 (wrap64 (x13_1 + 1)) l0 (l0.length : Int) (wrap64 (x34_1 + 1))) else (if 0 ≤ x13_1 then (logic_Meets.l0 k1 t219 t223 (Go.bits .or .i64 x12_1 (shl .i64 1 x13_1)) (wrap64 (x13_1 + 1)) l0 (l0.length : Int) (wrap64 (x34_1 + 1))) else (none))) else (none)) else (none)) else (none)) else (none))) else (none)) else (if 0 ≤ x13_1 then (logic_Meets.l0 k1 t219 t223 (Go.bits .or .i64 x12_1 (shl .i64 1 x13_1)) (wrap64 (x13_1 + 1)) l0 (l0.length : Int) (wrap64 (x34_1 + 1))) else (none)))))) else (logic_Meets.l0 k1 t219 t223 x12_1 x13_1 l0 (l0.length : Int) (wrap64 (x34_1 + 1)))) = some (r1, r2) := H
              have A12 := Aside0.mk A120
              clear A120
              by_cases c13 : t229 = true
              · subst c13
                have H1 : (if ((rd_T63 l0 x34_1).f0) = 17 then (if x34_1 < (t219.length : Int) then (if rdOf false t219 x34_1 = true then (if 0 ≤ (wrap64 (x34_1 + 1)) then (if (wrap64 (x34_1 + 1)) < (t219.length : Int) then (if rdOf false t219 (wrap64 (x34_1 + 1)) = true then (if 0 ≤ x13_1 then (logic_Meets.l0 k1 t219 t223 (Go.bits .or .i64 x12_1 (shl .i64 1 x13_1)) (wrap64 (x13_1 + 1)) l0 (l0.length : Int) (wrap64 (x34_1 + 1))) else (none)) else (logic_Meets.l0 k1 t219 t223 x12_1 (wrap64 (x13_1 + 1)) l0 (l0.length : Int) (wrap64 (x34_1 + 1)))) else (none)) else (none)) else (if 0 ≤ x13_1 then (logic_Meets.l0 k1 t219 t223 (Go.bits .or .i64 x12_1 (shl .i64 1 x13_1)) (wrap64 (x13_1 + 1)) l0 (l0.length : Int) (wrap64 (x34_1 + 1))) else (none))) else (none)) else (if ((rd_T63 l0 x34_1).f0) = 18 then (if x34_1 < (t219.length : Int) then (if rdOf false t219 x34_1 = true then (if 0 ≤ x13_1 then (logic_Meets.l0 k1 t219 t223 (Go.bits .or .i64 x12_1 (shl .i64 1 x13_1)) (wrap64 (x13_1 + 1)) l0 (l0.length : Int) (wrap64 (x34_1 + 1))) else (none)) else (if 0 ≤ (wrap64 (x34_1 + 1)) then (if (wrap64 (x34_1 + 1)) < (t219.length : Int) then (if (rdOf false t219 (wrap64 (x34_1 + 1)) = true) then (logic_Meets.l0 k1 t219 t223 x12_1 (wrap64 (x13_1 + 1)) l0 (l0.length : Int) (wrap64 (x34_1 + 1))) else (if 0 ≤ x13_1 then (logic_Meets.l0 k1 t219 t223 (Go.bits .or .i64 x12_1 (shl .i64 1 x13_1)) (wrap64 (x13_1 + 1)) l0 (l0.length : Int) (wrap64 (x34_1 + 1))) else (none))) else (none)) else (none))) else (none)) else (if ((rd_T63 l0 x34_1).f0) = 15 then (if x34_1 < (t219.length : Int) then (if rdOf false t219 x34_1 = true then (if 0 ≤ (wrap64 (x34_1 + 1)) then (if (wrap64 (x34_1 + 1)) < (t223.length : Int) then (if 0 ≤ (rd t223 (wrap64 (x34_1 + 1))) then (if (rd t223 (wrap64 (x34_1 + 1))) < (t219.length : Int) then (if rdOf false t219 (rd t223 (wrap64 (x34_1 + 1))) = true then (if 0 ≤ x13_1 then (logic_Meets.l0 k1 t219 t223 (Go.bits .or .i64 x12_1 (shl .i64 1 x13_1)) (wrap64 (x13_1 + 1)) l0 (l0.length : Int) (wrap64 (x34_1 + 1))) else (none)) else (logic_Meets.l0 k1 t219 t223 x12_1 (wrap64 (x13_1 + 1)) l0 (l0.length : Int) (wrap64 (x34_1 + 1)))) else (none)) else (none)) else (none)) else (none)) else (if 0 ≤ x13_1 then (logic_Meets.l0 k1 t219 t223 (Go.bits .or .i64 x12_1 (shl .i64 1 x13_1)) (wrap64 (x13_1 + 1)) l0 (l0.length : Int) (wrap64 (x34_1 + 1))) else (none))) else (none)) else (if ((rd_T63 l0 x34_1).f0) = 16 then (if x34_1 < (t219.length : Int) then (if rdOf false t219 x34_1 = true then (if 0 ≤ x13_1 then (logic_Meets.l0 k1 t219 t223 (Go.bits .or .i64 x12_1 (shl .i64 1 x13_1)) (wrap64 (x13_1 + 1)) l0 (l0.length : Int) (wrap64 (x34_1 + 1))) else (none)) else (if 0 ≤ (wrap64 (x34_1 + 1)) then (if (wrap64 (x34_1 + 1)) < (t223.length : Int) then (if 0 ≤ (rd t223 (wrap64 (x34_1 + 1))) then (if (rd t223 (wrap64 (x34_1 + 1))) < (t219.length : Int) then (if (rdOf false t219 (rd t223 (wrap64 (x34_1 + 1))) = true) then (logic_Meets.l0 k1 t219 t223 x12_1 (wrap64 (x13_1 + 1)) l0 (l0.length : Int) (wrap64 (x34_1 + 1))) else (if 0 ≤ x13_1 then (logic_Meets.l0 k1 t219 t223 (Go.bits .or .i64 x12_1 (shl .i64 1 x13_1)) (wrap64 (x13_1 + 1)) l0 (l0.length : Int) (wrap64 (x34_1 + 1))) else (none))) else (none)) else (none)) else (none)) else (none))) else (none)) else (if 0 ≤ x13_1 then (logic_Meets.l0 k1 t219 t223 (Go.bits .or .i64 x12_1 (shl .i64 1 x13_1)) (wrap64 (x13_1 + 1)) l0 (l0.length : Int) (wrap64 (x34_1 + 1))) else (none)))))) = some (r1, r2) := by rw [if_pos rfl] at H; exact H
                clear H
                have H := H1
                clear H1
                by_cases c14 : ((rd_T63 l0 x34_1).f0) = 17
                · rw [if_pos c14] at H
                  have c14b0 : (((rd_T63 l0 x34_1).f0) == 17) = true := beq_iff_eq.mpr c14
                  have c14b1 : (((rd_T63 l0 x34_1).f0) != 17) = false := bne_eq_false_iff_eq.mpr c14
                  clear c14
                  by_cases c15 : x34_1 < (t219.length : Int)
                  · rw [if_pos c15] at H
                    have c15b0 : decide (x34_1 < (t219.length : Int)) = true := decide_eq_true c15
                    clear c15
                    obtain ⟨bq16, hbq16⟩ : ∃ b_ : Bool, b_ = (rdOf false t219 x34_1) := ⟨_, rfl⟩
                    replace H : (if bq16 = true then (if 0 ≤ (wrap64 (x34_1 + 1)) then (if (wrap64 (x34_1 + 1)) < (t219.length : Int) then (if rdOf false t219 (wrap64 (x34_1 + 1)) = true then (if 0 ≤ x13_1 then (logic_Meets.l0 k1 t219 t223 (Go.bits .or .i64 x12_1 (shl .i64 1 x13_1)) (wrap64 (x13_1 + 1)) l0 (l0.length : Int) (wrap64 (x34_1 + 1))) else (none)) else (logic_Meets.l0 k1 t219 t223 x12_1 (wrap64 (x13_1 + 1)) l0 (l0.length : Int) (wrap64 (x34_1 + 1)))) else (none)) else (none)) else (if 0 ≤ x13_1 then (logic_Meets.l0 k1 t219 t223 (Go.bits .or .i64 x12_1 (shl .i64 1 x13_1)) (wrap64 (x13_1 + 1)) l0 (l0.length : Int) (wrap64 (x34_1 + 1))) else (none))) = some (r1, r2) := by rw [← hbq16] at H; exact H
                    have Nbq16 := Aside0.mk hbq16
                    clear hbq16
                    by_cases c17 : bq16 = true
                    · subst c17
                      have H1 : (if 0 ≤ (wrap64 (x34_1 + 1)) then (if (wrap64 (x34_1 + 1)) < (t219.length : Int) then (if rdOf false t219 (wrap64 (x34_1 + 1)) = true then (if 0 ≤ x13_1 then (logic_Meets.l0 k1 t219 t223 (Go.bits .or .i64 x12_1 (shl .i64 1 x13_1)) (wrap64 (x13_1 + 1)) l0 (l0.length : Int) (wrap64 (x34_1 + 1))) else (none)) else (logic_Meets.l0 k1 t219 t223 x12_1 (wrap64 (x13_1 + 1)) l0 (l0.length : Int) (wrap64 (x34_1 + 1)))) else (none)) else (none)) = some (r1, r2) := by rw [if_pos rfl] at H; exact H
                      clear H
                      have H := H1
                      clear H1
                      obtain ⟨ji18, hji18⟩ : ∃ j_ : Int, (wrap64 (x34_1 + 1)) = j_ := ⟨_, rfl⟩
                      replace H : (if 0 ≤ (ji18) then (if (ji18) < (t219.length : Int) then (if rdOf false t219 (ji18) = true then (if 0 ≤ x13_1 then (logic_Meets.l0 k1 t219 t223 (Go.bits .or .i64 x12_1 (shl .i64 1 x13_1)) (wrap64 (x13_1 + 1)) l0 (l0.length : Int) ji18) else (none)) else (logic_Meets.l0 k1 t219 t223 x12_1 (wrap64 (x13_1 + 1)) l0 (l0.length : Int) ji18)) else (none)) else (none)) = some (r1, r2) := by first | (rw [hji18] at H; exact H) | (simp only [hji18] at H ⊢; exact H)
                      (try rw [hji18] at A12)
                      have hji18w : (IntKind.i64.wrap (x34_1 + 1)) = ji18 := (i64_w _).trans hji18
                      by_cases c19 : 0 ≤ (ji18)
                      · rw [if_pos c19] at H
                        have c19b0 : decide (0 ≤ (ji18)) = true := decide_eq_true c19
                        clear c19
                        by_cases c20 : (ji18) < (t219.length : Int)
                        · rw [if_pos c20] at H
                          have c20b0 : decide ((ji18) < (t219.length : Int)) = true := decide_eq_true c20
                          clear c20
                          obtain ⟨bq21, hbq21⟩ : ∃ b_ : Bool, b_ = (rdOf false t219 (ji18)) := ⟨_, rfl⟩
                          replace H : (if bq21 = true then (if 0 ≤ x13_1 then (logic_Meets.l0 k1 t219 t223 (Go.bits .or .i64 x12_1 (shl .i64 1 x13_1)) (wrap64 (x13_1 + 1)) l0 (l0.length : Int) ji18) else (none)) else (logic_Meets.l0 k1 t219 t223 x12_1 (wrap64 (x13_1 + 1)) l0 (l0.length : Int) ji18)) = some (r1, r2) := by rw [← hbq21] at H; exact H
                          have Nbq21 := Aside0.mk hbq21
                          clear hbq21
                          by_cases c22 : bq21 = true
                          · subst c22
                            have H1 : (if 0 ≤ x13_1 then (logic_Meets.l0 k1 t219 t223 (Go.bits .or .i64 x12_1 (shl .i64 1 x13_1)) (wrap64 (x13_1 + 1)) l0 (l0.length : Int) ji18) else (none)) = some (r1, r2) := by rw [if_pos rfl] at H; exact H
                            clear H
                            have H := H1
                            clear H1
                            by_cases c23 : 0 ≤ x13_1
                            · rw [if_pos c23] at H
                              have c23b0 := eq_true c23
                              have c23b1 : decide (0 ≤ x13_1) = true := decide_eq_true c23
                              clear c23
                              obtain ⟨ji24, hji24⟩ : ∃ j_ : Int, (shl .i64 1 x13_1) = j_ := ⟨_, rfl⟩
                              replace H : (logic_Meets.l0 k1 t219 t223 (Go.bits .or .i64 x12_1 (ji24)) (wrap64 (x13_1 + 1)) l0 (l0.length : Int) ji18) = some (r1, r2) := by first | (rw [hji24] at H; exact H) | (simp only [hji24] at H ⊢; exact H)
                              (try rw [hji24] at A12)
                              have hji24_ : (IntKind.i64.wrap (1 * 2 ^ min x13_1.toNat 64)) = ji24 := hji24
                              have hji24z : x13_1 ≤ 64 → (IntKind.i64.wrap (1 * 2 ^ x13_1.toNat)) = ji24 := shl_small hji24
                              have hji24u : (IntKind.i64.wrap (2 ^ min x13_1.toNat 64)) = ji24 := by have h_ := hji24_; rw [Int.one_mul] at h_; exact h_
                              have hji24v : x13_1 ≤ 64 → (IntKind.i64.wrap (2 ^ x13_1.toNat)) = ji24 := fun hle_ => by have h_ := hji24z hle_; rw [Int.one_mul] at h_; exact h_
                              have hji24y : (wrap64 (1 * 2 ^ min x13_1.toNat 64)) = ji24 := (i64_w _).symm.trans hji24_
                              have hji24x : x13_1 ≤ 64 → (wrap64 (1 * 2 ^ x13_1.toNat)) = ji24 := fun h_ => (i64_w _).symm.trans (hji24z h_)
                              have H' := Aside0.mk H
                              clear H
                              have p227 : 0 ≤ (x34_1 : Int) := of_decide_eq_true (by first | (with_reducible assumption) | assumption)
                              have q227 : x34_1 < (l0.length : Int) := of_decide_eq_true (by first | (with_reducible assumption) | assumption)
                              obtain ⟨ad227, e227, hx227_0, hx227_1⟩ := at_T63 HR0.out x34_1 p227 q227
                              cases e227
                              replace hx227_0 := (HB.out.cell (World.block_lt_of_cell? w _ hx227_0)).trans hx227_0
                              replace hx227_1 := (HB.out.cell (World.block_lt_of_cell? w _ hx227_1)).trans hx227_1
                              replace p227 := eq_true p227
                              replace q227 := eq_true q227
                              go_wp2_with (first | ((with_reducible refine gate_dst (N := 15) rfl ?_); refine box_event ?hg (N := 15) ?hd (cs := #[.int .i64 0, .int .i64 0]) (t := 63) ?hr ?_; (case hd => rfl); (case hg => rfl); (case hr => first | (go_simp; done) | (go_simp; rfl)); intro gb228 hg w25 hbox hb; have n0_ := Aside0.mk (Kd.R_below (by (with_reducible repeat (first | apply Kd.R_alloc | apply Kd.R_drewN | apply Kd.R_drew)); exact HO_8.out) hb); have n1_ := Aside0.mk (Kd.R_below (by (with_reducible repeat (first | apply Kd.R_alloc | apply Kd.R_drewN | apply Kd.R_drew)); exact HO_10.out) hb); have n2_ := Aside0.mk (below_step (by repeat (first | (with_reducible first | exact HB.out | apply below_alloc | apply pw_below_drewN | apply below_drew1) | exact HB.out)) hb); have n3_ := Aside0.mk (hbox); have n4_ := Aside0.mk ((by rw [hg]; exact (below_size (by repeat (first | (with_reducible first | exact HB.out | apply below_alloc | apply pw_below_drewN | apply below_drew1) | exact HB.out))) : w.heap.size ≤ gb228)); have n5_ := Aside0.mk ((by rw [hg]; exact (below_size (by repeat (first | (with_reducible first | exact HB.out | apply below_alloc | apply pw_below_drewN | apply below_drew1) | exact HB.out))) : w.heap.size ≤ gb228)); clear HO_8; clear HO_10; clear HB; have HO_8 := n0_; have HO_10 := n1_; have HB := n2_; have BK228 := n3_; have GW228 := n4_; have GE228 := n5_; clear n0_ n1_ n2_ n3_ n4_ n5_; clear hb hbox hg; have hcz26_0 : w25.cell? ⟨gb228, 0, none⟩ = some (.int .i64 0) := (blk_cell BK228.out 0).trans rfl; have hcz26_1 : w25.cell? ⟨gb228, 1, none⟩ = some (.int .i64 0) := (blk_cell BK228.out 1).trans rfl; have hfz26_0 := blk_frozen BK228.out 0; have hfz26_1 := blk_frozen BK228.out 1) | ((with_reducible refine gate_callee (f := 48) rfl ?_); refine goesL_ (some 41) rfl rfl Tryd.func48 (by kernel_rfl) rfl #[.int .i64 ((rd_T63 l0 x34_1).f0)] rfl (by (try simp only [List.map_toArray, List.map_cons, List.map_nil]); first | done | rfl | (simp only [List.length_drop, List.length_take]; rfl)) ?_; (with_reducible refine (logic_ahead.calls ((rd_T63 l0 x34_1).f0) true _ A12.out).mono ?_); rintro e w' ⟨rfl, ⟨nd, rfl⟩⟩; refine ⟨_, rfl, ?_⟩; obtain ⟨Ao27, co27, eo27⟩ := Kd.R_slice HO_8.out; subst eo27; have p230 : 0 ≤ (x34_1 : Int) := of_decide_eq_true (by first | (with_reducible assumption) | assumption); have q230 : x34_1 < (t219.length : Int) := of_decide_eq_true (by first | (with_reducible assumption) | assumption); obtain ⟨ad230, e230, hx230_0⟩ := Kd.at_bool (Kd.R_reads' HO_8.out).2.2 x34_1 p230 q230; (try rw [← Nbq16.out] at hx230_0); (try rw [← Nbq21.out] at hx230_0); cases e230; have hn230_0 : ad230.block ≠ gb228 := Kd.own_blk (Kd.R_ne HO_8.out BK228.out (by decide)); have hn230_1 : ad230.block ≠ gb228 := Kd.own_blk (Kd.R_ne HO_8.out BK228.out (by decide)); replace hx230_0 := (cell_far (p := ⟨gb228, 0, none⟩) (by first | (rw [add_block]; exact hn230_0) | (show (Addr.add _ _).block ≠ _; rw [add_block]; exact hn230_0) | exact hn230_0) (.int .i64 ((rd_T63 l0 x34_1).f0))).trans hx230_0; replace hx230_0 := (cell_far (p := ⟨gb228, 1, none⟩) (by first | (rw [add_block]; exact hn230_1) | (show (Addr.add _ _).block ≠ _; rw [add_block]; exact hn230_1) | exact hn230_1) (.int .i64 ((rd_T63 l0 x34_1).f1))).trans hx230_0; clear hn230_0; clear hn230_1; replace p230 := eq_true p230; replace q230 := eq_true q230; have p231 : 0 ≤ ((ji18) : Int) := of_decide_eq_true (by first | (with_reducible assumption) | assumption); have q231 : (ji18) < (t219.length : Int) := of_decide_eq_true (by first | (with_reducible assumption) | assumption); obtain ⟨ad231, e231, hx231_0⟩ := Kd.at_bool (Kd.R_reads' HO_8.out).2.2 (ji18) p231 q231; (try rw [← Nbq16.out] at hx231_0); (try rw [← Nbq21.out] at hx231_0); obtain rfl : ad230 = ad231 := (by injection e231); have hn231_0 : ad230.block ≠ gb228 := Kd.own_blk (Kd.R_ne HO_8.out BK228.out (by decide)); have hn231_1 : ad230.block ≠ gb228 := Kd.own_blk (Kd.R_ne HO_8.out BK228.out (by decide)); replace hx231_0 := (cell_far (p := ⟨gb228, 0, none⟩) (by first | (rw [add_block]; exact hn231_0) | (show (Addr.add _ _).block ≠ _; rw [add_block]; exact hn231_0) | exact hn231_0) (.int .i64 ((rd_T63 l0 x34_1).f0))).trans hx231_0; replace hx231_0 := (cell_far (p := ⟨gb228, 1, none⟩) (by first | (rw [add_block]; exact hn231_1) | (show (Addr.add _ _).block ≠ _; rw [add_block]; exact hn231_1) | exact hn231_1) (.int .i64 ((rd_T63 l0 x34_1).f1))).trans hx231_0; clear hn231_0; clear hn231_1; replace p231 := eq_true p231; replace q231 := eq_true q231))
                              go_roundg k1
                              case measure => have := HK1.out; omega
                              case rel => exact ⟨(Go.bits .or .i64 x12_1 (ji24)), (wrap64 (x13_1 + 1)), (ji18), (by first | rfl | (simp; done) | (simp only [← hji24] <;> (first | rfl | simp)) | (simp [*]; done)), (by first | rfl | (simp; done) | (simp [*]; done)), (by first | rfl | (simp; done) | (simp only [← hji18] <;> (first | rfl | simp)) | (simp [*]; done)), H', ⟨by have := HK1.out; omega⟩, ⟨by (with_reducible repeat (first | apply Kd.R_alloc | apply Kd.R_drewN | apply Kd.R_drew)); exact Kd.R_mono (Kd.R_far (p := ⟨gb228, 1, none⟩) (Kd.R_far (p := ⟨gb228, 0, none⟩) (Kd.R_types HO_8.out BK228.out (by decide)) (fun _ hk => hk.2) (.int .i64 ((rd_T63 l0 x34_1).f0))) (fun _ hk => hk.2) (.int .i64 ((rd_T63 l0 x34_1).f1))) (fun _ hk => trivial)⟩, ⟨by (with_reducible repeat (first | apply Kd.R_alloc | apply Kd.R_drewN | apply Kd.R_drew)); exact Kd.R_mono (Kd.R_far (p := ⟨gb228, 1, none⟩) (Kd.R_far (p := ⟨gb228, 0, none⟩) (Kd.R_types HO_10.out BK228.out (by decide)) (fun _ hk => hk.2) (.int .i64 ((rd_T63 l0 x34_1).f0))) (fun _ hk => hk.2) (.int .i64 ((rd_T63 l0 x34_1).f1))) (fun _ hk => trivial)⟩, ⟨by repeat (first | (with_reducible first | exact HB.out | apply below_alloc | apply pw_below_drewN | apply below_drew1 | refine below_set ?_ GE228.out) | exact HB.out)⟩⟩
                            · rw [if_neg c23] at H
                              exact absurd H (by simp)
                          · replace c22 := Bool.eq_false_iff.mpr c22
                            subst c22
                            have H1 : (logic_Meets.l0 k1 t219 t223 x12_1 (wrap64 (x13_1 + 1)) l0 (l0.length : Int) ji18) = some (r1, r2) := by rw [if_neg (show ¬ (false = true) by decide)] at H; exact H
                            clear H
                            have H := H1
                            clear H1
                            have H' := Aside0.mk H
                            clear H
                            have p227 : 0 ≤ (x34_1 : Int) := of_decide_eq_true (by first | (with_reducible assumption) | assumption)
                            have q227 : x34_1 < (l0.length : Int) := of_decide_eq_true (by first | (with_reducible assumption) | assumption)
                            obtain ⟨ad227, e227, hx227_0, hx227_1⟩ := at_T63 HR0.out x34_1 p227 q227
                            cases e227
                            replace hx227_0 := (HB.out.cell (World.block_lt_of_cell? w _ hx227_0)).trans hx227_0
                            replace hx227_1 := (HB.out.cell (World.block_lt_of_cell? w _ hx227_1)).trans hx227_1
                            replace p227 := eq_true p227
                            replace q227 := eq_true q227
                            go_wp2_with (first | ((with_reducible refine gate_dst (N := 15) rfl ?_); refine box_event ?hg (N := 15) ?hd (cs := #[.int .i64 0, .int .i64 0]) (t := 63) ?hr ?_; (case hd => rfl); (case hg => rfl); (case hr => first | (go_simp; done) | (go_simp; rfl)); intro gb228 hg w28 hbox hb; have n0_ := Aside0.mk (Kd.R_below (by (with_reducible repeat (first | apply Kd.R_alloc | apply Kd.R_drewN | apply Kd.R_drew)); exact HO_8.out) hb); have n1_ := Aside0.mk (Kd.R_below (by (with_reducible repeat (first | apply Kd.R_alloc | apply Kd.R_drewN | apply Kd.R_drew)); exact HO_10.out) hb); have n2_ := Aside0.mk (below_step (by repeat (first | (with_reducible first | exact HB.out | apply below_alloc | apply pw_below_drewN | apply below_drew1) | exact HB.out)) hb); have n3_ := Aside0.mk (hbox); have n4_ := Aside0.mk ((by rw [hg]; exact (below_size (by repeat (first | (with_reducible first | exact HB.out | apply below_alloc | apply pw_below_drewN | apply below_drew1) | exact HB.out))) : w.heap.size ≤ gb228)); have n5_ := Aside0.mk ((by rw [hg]; exact (below_size (by repeat (first | (with_reducible first | exact HB.out | apply below_alloc | apply pw_below_drewN | apply below_drew1) | exact HB.out))) : w.heap.size ≤ gb228)); clear HO_8; clear HO_10; clear HB; have HO_8 := n0_; have HO_10 := n1_; have HB := n2_; have BK228 := n3_; have GW228 := n4_; have GE228 := n5_; clear n0_ n1_ n2_ n3_ n4_ n5_; clear hb hbox hg; have hcz29_0 : w28.cell? ⟨gb228, 0, none⟩ = some (.int .i64 0) := (blk_cell BK228.out 0).trans rfl; have hcz29_1 : w28.cell? ⟨gb228, 1, none⟩ = some (.int .i64 0) := (blk_cell BK228.out 1).trans rfl; have hfz29_0 := blk_frozen BK228.out 0; have hfz29_1 := blk_frozen BK228.out 1) | ((with_reducible refine gate_callee (f := 48) rfl ?_); refine goesL_ (some 41) rfl rfl Tryd.func48 (by kernel_rfl) rfl #[.int .i64 ((rd_T63 l0 x34_1).f0)] rfl (by (try simp only [List.map_toArray, List.map_cons, List.map_nil]); first | done | rfl | (simp only [List.length_drop, List.length_take]; rfl)) ?_; (with_reducible refine (logic_ahead.calls ((rd_T63 l0 x34_1).f0) true _ A12.out).mono ?_); rintro e w' ⟨rfl, ⟨nd, rfl⟩⟩; refine ⟨_, rfl, ?_⟩; obtain ⟨Ao30, co30, eo30⟩ := Kd.R_slice HO_8.out; subst eo30; have p230 : 0 ≤ (x34_1 : Int) := of_decide_eq_true (by first | (with_reducible assumption) | assumption); have q230 : x34_1 < (t219.length : Int) := of_decide_eq_true (by first | (with_reducible assumption) | assumption); obtain ⟨ad230, e230, hx230_0⟩ := Kd.at_bool (Kd.R_reads' HO_8.out).2.2 x34_1 p230 q230; (try rw [← Nbq16.out] at hx230_0); (try rw [← Nbq21.out] at hx230_0); cases e230; have hn230_0 : ad230.block ≠ gb228 := Kd.own_blk (Kd.R_ne HO_8.out BK228.out (by decide)); have hn230_1 : ad230.block ≠ gb228 := Kd.own_blk (Kd.R_ne HO_8.out BK228.out (by decide)); replace hx230_0 := (cell_far (p := ⟨gb228, 0, none⟩) (by first | (rw [add_block]; exact hn230_0) | (show (Addr.add _ _).block ≠ _; rw [add_block]; exact hn230_0) | exact hn230_0) (.int .i64 ((rd_T63 l0 x34_1).f0))).trans hx230_0; replace hx230_0 := (cell_far (p := ⟨gb228, 1, none⟩) (by first | (rw [add_block]; exact hn230_1) | (show (Addr.add _ _).block ≠ _; rw [add_block]; exact hn230_1) | exact hn230_1) (.int .i64 ((rd_T63 l0 x34_1).f1))).trans hx230_0; clear hn230_0; clear hn230_1; replace p230 := eq_true p230; replace q230 := eq_true q230; have p231 : 0 ≤ ((ji18) : Int) := of_decide_eq_true (by first | (with_reducible assumption) | assumption); have q231 : (ji18) < (t219.length : Int) := of_decide_eq_true (by first | (with_reducible assumption) | assumption); obtain ⟨ad231, e231, hx231_0⟩ := Kd.at_bool (Kd.R_reads' HO_8.out).2.2 (ji18) p231 q231; (try rw [← Nbq16.out] at hx231_0); (try rw [← Nbq21.out] at hx231_0); obtain rfl : ad230 = ad231 := (by injection e231); have hn231_0 : ad230.block ≠ gb228 := Kd.own_blk (Kd.R_ne HO_8.out BK228.out (by decide)); have hn231_1 : ad230.block ≠ gb228 := Kd.own_blk (Kd.R_ne HO_8.out BK228.out (by decide)); replace hx231_0 := (cell_far (p := ⟨gb228, 0, none⟩) (by first | (rw [add_block]; exact hn231_0) | (show (Addr.add _ _).block ≠ _; rw [add_block]; exact hn231_0) | exact hn231_0) (.int .i64 ((rd_T63 l0 x34_1).f0))).trans hx231_0; replace hx231_0 := (cell_far (p := ⟨gb228, 1, none⟩) (by first | (rw [add_block]; exact hn231_1) | (show (Addr.add _ _).block ≠ _; rw [add_block]; exact hn231_1) | exact hn231_1) (.int .i64 ((rd_T63 l0 x34_1).f1))).trans hx231_0; clear hn231_0; clear hn231_1; replace p231 := eq_true p231; replace q231 := eq_true q231))
                            go_roundg k1
                            case measure => have := HK1.out; omega
                            case rel => exact ⟨(x12_1), (wrap64 (x13_1 + 1)), (ji18), (by first | rfl | (simp; done) | (simp [*]; done)), (by first | rfl | (simp; done) | (simp [*]; done)), (by first | rfl | (simp; done) | (simp only [← hji18] <;> (first | rfl | simp)) | (simp [*]; done)), H', ⟨by have := HK1.out; omega⟩, ⟨by (with_reducible repeat (first | apply Kd.R_alloc | apply Kd.R_drewN | apply Kd.R_drew)); exact Kd.R_mono (Kd.R_far (p := ⟨gb228, 1, none⟩) (Kd.R_far (p := ⟨gb228, 0, none⟩) (Kd.R_types HO_8.out BK228.out (by decide)) (fun _ hk => hk.2) (.int .i64 ((rd_T63 l0 x34_1).f0))) (fun _ hk => hk.2) (.int .i64 ((rd_T63 l0 x34_1).f1))) (fun _ hk => trivial)⟩, ⟨by (with_reducible repeat (first | apply Kd.R_alloc | apply Kd.R_drewN | apply Kd.R_drew)); exact Kd.R_mono (Kd.R_far (p := ⟨gb228, 1, none⟩) (Kd.R_far (p := ⟨gb228, 0, none⟩) (Kd.R_types HO_10.out BK228.out (by decide)) (fun _ hk => hk.2) (.int .i64 ((rd_T63 l0 x34_1).f0))) (fun _ hk => hk.2) (.int .i64 ((rd_T63 l0 x34_1).f1))) (fun _ hk => trivial)⟩, ⟨by repeat (first | (with_reducible first | exact HB.out | apply below_alloc | apply pw_below_drewN | apply below_drew1 | refine below_set ?_ GE228.out) | exact HB.out)⟩⟩
                        · rw [if_neg c20] at H
                          exact absurd H (by simp)
                      · rw [if_neg c19] at H
                        exact absurd H (by simp)
                    · replace c17 := Bool.eq_false_iff.mpr c17
                      subst c17
                      have H1 : (if 0 ≤ x13_1 then (logic_Meets.l0 k1 t219 t223 (Go.bits .or .i64 x12_1 (shl .i64 1 x13_1)) (wrap64 (x13_1 + 1)) l0 (l0.length : Int) (wrap64 (x34_1 + 1))) else (none)) = some (r1, r2) := by rw [if_neg (show ¬ (false = true) by decide)] at H; exact H
                      clear H
                      have H := H1
                      clear H1
                      by_cases c31 : 0 ≤ x13_1
                      · rw [if_pos c31] at H
                        have c31b0 := eq_true c31
                        have c31b1 : decide (0 ≤ x13_1) = true := decide_eq_true c31
                        clear c31
                        obtain ⟨ji32, hji32⟩ : ∃ j_ : Int, (shl .i64 1 x13_1) = j_ := ⟨_, rfl⟩
                        replace H : (logic_Meets.l0 k1 t219 t223 (Go.bits .or .i64 x12_1 (ji32)) (wrap64 (x13_1 + 1)) l0 (l0.length : Int) (wrap64 (x34_1 + 1))) = some (r1, r2) := by first | (rw [hji32] at H; exact H) | (simp only [hji32] at H ⊢; exact H)
                        (try rw [hji32] at A12)
                        have hji32_ : (IntKind.i64.wrap (1 * 2 ^ min x13_1.toNat 64)) = ji32 := hji32
                        have hji32z : x13_1 ≤ 64 → (IntKind.i64.wrap (1 * 2 ^ x13_1.toNat)) = ji32 := shl_small hji32
                        have hji32u : (IntKind.i64.wrap (2 ^ min x13_1.toNat 64)) = ji32 := by have h_ := hji32_; rw [Int.one_mul] at h_; exact h_
                        have hji32v : x13_1 ≤ 64 → (IntKind.i64.wrap (2 ^ x13_1.toNat)) = ji32 := fun hle_ => by have h_ := hji32z hle_; rw [Int.one_mul] at h_; exact h_
                        have hji32y : (wrap64 (1 * 2 ^ min x13_1.toNat 64)) = ji32 := (i64_w _).symm.trans hji32_
                        have hji32x : x13_1 ≤ 64 → (wrap64 (1 * 2 ^ x13_1.toNat)) = ji32 := fun h_ => (i64_w _).symm.trans (hji32z h_)
                        have H' := Aside0.mk H
                        clear H
                        have p227 : 0 ≤ (x34_1 : Int) := of_decide_eq_true (by first | (with_reducible assumption) | assumption)
                        have q227 : x34_1 < (l0.length : Int) := of_decide_eq_true (by first | (with_reducible assumption) | assumption)
                        obtain ⟨ad227, e227, hx227_0, hx227_1⟩ := at_T63 HR0.out x34_1 p227 q227
                        cases e227
                        replace hx227_0 := (HB.out.cell (World.block_lt_of_cell? w _ hx227_0)).trans hx227_0
                        replace hx227_1 := (HB.out.cell (World.block_lt_of_cell? w _ hx227_1)).trans hx227_1
                        replace p227 := eq_true p227
                        replace q227 := eq_true q227
                        go_wp2_with (first | ((with_reducible refine gate_dst (N := 15) rfl ?_); refine box_event ?hg (N := 15) ?hd (cs := #[.int .i64 0, .int .i64 0]) (t := 63) ?hr ?_; (case hd => rfl); (case hg => rfl); (case hr => first | (go_simp; done) | (go_simp; rfl)); intro gb228 hg w33 hbox hb; have n0_ := Aside0.mk (Kd.R_below (by (with_reducible repeat (first | apply Kd.R_alloc | apply Kd.R_drewN | apply Kd.R_drew)); exact HO_8.out) hb); have n1_ := Aside0.mk (Kd.R_below (by (with_reducible repeat (first | apply Kd.R_alloc | apply Kd.R_drewN | apply Kd.R_drew)); exact HO_10.out) hb); have n2_ := Aside0.mk (below_step (by repeat (first | (with_reducible first | exact HB.out | apply below_alloc | apply pw_below_drewN | apply below_drew1) | exact HB.out)) hb); have n3_ := Aside0.mk (hbox); have n4_ := Aside0.mk ((by rw [hg]; exact (below_size (by repeat (first | (with_reducible first | exact HB.out | apply below_alloc | apply pw_below_drewN | apply below_drew1) | exact HB.out))) : w.heap.size ≤ gb228)); have n5_ := Aside0.mk ((by rw [hg]; exact (below_size (by repeat (first | (with_reducible first | exact HB.out | apply below_alloc | apply pw_below_drewN | apply below_drew1) | exact HB.out))) : w.heap.size ≤ gb228)); clear HO_8; clear HO_10; clear HB; have HO_8 := n0_; have HO_10 := n1_; have HB := n2_; have BK228 := n3_; have GW228 := n4_; have GE228 := n5_; clear n0_ n1_ n2_ n3_ n4_ n5_; clear hb hbox hg; have hcz34_0 : w33.cell? ⟨gb228, 0, none⟩ = some (.int .i64 0) := (blk_cell BK228.out 0).trans rfl; have hcz34_1 : w33.cell? ⟨gb228, 1, none⟩ = some (.int .i64 0) := (blk_cell BK228.out 1).trans rfl; have hfz34_0 := blk_frozen BK228.out 0; have hfz34_1 := blk_frozen BK228.out 1) | ((with_reducible refine gate_callee (f := 48) rfl ?_); refine goesL_ (some 41) rfl rfl Tryd.func48 (by kernel_rfl) rfl #[.int .i64 ((rd_T63 l0 x34_1).f0)] rfl (by (try simp only [List.map_toArray, List.map_cons, List.map_nil]); first | done | rfl | (simp only [List.length_drop, List.length_take]; rfl)) ?_; (with_reducible refine (logic_ahead.calls ((rd_T63 l0 x34_1).f0) true _ A12.out).mono ?_); rintro e w' ⟨rfl, ⟨nd, rfl⟩⟩; refine ⟨_, rfl, ?_⟩; obtain ⟨Ao35, co35, eo35⟩ := Kd.R_slice HO_8.out; subst eo35; have p230 : 0 ≤ (x34_1 : Int) := of_decide_eq_true (by first | (with_reducible assumption) | assumption); have q230 : x34_1 < (t219.length : Int) := of_decide_eq_true (by first | (with_reducible assumption) | assumption); obtain ⟨ad230, e230, hx230_0⟩ := Kd.at_bool (Kd.R_reads' HO_8.out).2.2 x34_1 p230 q230; (try rw [← Nbq16.out] at hx230_0); cases e230; have hn230_0 : ad230.block ≠ gb228 := Kd.own_blk (Kd.R_ne HO_8.out BK228.out (by decide)); have hn230_1 : ad230.block ≠ gb228 := Kd.own_blk (Kd.R_ne HO_8.out BK228.out (by decide)); replace hx230_0 := (cell_far (p := ⟨gb228, 0, none⟩) (by first | (rw [add_block]; exact hn230_0) | (show (Addr.add _ _).block ≠ _; rw [add_block]; exact hn230_0) | exact hn230_0) (.int .i64 ((rd_T63 l0 x34_1).f0))).trans hx230_0; replace hx230_0 := (cell_far (p := ⟨gb228, 1, none⟩) (by first | (rw [add_block]; exact hn230_1) | (show (Addr.add _ _).block ≠ _; rw [add_block]; exact hn230_1) | exact hn230_1) (.int .i64 ((rd_T63 l0 x34_1).f1))).trans hx230_0; clear hn230_0; clear hn230_1; replace p230 := eq_true p230; replace q230 := eq_true q230))
                        go_roundg k1
                        case measure => have := HK1.out; omega
                        case rel => exact ⟨(Go.bits .or .i64 x12_1 (ji32)), (wrap64 (x13_1 + 1)), (wrap64 (x34_1 + 1)), (by first | rfl | (simp; done) | (simp only [← hji32] <;> (first | rfl | simp)) | (simp [*]; done)), (by first | rfl | (simp; done) | (simp [*]; done)), (by first | rfl | (simp; done) | (simp [*]; done)), H', ⟨by have := HK1.out; omega⟩, ⟨by (with_reducible repeat (first | apply Kd.R_alloc | apply Kd.R_drewN | apply Kd.R_drew)); exact Kd.R_mono (Kd.R_far (p := ⟨gb228, 1, none⟩) (Kd.R_far (p := ⟨gb228, 0, none⟩) (Kd.R_types HO_8.out BK228.out (by decide)) (fun _ hk => hk.2) (.int .i64 ((rd_T63 l0 x34_1).f0))) (fun _ hk => hk.2) (.int .i64 ((rd_T63 l0 x34_1).f1))) (fun _ hk => trivial)⟩, ⟨by (with_reducible repeat (first | apply Kd.R_alloc | apply Kd.R_drewN | apply Kd.R_drew)); exact Kd.R_mono (Kd.R_far (p := ⟨gb228, 1, none⟩) (Kd.R_far (p := ⟨gb228, 0, none⟩) (Kd.R_types HO_10.out BK228.out (by decide)) (fun _ hk => hk.2) (.int .i64 ((rd_T63 l0 x34_1).f0))) (fun _ hk => hk.2) (.int .i64 ((rd_T63 l0 x34_1).f1))) (fun _ hk => trivial)⟩, ⟨by repeat (first | (with_reducible first | exact HB.out | apply below_alloc | apply pw_below_drewN | apply below_drew1 | refine below_set ?_ GE228.out) | exact HB.out)⟩⟩
                      · rw [if_neg c31] at H
                        exact absurd H (by simp)
                  · rw [if_neg c15] at H
                    exact absurd H (by simp)
                · rw [if_neg c14] at H
                  have c14b0 : (((rd_T63 l0 x34_1).f0) == 17) = false := beq_eq_false_iff_ne.mpr c14
                  have c14b1 : (((rd_T63 l0 x34_1).f0) != 17) = true := bne_iff_ne.mpr c14
                  by_cases c36 : ((rd_T63 l0 x34_1).f0) = 18
                  · rw [if_pos c36] at H
                    have c36b0 : (((rd_T63 l0 x34_1).f0) == 18) = true := beq_iff_eq.mpr c36
                    have c36b1 : (((rd_T63 l0 x34_1).f0) != 18) = false := bne_eq_false_iff_eq.mpr c36
                    clear c36
                    by_cases c37 : x34_1 < (t219.length : Int)
                    · rw [if_pos c37] at H
                      have c37b0 : decide (x34_1 < (t219.length : Int)) = true := decide_eq_true c37
                      clear c37
                      obtain ⟨bq38, hbq38⟩ : ∃ b_ : Bool, b_ = (rdOf false t219 x34_1) := ⟨_, rfl⟩
                      replace H : (if bq38 = true then (if 0 ≤ x13_1 then (logic_Meets.l0 k1 t219 t223 (Go.bits .or .i64 x12_1 (shl .i64 1 x13_1)) (wrap64 (x13_1 + 1)) l0 (l0.length : Int) (wrap64 (x34_1 + 1))) else (none)) else (if 0 ≤ (wrap64 (x34_1 + 1)) then (if (wrap64 (x34_1 + 1)) < (t219.length : Int) then (if (rdOf false t219 (wrap64 (x34_1 + 1)) = true) then (logic_Meets.l0 k1 t219 t223 x12_1 (wrap64 (x13_1 + 1)) l0 (l0.length : Int) (wrap64 (x34_1 + 1))) else (if 0 ≤ x13_1 then (logic_Meets.l0 k1 t219 t223 (Go.bits .or .i64 x12_1 (shl .i64 1 x13_1)) (wrap64 (x13_1 + 1)) l0 (l0.length : Int) (wrap64 (x34_1 + 1))) else (none))) else (none)) else (none))) = some (r1, r2) := by rw [← hbq38] at H; exact H
                      have Nbq38 := Aside0.mk hbq38
                      clear hbq38
                      by_cases c39 : bq38 = true
                      · subst c39
                        have H1 : (if 0 ≤ x13_1 then (logic_Meets.l0 k1 t219 t223 (Go.bits .or .i64 x12_1 (shl .i64 1 x13_1)) (wrap64 (x13_1 + 1)) l0 (l0.length : Int) (wrap64 (x34_1 + 1))) else (none)) = some (r1, r2) := by rw [if_pos rfl] at H; exact H
                        clear H
                        have H := H1
                        clear H1
                        by_cases c40 : 0 ≤ x13_1
                        · rw [if_pos c40] at H
                          have c40b0 := eq_true c40
                          have c40b1 : decide (0 ≤ x13_1) = true := decide_eq_true c40
                          clear c40
                          obtain ⟨ji41, hji41⟩ : ∃ j_ : Int, (shl .i64 1 x13_1) = j_ := ⟨_, rfl⟩
                          replace H : (logic_Meets.l0 k1 t219 t223 (Go.bits .or .i64 x12_1 (ji41)) (wrap64 (x13_1 + 1)) l0 (l0.length : Int) (wrap64 (x34_1 + 1))) = some (r1, r2) := by first | (rw [hji41] at H; exact H) | (simp only [hji41] at H ⊢; exact H)
                          (try rw [hji41] at A12)
                          have hji41_ : (IntKind.i64.wrap (1 * 2 ^ min x13_1.toNat 64)) = ji41 := hji41
                          have hji41z : x13_1 ≤ 64 → (IntKind.i64.wrap (1 * 2 ^ x13_1.toNat)) = ji41 := shl_small hji41
                          have hji41u : (IntKind.i64.wrap (2 ^ min x13_1.toNat 64)) = ji41 := by have h_ := hji41_; rw [Int.one_mul] at h_; exact h_
                          have hji41v : x13_1 ≤ 64 → (IntKind.i64.wrap (2 ^ x13_1.toNat)) = ji41 := fun hle_ => by have h_ := hji41z hle_; rw [Int.one_mul] at h_; exact h_
                          have hji41y : (wrap64 (1 * 2 ^ min x13_1.toNat 64)) = ji41 := (i64_w _).symm.trans hji41_
                          have hji41x : x13_1 ≤ 64 → (wrap64 (1 * 2 ^ x13_1.toNat)) = ji41 := fun h_ => (i64_w _).symm.trans (hji41z h_)
                          have H' := Aside0.mk H
                          clear H
                          have p227 : 0 ≤ (x34_1 : Int) := of_decide_eq_true (by first | (with_reducible assumption) | assumption)
                          have q227 : x34_1 < (l0.length : Int) := of_decide_eq_true (by first | (with_reducible assumption) | assumption)
                          obtain ⟨ad227, e227, hx227_0, hx227_1⟩ := at_T63 HR0.out x34_1 p227 q227
                          cases e227
                          replace hx227_0 := (HB.out.cell (World.block_lt_of_cell? w _ hx227_0)).trans hx227_0
                          replace hx227_1 := (HB.out.cell (World.block_lt_of_cell? w _ hx227_1)).trans hx227_1
                          replace p227 := eq_true p227
                          replace q227 := eq_true q227
                          go_wp2_with (first | ((with_reducible refine gate_dst (N := 15) rfl ?_); refine box_event ?hg (N := 15) ?hd (cs := #[.int .i64 0, .int .i64 0]) (t := 63) ?hr ?_; (case hd => rfl); (case hg => rfl); (case hr => first | (go_simp; done) | (go_simp; rfl)); intro gb228 hg w42 hbox hb; have n0_ := Aside0.mk (Kd.R_below (by (with_reducible repeat (first | apply Kd.R_alloc | apply Kd.R_drewN | apply Kd.R_drew)); exact HO_8.out) hb); have n1_ := Aside0.mk (Kd.R_below (by (with_reducible repeat (first | apply Kd.R_alloc | apply Kd.R_drewN | apply Kd.R_drew)); exact HO_10.out) hb); have n2_ := Aside0.mk (below_step (by repeat (first | (with_reducible first | exact HB.out | apply below_alloc | apply pw_below_drewN | apply below_drew1) | exact HB.out)) hb); have n3_ := Aside0.mk (hbox); have n4_ := Aside0.mk ((by rw [hg]; exact (below_size (by repeat (first | (with_reducible first | exact HB.out | apply below_alloc | apply pw_below_drewN | apply below_drew1) | exact HB.out))) : w.heap.size ≤ gb228)); have n5_ := Aside0.mk ((by rw [hg]; exact (below_size (by repeat (first | (with_reducible first | exact HB.out | apply below_alloc | apply pw_below_drewN | apply below_drew1) | exact HB.out))) : w.heap.size ≤ gb228)); clear HO_8; clear HO_10; clear HB; have HO_8 := n0_; have HO_10 := n1_; have HB := n2_; have BK228 := n3_; have GW228 := n4_; have GE228 := n5_; clear n0_ n1_ n2_ n3_ n4_ n5_; clear hb hbox hg; have hcz43_0 : w42.cell? ⟨gb228, 0, none⟩ = some (.int .i64 0) := (blk_cell BK228.out 0).trans rfl; have hcz43_1 : w42.cell? ⟨gb228, 1, none⟩ = some (.int .i64 0) := (blk_cell BK228.out 1).trans rfl; have hfz43_0 := blk_frozen BK228.out 0; have hfz43_1 := blk_frozen BK228.out 1) | ((with_reducible refine gate_callee (f := 48) rfl ?_); refine goesL_ (some 41) rfl rfl Tryd.func48 (by kernel_rfl) rfl #[.int .i64 ((rd_T63 l0 x34_1).f0)] rfl (by (try simp only [List.map_toArray, List.map_cons, List.map_nil]); first | done | rfl | (simp only [List.length_drop, List.length_take]; rfl)) ?_; (with_reducible refine (logic_ahead.calls ((rd_T63 l0 x34_1).f0) true _ A12.out).mono ?_); rintro e w' ⟨rfl, ⟨nd, rfl⟩⟩; refine ⟨_, rfl, ?_⟩; obtain ⟨Ao44, co44, eo44⟩ := Kd.R_slice HO_8.out; subst eo44; have p232 : 0 ≤ (x34_1 : Int) := of_decide_eq_true (by first | (with_reducible assumption) | assumption); have q232 : x34_1 < (t219.length : Int) := of_decide_eq_true (by first | (with_reducible assumption) | assumption); obtain ⟨ad232, e232, hx232_0⟩ := Kd.at_bool (Kd.R_reads' HO_8.out).2.2 x34_1 p232 q232; (try rw [← Nbq38.out] at hx232_0); cases e232; have hn232_0 : ad232.block ≠ gb228 := Kd.own_blk (Kd.R_ne HO_8.out BK228.out (by decide)); have hn232_1 : ad232.block ≠ gb228 := Kd.own_blk (Kd.R_ne HO_8.out BK228.out (by decide)); replace hx232_0 := (cell_far (p := ⟨gb228, 0, none⟩) (by first | (rw [add_block]; exact hn232_0) | (show (Addr.add _ _).block ≠ _; rw [add_block]; exact hn232_0) | exact hn232_0) (.int .i64 ((rd_T63 l0 x34_1).f0))).trans hx232_0; replace hx232_0 := (cell_far (p := ⟨gb228, 1, none⟩) (by first | (rw [add_block]; exact hn232_1) | (show (Addr.add _ _).block ≠ _; rw [add_block]; exact hn232_1) | exact hn232_1) (.int .i64 ((rd_T63 l0 x34_1).f1))).trans hx232_0; clear hn232_0; clear hn232_1; replace p232 := eq_true p232; replace q232 := eq_true q232))
                          go_roundg k1
                          case measure => have := HK1.out; omega
                          case rel => exact ⟨(Go.bits .or .i64 x12_1 (ji41)), (wrap64 (x13_1 + 1)), (wrap64 (x34_1 + 1)), (by first | rfl | (simp; done) | (simp only [← hji41] <;> (first | rfl | simp)) | (simp [*]; done)), (by first | rfl | (simp; done) | (simp [*]; done)), (by first | rfl | (simp; done) | (simp [*]; done)), H', ⟨by have := HK1.out; omega⟩, ⟨by (with_reducible repeat (first | apply Kd.R_alloc | apply Kd.R_drewN | apply Kd.R_drew)); exact Kd.R_mono (Kd.R_far (p := ⟨gb228, 1, none⟩) (Kd.R_far (p := ⟨gb228, 0, none⟩) (Kd.R_types HO_8.out BK228.out (by decide)) (fun _ hk => hk.2) (.int .i64 ((rd_T63 l0 x34_1).f0))) (fun _ hk => hk.2) (.int .i64 ((rd_T63 l0 x34_1).f1))) (fun _ hk => trivial)⟩, ⟨by (with_reducible repeat (first | apply Kd.R_alloc | apply Kd.R_drewN | apply Kd.R_drew)); exact Kd.R_mono (Kd.R_far (p := ⟨gb228, 1, none⟩) (Kd.R_far (p := ⟨gb228, 0, none⟩) (Kd.R_types HO_10.out BK228.out (by decide)) (fun _ hk => hk.2) (.int .i64 ((rd_T63 l0 x34_1).f0))) (fun _ hk => hk.2) (.int .i64 ((rd_T63 l0 x34_1).f1))) (fun _ hk => trivial)⟩, ⟨by repeat (first | (with_reducible first | exact HB.out | apply below_alloc | apply pw_below_drewN | apply below_drew1 | refine below_set ?_ GE228.out) | exact HB.out)⟩⟩
                        · rw [if_neg c40] at H
                          exact absurd H (by simp)
                      · replace c39 := Bool.eq_false_iff.mpr c39
                        subst c39
                        have H1 : (if 0 ≤ (wrap64 (x34_1 + 1)) then (if (wrap64 (x34_1 + 1)) < (t219.length : Int) then (if (rdOf false t219 (wrap64 (x34_1 + 1)) = true) then (logic_Meets.l0 k1 t219 t223 x12_1 (wrap64 (x13_1 + 1)) l0 (l0.length : Int) (wrap64 (x34_1 + 1))) else (if 0 ≤ x13_1 then (logic_Meets.l0 k1 t219 t223 (Go.bits .or .i64 x12_1 (shl .i64 1 x13_1)) (wrap64 (x13_1 + 1)) l0 (l0.length : Int) (wrap64 (x34_1 + 1))) else (none))) else (none)) else (none)) = some (r1, r2) := by rw [if_neg (show ¬ (false = true) by decide)] at H; exact H
                        clear H
                        have H := H1
                        clear H1
                        obtain ⟨ji45, hji45⟩ : ∃ j_ : Int, (wrap64 (x34_1 + 1)) = j_ := ⟨_, rfl⟩
                        replace H : (if 0 ≤ (ji45) then (if (ji45) < (t219.length : Int) then (if (rdOf false t219 (ji45) = true) then (logic_Meets.l0 k1 t219 t223 x12_1 (wrap64 (x13_1 + 1)) l0 (l0.length : Int) ji45) else (if 0 ≤ x13_1 then (logic_Meets.l0 k1 t219 t223 (Go.bits .or .i64 x12_1 (shl .i64 1 x13_1)) (wrap64 (x13_1 + 1)) l0 (l0.length : Int) ji45) else (none))) else (none)) else (none)) = some (r1, r2) := by first | (rw [hji45] at H; exact H) | (simp only [hji45] at H ⊢; exact H)
                        (try rw [hji45] at A12)
                        have hji45w : (IntKind.i64.wrap (x34_1 + 1)) = ji45 := (i64_w _).trans hji45
                        by_cases c46 : 0 ≤ (ji45)
                        · rw [if_pos c46] at H
                          have c46b0 : decide (0 ≤ (ji45)) = true := decide_eq_true c46
                          clear c46
                          by_cases c47 : (ji45) < (t219.length : Int)
                          · rw [if_pos c47] at H
                            have c47b0 : decide ((ji45) < (t219.length : Int)) = true := decide_eq_true c47
                            clear c47
                            obtain ⟨bq48, hbq48⟩ : ∃ b_ : Bool, b_ = (rdOf false t219 (ji45)) := ⟨_, rfl⟩
                            replace H : (if (bq48 = true) then (logic_Meets.l0 k1 t219 t223 x12_1 (wrap64 (x13_1 + 1)) l0 (l0.length : Int) ji45) else (if 0 ≤ x13_1 then (logic_Meets.l0 k1 t219 t223 (Go.bits .or .i64 x12_1 (shl .i64 1 x13_1)) (wrap64 (x13_1 + 1)) l0 (l0.length : Int) ji45) else (none))) = some (r1, r2) := by rw [← hbq48] at H; exact H
                            have Nbq48 := Aside0.mk hbq48
                            clear hbq48
                            by_cases c49 : (bq48 = true)
                            · subst c49
                              have H1 : (logic_Meets.l0 k1 t219 t223 x12_1 (wrap64 (x13_1 + 1)) l0 (l0.length : Int) ji45) = some (r1, r2) := by rw [if_pos rfl] at H; exact H
                              clear H
                              have H := H1
                              clear H1
                              have H' := Aside0.mk H
                              clear H
                              have p227 : 0 ≤ (x34_1 : Int) := of_decide_eq_true (by first | (with_reducible assumption) | assumption)
                              have q227 : x34_1 < (l0.length : Int) := of_decide_eq_true (by first | (with_reducible assumption) | assumption)
                              obtain ⟨ad227, e227, hx227_0, hx227_1⟩ := at_T63 HR0.out x34_1 p227 q227
                              cases e227
                              replace hx227_0 := (HB.out.cell (World.block_lt_of_cell? w _ hx227_0)).trans hx227_0
                              replace hx227_1 := (HB.out.cell (World.block_lt_of_cell? w _ hx227_1)).trans hx227_1
                              replace p227 := eq_true p227
                              replace q227 := eq_true q227
                              go_wp2_with (first | ((with_reducible refine gate_dst (N := 15) rfl ?_); refine box_event ?hg (N := 15) ?hd (cs := #[.int .i64 0, .int .i64 0]) (t := 63) ?hr ?_; (case hd => rfl); (case hg => rfl); (case hr => first | (go_simp; done) | (go_simp; rfl)); intro gb228 hg w50 hbox hb; have n0_ := Aside0.mk (Kd.R_below (by (with_reducible repeat (first | apply Kd.R_alloc | apply Kd.R_drewN | apply Kd.R_drew)); exact HO_8.out) hb); have n1_ := Aside0.mk (Kd.R_below (by (with_reducible repeat (first | apply Kd.R_alloc | apply Kd.R_drewN | apply Kd.R_drew)); exact HO_10.out) hb); have n2_ := Aside0.mk (below_step (by repeat (first | (with_reducible first | exact HB.out | apply below_alloc | apply pw_below_drewN | apply below_drew1) | exact HB.out)) hb); have n3_ := Aside0.mk (hbox); have n4_ := Aside0.mk ((by rw [hg]; exact (below_size (by repeat (first | (with_reducible first | exact HB.out | apply below_alloc | apply pw_below_drewN | apply below_drew1) | exact HB.out))) : w.heap.size ≤ gb228)); have n5_ := Aside0.mk ((by rw [hg]; exact (below_size (by repeat (first | (with_reducible first | exact HB.out | apply below_alloc | apply pw_below_drewN | apply below_drew1) | exact HB.out))) : w.heap.size ≤ gb228)); clear HO_8; clear HO_10; clear HB; have HO_8 := n0_; have HO_10 := n1_; have HB := n2_; have BK228 := n3_; have GW228 := n4_; have GE228 := n5_; clear n0_ n1_ n2_ n3_ n4_ n5_; clear hb hbox hg; have hcz51_0 : w50.cell? ⟨gb228, 0, none⟩ = some (.int .i64 0) := (blk_cell BK228.out 0).trans rfl; have hcz51_1 : w50.cell? ⟨gb228, 1, none⟩ = some (.int .i64 0) := (blk_cell BK228.out 1).trans rfl; have hfz51_0 := blk_frozen BK228.out 0; have hfz51_1 := blk_frozen BK228.out 1) | ((with_reducible refine gate_callee (f := 48) rfl ?_); refine goesL_ (some 41) rfl rfl Tryd.func48 (by kernel_rfl) rfl #[.int .i64 ((rd_T63 l0 x34_1).f0)] rfl (by (try simp only [List.map_toArray, List.map_cons, List.map_nil]); first | done | rfl | (simp only [List.length_drop, List.length_take]; rfl)) ?_; (with_reducible refine (logic_ahead.calls ((rd_T63 l0 x34_1).f0) true _ A12.out).mono ?_); rintro e w' ⟨rfl, ⟨nd, rfl⟩⟩; refine ⟨_, rfl, ?_⟩; obtain ⟨Ao52, co52, eo52⟩ := Kd.R_slice HO_8.out; subst eo52; have p232 : 0 ≤ (x34_1 : Int) := of_decide_eq_true (by first | (with_reducible assumption) | assumption); have q232 : x34_1 < (t219.length : Int) := of_decide_eq_true (by first | (with_reducible assumption) | assumption); obtain ⟨ad232, e232, hx232_0⟩ := Kd.at_bool (Kd.R_reads' HO_8.out).2.2 x34_1 p232 q232; (try rw [← Nbq38.out] at hx232_0); (try rw [← Nbq48.out] at hx232_0); cases e232; have hn232_0 : ad232.block ≠ gb228 := Kd.own_blk (Kd.R_ne HO_8.out BK228.out (by decide)); have hn232_1 : ad232.block ≠ gb228 := Kd.own_blk (Kd.R_ne HO_8.out BK228.out (by decide)); replace hx232_0 := (cell_far (p := ⟨gb228, 0, none⟩) (by first | (rw [add_block]; exact hn232_0) | (show (Addr.add _ _).block ≠ _; rw [add_block]; exact hn232_0) | exact hn232_0) (.int .i64 ((rd_T63 l0 x34_1).f0))).trans hx232_0; replace hx232_0 := (cell_far (p := ⟨gb228, 1, none⟩) (by first | (rw [add_block]; exact hn232_1) | (show (Addr.add _ _).block ≠ _; rw [add_block]; exact hn232_1) | exact hn232_1) (.int .i64 ((rd_T63 l0 x34_1).f1))).trans hx232_0; clear hn232_0; clear hn232_1; replace p232 := eq_true p232; replace q232 := eq_true q232; have p233 : 0 ≤ ((ji45) : Int) := of_decide_eq_true (by first | (with_reducible assumption) | assumption); have q233 : (ji45) < (t219.length : Int) := of_decide_eq_true (by first | (with_reducible assumption) | assumption); obtain ⟨ad233, e233, hx233_0⟩ := Kd.at_bool (Kd.R_reads' HO_8.out).2.2 (ji45) p233 q233; (try rw [← Nbq38.out] at hx233_0); (try rw [← Nbq48.out] at hx233_0); obtain rfl : ad232 = ad233 := (by injection e233); have hn233_0 : ad232.block ≠ gb228 := Kd.own_blk (Kd.R_ne HO_8.out BK228.out (by decide)); have hn233_1 : ad232.block ≠ gb228 := Kd.own_blk (Kd.R_ne HO_8.out BK228.out (by decide)); replace hx233_0 := (cell_far (p := ⟨gb228, 0, none⟩) (by first | (rw [add_block]; exact hn233_0) | (show (Addr.add _ _).block ≠ _; rw [add_block]; exact hn233_0) | exact hn233_0) (.int .i64 ((rd_T63 l0 x34_1).f0))).trans hx233_0; replace hx233_0 := (cell_far (p := ⟨gb228, 1, none⟩) (by first | (rw [add_block]; exact hn233_1) | (show (Addr.add _ _).block ≠ _; rw [add_block]; exact hn233_1) | exact hn233_1) (.int .i64 ((rd_T63 l0 x34_1).f1))).trans hx233_0; clear hn233_0; clear hn233_1; replace p233 := eq_true p233; replace q233 := eq_true q233))
                              go_roundg k1
                              case measure => have := HK1.out; omega
                              case rel => exact ⟨(x12_1), (wrap64 (x13_1 + 1)), (ji45), (by first | rfl | (simp; done) | (simp [*]; done)), (by first | rfl | (simp; done) | (simp [*]; done)), (by first | rfl | (simp; done) | (simp only [← hji45] <;> (first | rfl | simp)) | (simp [*]; done)), H', ⟨by have := HK1.out; omega⟩, ⟨by (with_reducible repeat (first | apply Kd.R_alloc | apply Kd.R_drewN | apply Kd.R_drew)); exact Kd.R_mono (Kd.R_far (p := ⟨gb228, 1, none⟩) (Kd.R_far (p := ⟨gb228, 0, none⟩) (Kd.R_types HO_8.out BK228.out (by decide)) (fun _ hk => hk.2) (.int .i64 ((rd_T63 l0 x34_1).f0))) (fun _ hk => hk.2) (.int .i64 ((rd_T63 l0 x34_1).f1))) (fun _ hk => trivial)⟩, ⟨by (with_reducible repeat (first | apply Kd.R_alloc | apply Kd.R_drewN | apply Kd.R_drew)); exact Kd.R_mono (Kd.R_far (p := ⟨gb228, 1, none⟩) (Kd.R_far (p := ⟨gb228, 0, none⟩) (Kd.R_types HO_10.out BK228.out (by decide)) (fun _ hk => hk.2) (.int .i64 ((rd_T63 l0 x34_1).f0))) (fun _ hk => hk.2) (.int .i64 ((rd_T63 l0 x34_1).f1))) (fun _ hk => trivial)⟩, ⟨by repeat (first | (with_reducible first | exact HB.out | apply below_alloc | apply pw_below_drewN | apply below_drew1 | refine below_set ?_ GE228.out) | exact HB.out)⟩⟩
                            · replace c49 := Bool.eq_false_iff.mpr c49
                              subst c49
                              have H1 : (if 0 ≤ x13_1 then (logic_Meets.l0 k1 t219 t223 (Go.bits .or .i64 x12_1 (shl .i64 1 x13_1)) (wrap64 (x13_1 + 1)) l0 (l0.length : Int) ji45) else (none)) = some (r1, r2) := by rw [if_neg (show ¬ (false = true) by decide)] at H; exact H
                              clear H
                              have H := H1
                              clear H1
                              by_cases c53 : 0 ≤ x13_1
                              · rw [if_pos c53] at H
                                have c53b0 := eq_true c53
                                have c53b1 : decide (0 ≤ x13_1) = true := decide_eq_true c53
                                clear c53
                                obtain ⟨ji54, hji54⟩ : ∃ j_ : Int, (shl .i64 1 x13_1) = j_ := ⟨_, rfl⟩
                                replace H : (logic_Meets.l0 k1 t219 t223 (Go.bits .or .i64 x12_1 (ji54)) (wrap64 (x13_1 + 1)) l0 (l0.length : Int) ji45) = some (r1, r2) := by first | (rw [hji54] at H; exact H) | (simp only [hji54] at H ⊢; exact H)
                                (try rw [hji54] at A12)
                                have hji54_ : (IntKind.i64.wrap (1 * 2 ^ min x13_1.toNat 64)) = ji54 := hji54
                                have hji54z : x13_1 ≤ 64 → (IntKind.i64.wrap (1 * 2 ^ x13_1.toNat)) = ji54 := shl_small hji54
                                have hji54u : (IntKind.i64.wrap (2 ^ min x13_1.toNat 64)) = ji54 := by have h_ := hji54_; rw [Int.one_mul] at h_; exact h_
                                have hji54v : x13_1 ≤ 64 → (IntKind.i64.wrap (2 ^ x13_1.toNat)) = ji54 := fun hle_ => by have h_ := hji54z hle_; rw [Int.one_mul] at h_; exact h_
                                have hji54y : (wrap64 (1 * 2 ^ min x13_1.toNat 64)) = ji54 := (i64_w _).symm.trans hji54_
                                have hji54x : x13_1 ≤ 64 → (wrap64 (1 * 2 ^ x13_1.toNat)) = ji54 := fun h_ => (i64_w _).symm.trans (hji54z h_)
                                have H' := Aside0.mk H
                                clear H
                                have p227 : 0 ≤ (x34_1 : Int) := of_decide_eq_true (by first | (with_reducible assumption) | assumption)
                                have q227 : x34_1 < (l0.length : Int) := of_decide_eq_true (by first | (with_reducible assumption) | assumption)
                                obtain ⟨ad227, e227, hx227_0, hx227_1⟩ := at_T63 HR0.out x34_1 p227 q227
                                cases e227
                                replace hx227_0 := (HB.out.cell (World.block_lt_of_cell? w _ hx227_0)).trans hx227_0
                                replace hx227_1 := (HB.out.cell (World.block_lt_of_cell? w _ hx227_1)).trans hx227_1
                                replace p227 := eq_true p227
                                replace q227 := eq_true q227
                                go_wp2_with (first | ((with_reducible refine gate_dst (N := 15) rfl ?_); refine box_event ?hg (N := 15) ?hd (cs := #[.int .i64 0, .int .i64 0]) (t := 63) ?hr ?_; (case hd => rfl); (case hg => rfl); (case hr => first | (go_simp; done) | (go_simp; rfl)); intro gb228 hg w55 hbox hb; have n0_ := Aside0.mk (Kd.R_below (by (with_reducible repeat (first | apply Kd.R_alloc | apply Kd.R_drewN | apply Kd.R_drew)); exact HO_8.out) hb); have n1_ := Aside0.mk (Kd.R_below (by (with_reducible repeat (first | apply Kd.R_alloc | apply Kd.R_drewN | apply Kd.R_drew)); exact HO_10.out) hb); have n2_ := Aside0.mk (below_step (by repeat (first | (with_reducible first | exact HB.out | apply below_alloc | apply pw_below_drewN | apply below_drew1) | exact HB.out)) hb); have n3_ := Aside0.mk (hbox); have n4_ := Aside0.mk ((by rw [hg]; exact (below_size (by repeat (first | (with_reducible first | exact HB.out | apply below_alloc | apply pw_below_drewN | apply below_drew1) | exact HB.out))) : w.heap.size ≤ gb228)); have n5_ := Aside0.mk ((by rw [hg]; exact (below_size (by repeat (first | (with_reducible first | exact HB.out | apply below_alloc | apply pw_below_drewN | apply below_drew1) | exact HB.out))) : w.heap.size ≤ gb228)); clear HO_8; clear HO_10; clear HB; have HO_8 := n0_; have HO_10 := n1_; have HB := n2_; have BK228 := n3_; have GW228 := n4_; have GE228 := n5_; clear n0_ n1_ n2_ n3_ n4_ n5_; clear hb hbox hg; have hcz56_0 : w55.cell? ⟨gb228, 0, none⟩ = some (.int .i64 0) := (blk_cell BK228.out 0).trans rfl; have hcz56_1 : w55.cell? ⟨gb228, 1, none⟩ = some (.int .i64 0) := (blk_cell BK228.out 1).trans rfl; have hfz56_0 := blk_frozen BK228.out 0; have hfz56_1 := blk_frozen BK228.out 1) | ((with_reducible refine gate_callee (f := 48) rfl ?_); refine goesL_ (some 41) rfl rfl Tryd.func48 (by kernel_rfl) rfl #[.int .i64 ((rd_T63 l0 x34_1).f0)] rfl (by (try simp only [List.map_toArray, List.map_cons, List.map_nil]); first | done | rfl | (simp only [List.length_drop, List.length_take]; rfl)) ?_; (with_reducible refine (logic_ahead.calls ((rd_T63 l0 x34_1).f0) true _ A12.out).mono ?_); rintro e w' ⟨rfl, ⟨nd, rfl⟩⟩; refine ⟨_, rfl, ?_⟩; obtain ⟨Ao57, co57, eo57⟩ := Kd.R_slice HO_8.out; subst eo57; have p232 : 0 ≤ (x34_1 : Int) := of_decide_eq_true (by first | (with_reducible assumption) | assumption); have q232 : x34_1 < (t219.length : Int) := of_decide_eq_true (by first | (with_reducible assumption) | assumption); obtain ⟨ad232, e232, hx232_0⟩ := Kd.at_bool (Kd.R_reads' HO_8.out).2.2 x34_1 p232 q232; (try rw [← Nbq38.out] at hx232_0); (try rw [← Nbq48.out] at hx232_0); cases e232; have hn232_0 : ad232.block ≠ gb228 := Kd.own_blk (Kd.R_ne HO_8.out BK228.out (by decide)); have hn232_1 : ad232.block ≠ gb228 := Kd.own_blk (Kd.R_ne HO_8.out BK228.out (by decide)); replace hx232_0 := (cell_far (p := ⟨gb228, 0, none⟩) (by first | (rw [add_block]; exact hn232_0) | (show (Addr.add _ _).block ≠ _; rw [add_block]; exact hn232_0) | exact hn232_0) (.int .i64 ((rd_T63 l0 x34_1).f0))).trans hx232_0; replace hx232_0 := (cell_far (p := ⟨gb228, 1, none⟩) (by first | (rw [add_block]; exact hn232_1) | (show (Addr.add _ _).block ≠ _; rw [add_block]; exact hn232_1) | exact hn232_1) (.int .i64 ((rd_T63 l0 x34_1).f1))).trans hx232_0; clear hn232_0; clear hn232_1; replace p232 := eq_true p232; replace q232 := eq_true q232; have p233 : 0 ≤ ((ji45) : Int) := of_decide_eq_true (by first | (with_reducible assumption) | assumption); have q233 : (ji45) < (t219.length : Int) := of_decide_eq_true (by first | (with_reducible assumption) | assumption); obtain ⟨ad233, e233, hx233_0⟩ := Kd.at_bool (Kd.R_reads' HO_8.out).2.2 (ji45) p233 q233; (try rw [← Nbq38.out] at hx233_0); (try rw [← Nbq48.out] at hx233_0); obtain rfl : ad232 = ad233 := (by injection e233); have hn233_0 : ad232.block ≠ gb228 := Kd.own_blk (Kd.R_ne HO_8.out BK228.out (by decide)); have hn233_1 : ad232.block ≠ gb228 := Kd.own_blk (Kd.R_ne HO_8.out BK228.out (by decide)); replace hx233_0 := (cell_far (p := ⟨gb228, 0, none⟩) (by first | (rw [add_block]; exact hn233_0) | (show (Addr.add _ _).block ≠ _; rw [add_block]; exact hn233_0) | exact hn233_0) (.int .i64 ((rd_T63 l0 x34_1).f0))).trans hx233_0; replace hx233_0 := (cell_far (p := ⟨gb228, 1, none⟩) (by first | (rw [add_block]; exact hn233_1) | (show (Addr.add _ _).block ≠ _; rw [add_block]; exact hn233_1) | exact hn233_1) (.int .i64 ((rd_T63 l0 x34_1).f1))).trans hx233_0; clear hn233_0; clear hn233_1; replace p233 := eq_true p233; replace q233 := eq_true q233))
                                go_roundg k1
                                case measure => have := HK1.out; omega
                                case rel => exact ⟨(Go.bits .or .i64 x12_1 (ji54)), (wrap64 (x13_1 + 1)), (ji45), (by first | rfl | (simp; done) | (simp only [← hji54] <;> (first | rfl | simp)) | (simp [*]; done)), (by first | rfl | (simp; done) | (simp [*]; done)), (by first | rfl | (simp; done) | (simp only [← hji45] <;> (first | rfl | simp)) | (simp [*]; done)), H', ⟨by have := HK1.out; omega⟩, ⟨by (with_reducible repeat (first | apply Kd.R_alloc | apply Kd.R_drewN | apply Kd.R_drew)); exact Kd.R_mono (Kd.R_far (p := ⟨gb228, 1, none⟩) (Kd.R_far (p := ⟨gb228, 0, none⟩) (Kd.R_types HO_8.out BK228.out (by decide)) (fun _ hk => hk.2) (.int .i64 ((rd_T63 l0 x34_1).f0))) (fun _ hk => hk.2) (.int .i64 ((rd_T63 l0 x34_1).f1))) (fun _ hk => trivial)⟩, ⟨by (with_reducible repeat (first | apply Kd.R_alloc | apply Kd.R_drewN | apply Kd.R_drew)); exact Kd.R_mono (Kd.R_far (p := ⟨gb228, 1, none⟩) (Kd.R_far (p := ⟨gb228, 0, none⟩) (Kd.R_types HO_10.out BK228.out (by decide)) (fun _ hk => hk.2) (.int .i64 ((rd_T63 l0 x34_1).f0))) (fun _ hk => hk.2) (.int .i64 ((rd_T63 l0 x34_1).f1))) (fun _ hk => trivial)⟩, ⟨by repeat (first | (with_reducible first | exact HB.out | apply below_alloc | apply pw_below_drewN | apply below_drew1 | refine below_set ?_ GE228.out) | exact HB.out)⟩⟩
                              · rw [if_neg c53] at H
                                exact absurd H (by simp)
                          · rw [if_neg c47] at H
                            exact absurd H (by simp)
                        · rw [if_neg c46] at H
                          exact absurd H (by simp)
                    · rw [if_neg c37] at H
                      exact absurd H (by simp)
                  · rw [if_neg c36] at H
                    have c36b0 : (((rd_T63 l0 x34_1).f0) == 18) = false := beq_eq_false_iff_ne.mpr c36
                    have c36b1 : (((rd_T63 l0 x34_1).f0) != 18) = true := bne_iff_ne.mpr c36
                    by_cases c58 : ((rd_T63 l0 x34_1).f0) = 15
                    · rw [if_pos c58] at H
                      have c58b0 : (((rd_T63 l0 x34_1).f0) == 15) = true := beq_iff_eq.mpr c58
                      have c58b1 : (((rd_T63 l0 x34_1).f0) != 15) = false := bne_eq_false_iff_eq.mpr c58
                      clear c58
                      by_cases c59 : x34_1 < (t219.length : Int)
                      · rw [if_pos c59] at H
                        have c59b0 : decide (x34_1 < (t219.length : Int)) = true := decide_eq_true c59
                        clear c59
                        obtain ⟨bq60, hbq60⟩ : ∃ b_ : Bool, b_ = (rdOf false t219 x34_1) := ⟨_, rfl⟩
                        replace H : (if bq60 = true then (if 0 ≤ (wrap64 (x34_1 + 1)) then (if (wrap64 (x34_1 + 1)) < (t223.length : Int) then (if 0 ≤ (rd t223 (wrap64 (x34_1 + 1))) then (if (rd t223 (wrap64 (x34_1 + 1))) < (t219.length : Int) then (if rdOf false t219 (rd t223 (wrap64 (x34_1 + 1))) = true then (if 0 ≤ x13_1 then (logic_Meets.l0 k1 t219 t223 (Go.bits .or .i64 x12_1 (shl .i64 1 x13_1)) (wrap64 (x13_1 + 1)) l0 (l0.length : Int) (wrap64 (x34_1 + 1))) else (none)) else (logic_Meets.l0 k1 t219 t223 x12_1 (wrap64 (x13_1 + 1)) l0 (l0.length : Int) (wrap64 (x34_1 + 1)))) else (none)) else (none)) else (none)) else (none)) else (if 0 ≤ x13_1 then (logic_Meets.l0 k1 t219 t223 (Go.bits .or .i64 x12_1 (shl .i64 1 x13_1)) (wrap64 (x13_1 + 1)) l0 (l0.length : Int) (wrap64 (x34_1 + 1))) else (none))) = some (r1, r2) := by rw [← hbq60] at H; exact H
                        have Nbq60 := Aside0.mk hbq60
                        clear hbq60
                        by_cases c61 : bq60 = true
                        · subst c61
                          have H1 : (if 0 ≤ (wrap64 (x34_1 + 1)) then (if (wrap64 (x34_1 + 1)) < (t223.length : Int) then (if 0 ≤ (rd t223 (wrap64 (x34_1 + 1))) then (if (rd t223 (wrap64 (x34_1 + 1))) < (t219.length : Int) then (if rdOf false t219 (rd t223 (wrap64 (x34_1 + 1))) = true then (if 0 ≤ x13_1 then (logic_Meets.l0 k1 t219 t223 (Go.bits .or .i64 x12_1 (shl .i64 1 x13_1)) (wrap64 (x13_1 + 1)) l0 (l0.length : Int) (wrap64 (x34_1 + 1))) else (none)) else (logic_Meets.l0 k1 t219 t223 x12_1 (wrap64 (x13_1 + 1)) l0 (l0.length : Int) (wrap64 (x34_1 + 1)))) else (none)) else (none)) else (none)) else (none)) = some (r1, r2) := by rw [if_pos rfl] at H; exact H
                          clear H
                          have H := H1
                          clear H1
                          obtain ⟨ji62, hji62⟩ : ∃ j_ : Int, (wrap64 (x34_1 + 1)) = j_ := ⟨_, rfl⟩
                          replace H : (if 0 ≤ (ji62) then (if (ji62) < (t223.length : Int) then (if 0 ≤ (rd t223 (ji62)) then (if (rd t223 (ji62)) < (t219.length : Int) then (if rdOf false t219 (rd t223 (ji62)) = true then (if 0 ≤ x13_1 then (logic_Meets.l0 k1 t219 t223 (Go.bits .or .i64 x12_1 (shl .i64 1 x13_1)) (wrap64 (x13_1 + 1)) l0 (l0.length : Int) ji62) else (none)) else (logic_Meets.l0 k1 t219 t223 x12_1 (wrap64 (x13_1 + 1)) l0 (l0.length : Int) ji62)) else (none)) else (none)) else (none)) else (none)) = some (r1, r2) := by first | (rw [hji62] at H; exact H) | (simp only [hji62] at H ⊢; exact H)
                          (try rw [hji62] at A12)
                          have hji62w : (IntKind.i64.wrap (x34_1 + 1)) = ji62 := (i64_w _).trans hji62
                          by_cases c63 : 0 ≤ (ji62)
                          · rw [if_pos c63] at H
                            have c63b0 : decide (0 ≤ (ji62)) = true := decide_eq_true c63
                            clear c63
                            by_cases c64 : (ji62) < (t223.length : Int)
                            · rw [if_pos c64] at H
                              have c64b0 : decide ((ji62) < (t223.length : Int)) = true := decide_eq_true c64
                              clear c64
                              by_cases c65 : 0 ≤ (rd t223 (ji62))
                              · rw [if_pos c65] at H
                                have c65b0 : decide (0 ≤ (rd t223 (ji62))) = true := decide_eq_true c65
                                clear c65
                                by_cases c66 : (rd t223 (ji62)) < (t219.length : Int)
                                · rw [if_pos c66] at H
                                  have c66b0 : decide ((rd t223 (ji62)) < (t219.length : Int)) = true := decide_eq_true c66
                                  clear c66
                                  obtain ⟨bq67, hbq67⟩ : ∃ b_ : Bool, b_ = (rdOf false t219 (rd t223 (ji62))) := ⟨_, rfl⟩
                                  replace H : (if bq67 = true then (if 0 ≤ x13_1 then (logic_Meets.l0 k1 t219 t223 (Go.bits .or .i64 x12_1 (shl .i64 1 x13_1)) (wrap64 (x13_1 + 1)) l0 (l0.length : Int) ji62) else (none)) else (logic_Meets.l0 k1 t219 t223 x12_1 (wrap64 (x13_1 + 1)) l0 (l0.length : Int) ji62)) = some (r1, r2) := by rw [← hbq67] at H; exact H
                                  have Nbq67 := Aside0.mk hbq67
                                  clear hbq67
                                  by_cases c68 : bq67 = true
                                  · subst c68
                                    have H1 : (if 0 ≤ x13_1 then (logic_Meets.l0 k1 t219 t223 (Go.bits .or .i64 x12_1 (shl .i64 1 x13_1)) (wrap64 (x13_1 + 1)) l0 (l0.length : Int) ji62) else (none)) = some (r1, r2) := by rw [if_pos rfl] at H; exact H
                                    clear H
                                    have H := H1
                                    clear H1
                                    by_cases c69 : 0 ≤ x13_1
                                    · rw [if_pos c69] at H
                                      have c69b0 := eq_true c69
                                      have c69b1 : decide (0 ≤ x13_1) = true := decide_eq_true c69
                                      clear c69
                                      obtain ⟨ji70, hji70⟩ : ∃ j_ : Int, (shl .i64 1 x13_1) = j_ := ⟨_, rfl⟩
                                      replace H : (logic_Meets.l0 k1 t219 t223 (Go.bits .or .i64 x12_1 (ji70)) (wrap64 (x13_1 + 1)) l0 (l0.length : Int) ji62) = some (r1, r2) := by first | (rw [hji70] at H; exact H) | (simp only [hji70] at H ⊢; exact H)
                                      (try rw [hji70] at A12)
                                      have hji70_ : (IntKind.i64.wrap (1 * 2 ^ min x13_1.toNat 64)) = ji70 := hji70
                                      have hji70z : x13_1 ≤ 64 → (IntKind.i64.wrap (1 * 2 ^ x13_1.toNat)) = ji70 := shl_small hji70
                                      have hji70u : (IntKind.i64.wrap (2 ^ min x13_1.toNat 64)) = ji70 := by have h_ := hji70_; rw [Int.one_mul] at h_; exact h_
                                      have hji70v : x13_1 ≤ 64 → (IntKind.i64.wrap (2 ^ x13_1.toNat)) = ji70 := fun hle_ => by have h_ := hji70z hle_; rw [Int.one_mul] at h_; exact h_
                                      have hji70y : (wrap64 (1 * 2 ^ min x13_1.toNat 64)) = ji70 := (i64_w _).symm.trans hji70_
                                      have hji70x : x13_1 ≤ 64 → (wrap64 (1 * 2 ^ x13_1.toNat)) = ji70 := fun h_ => (i64_w _).symm.trans (hji70z h_)
                                      have H' := Aside0.mk H
                                      clear H
                                      have p227 : 0 ≤ (x34_1 : Int) := of_decide_eq_true (by first | (with_reducible assumption) | assumption)
                                      have q227 : x34_1 < (l0.length : Int) := of_decide_eq_true (by first | (with_reducible assumption) | assumption)
                                      obtain ⟨ad227, e227, hx227_0, hx227_1⟩ := at_T63 HR0.out x34_1 p227 q227
                                      cases e227
                                      replace hx227_0 := (HB.out.cell (World.block_lt_of_cell? w _ hx227_0)).trans hx227_0
                                      replace hx227_1 := (HB.out.cell (World.block_lt_of_cell? w _ hx227_1)).trans hx227_1
                                      replace p227 := eq_true p227
                                      replace q227 := eq_true q227
                                      go_wp2_with (first | ((with_reducible refine gate_dst (N := 15) rfl ?_); refine box_event ?hg (N := 15) ?hd (cs := #[.int .i64 0, .int .i64 0]) (t := 63) ?hr ?_; (case hd => rfl); (case hg => rfl); (case hr => first | (go_simp; done) | (go_simp; rfl)); intro gb228 hg w71 hbox hb; have n0_ := Aside0.mk (Kd.R_below (by (with_reducible repeat (first | apply Kd.R_alloc | apply Kd.R_drewN | apply Kd.R_drew)); exact HO_8.out) hb); have n1_ := Aside0.mk (Kd.R_below (by (with_reducible repeat (first | apply Kd.R_alloc | apply Kd.R_drewN | apply Kd.R_drew)); exact HO_10.out) hb); have n2_ := Aside0.mk (below_step (by repeat (first | (with_reducible first | exact HB.out | apply below_alloc | apply pw_below_drewN | apply below_drew1) | exact HB.out)) hb); have n3_ := Aside0.mk (hbox); have n4_ := Aside0.mk ((by rw [hg]; exact (below_size (by repeat (first | (with_reducible first | exact HB.out | apply below_alloc | apply pw_below_drewN | apply below_drew1) | exact HB.out))) : w.heap.size ≤ gb228)); have n5_ := Aside0.mk ((by rw [hg]; exact (below_size (by repeat (first | (with_reducible first | exact HB.out | apply below_alloc | apply pw_below_drewN | apply below_drew1) | exact HB.out))) : w.heap.size ≤ gb228)); clear HO_8; clear HO_10; clear HB; have HO_8 := n0_; have HO_10 := n1_; have HB := n2_; have BK228 := n3_; have GW228 := n4_; have GE228 := n5_; clear n0_ n1_ n2_ n3_ n4_ n5_; clear hb hbox hg; have hcz72_0 : w71.cell? ⟨gb228, 0, none⟩ = some (.int .i64 0) := (blk_cell BK228.out 0).trans rfl; have hcz72_1 : w71.cell? ⟨gb228, 1, none⟩ = some (.int .i64 0) := (blk_cell BK228.out 1).trans rfl; have hfz72_0 := blk_frozen BK228.out 0; have hfz72_1 := blk_frozen BK228.out 1) | ((with_reducible refine gate_callee (f := 48) rfl ?_); refine goesL_ (some 41) rfl rfl Tryd.func48 (by kernel_rfl) rfl #[.int .i64 ((rd_T63 l0 x34_1).f0)] rfl (by (try simp only [List.map_toArray, List.map_cons, List.map_nil]); first | done | rfl | (simp only [List.length_drop, List.length_take]; rfl)) ?_; (with_reducible refine (logic_ahead.calls ((rd_T63 l0 x34_1).f0) true _ A12.out).mono ?_); rintro e w' ⟨rfl, ⟨nd, rfl⟩⟩; refine ⟨_, rfl, ?_⟩; obtain ⟨Ao73, co73, eo73⟩ := Kd.R_slice HO_8.out; subst eo73; have p234 : 0 ≤ (x34_1 : Int) := of_decide_eq_true (by first | (with_reducible assumption) | assumption); have q234 : x34_1 < (t219.length : Int) := of_decide_eq_true (by first | (with_reducible assumption) | assumption); obtain ⟨ad234, e234, hx234_0⟩ := Kd.at_bool (Kd.R_reads' HO_8.out).2.2 x34_1 p234 q234; (try rw [← Nbq60.out] at hx234_0); (try rw [← Nbq67.out] at hx234_0); cases e234; have hn234_0 : ad234.block ≠ gb228 := Kd.own_blk (Kd.R_ne HO_8.out BK228.out (by decide)); have hn234_1 : ad234.block ≠ gb228 := Kd.own_blk (Kd.R_ne HO_8.out BK228.out (by decide)); replace hx234_0 := (cell_far (p := ⟨gb228, 0, none⟩) (by first | (rw [add_block]; exact hn234_0) | (show (Addr.add _ _).block ≠ _; rw [add_block]; exact hn234_0) | exact hn234_0) (.int .i64 ((rd_T63 l0 x34_1).f0))).trans hx234_0; replace hx234_0 := (cell_far (p := ⟨gb228, 1, none⟩) (by first | (rw [add_block]; exact hn234_1) | (show (Addr.add _ _).block ≠ _; rw [add_block]; exact hn234_1) | exact hn234_1) (.int .i64 ((rd_T63 l0 x34_1).f1))).trans hx234_0; clear hn234_0; clear hn234_1; replace p234 := eq_true p234; replace q234 := eq_true q234; obtain ⟨Ao74, co74, eo74⟩ := Kd.R_slice HO_10.out; subst eo74; have p235 : 0 ≤ ((ji62) : Int) := of_decide_eq_true (by first | (with_reducible assumption) | assumption); have q235 : (ji62) < (t223.length : Int) := of_decide_eq_true (by first | (with_reducible assumption) | assumption); obtain ⟨ad235, e235, hx235_0⟩ := Kd.at_int (Kd.R_reads' HO_10.out).2.2 (ji62) p235 q235; cases e235; have hn235_0 : ad235.block ≠ gb228 := Kd.own_blk (Kd.R_ne HO_10.out BK228.out (by decide)); have hn235_1 : ad235.block ≠ gb228 := Kd.own_blk (Kd.R_ne HO_10.out BK228.out (by decide)); replace hx235_0 := (cell_far (p := ⟨gb228, 0, none⟩) (by first | (rw [add_block]; exact hn235_0) | (show (Addr.add _ _).block ≠ _; rw [add_block]; exact hn235_0) | exact hn235_0) (.int .i64 ((rd_T63 l0 x34_1).f0))).trans hx235_0; replace hx235_0 := (cell_far (p := ⟨gb228, 1, none⟩) (by first | (rw [add_block]; exact hn235_1) | (show (Addr.add _ _).block ≠ _; rw [add_block]; exact hn235_1) | exact hn235_1) (.int .i64 ((rd_T63 l0 x34_1).f1))).trans hx235_0; clear hn235_0; clear hn235_1; replace p235 := eq_true p235; replace q235 := eq_true q235; have p236 : 0 ≤ ((rd t223 (ji62)) : Int) := of_decide_eq_true (by first | (with_reducible assumption) | assumption); have q236 : (rd t223 (ji62)) < (t219.length : Int) := of_decide_eq_true (by first | (with_reducible assumption) | assumption); obtain ⟨ad236, e236, hx236_0⟩ := Kd.at_bool (Kd.R_reads' HO_8.out).2.2 (rd t223 (ji62)) p236 q236; (try rw [← Nbq60.out] at hx236_0); (try rw [← Nbq67.out] at hx236_0); obtain rfl : ad234 = ad236 := (by injection e236); have hn236_0 : ad234.block ≠ gb228 := Kd.own_blk (Kd.R_ne HO_8.out BK228.out (by decide)); have hn236_1 : ad234.block ≠ gb228 := Kd.own_blk (Kd.R_ne HO_8.out BK228.out (by decide)); replace hx236_0 := (cell_far (p := ⟨gb228, 0, none⟩) (by first | (rw [add_block]; exact hn236_0) | (show (Addr.add _ _).block ≠ _; rw [add_block]; exact hn236_0) | exact hn236_0) (.int .i64 ((rd_T63 l0 x34_1).f0))).trans hx236_0; replace hx236_0 := (cell_far (p := ⟨gb228, 1, none⟩) (by first | (rw [add_block]; exact hn236_1) | (show (Addr.add _ _).block ≠ _; rw [add_block]; exact hn236_1) | exact hn236_1) (.int .i64 ((rd_T63 l0 x34_1).f1))).trans hx236_0; clear hn236_0; clear hn236_1; replace p236 := eq_true p236; replace q236 := eq_true q236))
                                      go_roundg k1
                                      case measure => have := HK1.out; omega
                                      case rel => exact ⟨(Go.bits .or .i64 x12_1 (ji70)), (wrap64 (x13_1 + 1)), (ji62), (by first | rfl | (simp; done) | (simp only [← hji70] <;> (first | rfl | simp)) | (simp [*]; done)), (by first | rfl | (simp; done) | (simp [*]; done)), (by first | rfl | (simp; done) | (simp only [← hji62] <;> (first | rfl | simp)) | (simp [*]; done)), H', ⟨by have := HK1.out; omega⟩, ⟨by (with_reducible repeat (first | apply Kd.R_alloc | apply Kd.R_drewN | apply Kd.R_drew)); exact Kd.R_mono (Kd.R_far (p := ⟨gb228, 1, none⟩) (Kd.R_far (p := ⟨gb228, 0, none⟩) (Kd.R_types HO_8.out BK228.out (by decide)) (fun _ hk => hk.2) (.int .i64 ((rd_T63 l0 x34_1).f0))) (fun _ hk => hk.2) (.int .i64 ((rd_T63 l0 x34_1).f1))) (fun _ hk => trivial)⟩, ⟨by (with_reducible repeat (first | apply Kd.R_alloc | apply Kd.R_drewN | apply Kd.R_drew)); exact Kd.R_mono (Kd.R_far (p := ⟨gb228, 1, none⟩) (Kd.R_far (p := ⟨gb228, 0, none⟩) (Kd.R_types HO_10.out BK228.out (by decide)) (fun _ hk => hk.2) (.int .i64 ((rd_T63 l0 x34_1).f0))) (fun _ hk => hk.2) (.int .i64 ((rd_T63 l0 x34_1).f1))) (fun _ hk => trivial)⟩, ⟨by repeat (first | (with_reducible first | exact HB.out | apply below_alloc | apply pw_below_drewN | apply below_drew1 | refine below_set ?_ GE228.out) | exact HB.out)⟩⟩
                                    · rw [if_neg c69] at H
                                      exact absurd H (by simp)
                                  · replace c68 := Bool.eq_false_iff.mpr c68
                                    subst c68
                                    have H1 : (logic_Meets.l0 k1 t219 t223 x12_1 (wrap64 (x13_1 + 1)) l0 (l0.length : Int) ji62) = some (r1, r2) := by rw [if_neg (show ¬ (false = true) by decide)] at H; exact H
                                    clear H
                                    have H := H1
                                    clear H1
                                    have H' := Aside0.mk H
                                    clear H
                                    have p227 : 0 ≤ (x34_1 : Int) := of_decide_eq_true (by first | (with_reducible assumption) | assumption)
                                    have q227 : x34_1 < (l0.length : Int) := of_decide_eq_true (by first | (with_reducible assumption) | assumption)
                                    obtain ⟨ad227, e227, hx227_0, hx227_1⟩ := at_T63 HR0.out x34_1 p227 q227
                                    cases e227
                                    replace hx227_0 := (HB.out.cell (World.block_lt_of_cell? w _ hx227_0)).trans hx227_0
                                    replace hx227_1 := (HB.out.cell (World.block_lt_of_cell? w _ hx227_1)).trans hx227_1
                                    replace p227 := eq_true p227
                                    replace q227 := eq_true q227
                                    go_wp2_with (first | ((with_reducible refine gate_dst (N := 15) rfl ?_); refine box_event ?hg (N := 15) ?hd (cs := #[.int .i64 0, .int .i64 0]) (t := 63) ?hr ?_; (case hd => rfl); (case hg => rfl); (case hr => first | (go_simp; done) | (go_simp; rfl)); intro gb228 hg w75 hbox hb; have n0_ := Aside0.mk (Kd.R_below (by (with_reducible repeat (first | apply Kd.R_alloc | apply Kd.R_drewN | apply Kd.R_drew)); exact HO_8.out) hb); have n1_ := Aside0.mk (Kd.R_below (by (with_reducible repeat (first | apply Kd.R_alloc | apply Kd.R_drewN | apply Kd.R_drew)); exact HO_10.out) hb); have n2_ := Aside0.mk (below_step (by repeat (first | (with_reducible first | exact HB.out | apply below_alloc | apply pw_below_drewN | apply below_drew1) | exact HB.out)) hb); have n3_ := Aside0.mk (hbox); have n4_ := Aside0.mk ((by rw [hg]; exact (below_size (by repeat (first | (with_reducible first | exact HB.out | apply below_alloc | apply pw_below_drewN | apply below_drew1) | exact HB.out))) : w.heap.size ≤ gb228)); have n5_ := Aside0.mk ((by rw [hg]; exact (below_size (by repeat (first | (with_reducible first | exact HB.out | apply below_alloc | apply pw_below_drewN | apply below_drew1) | exact HB.out))) : w.heap.size ≤ gb228)); clear HO_8; clear HO_10; clear HB; have HO_8 := n0_; have HO_10 := n1_; have HB := n2_; have BK228 := n3_; have GW228 := n4_; have GE228 := n5_; clear n0_ n1_ n2_ n3_ n4_ n5_; clear hb hbox hg; have hcz76_0 : w75.cell? ⟨gb228, 0, none⟩ = some (.int .i64 0) := (blk_cell BK228.out 0).trans rfl; have hcz76_1 : w75.cell? ⟨gb228, 1, none⟩ = some (.int .i64 0) := (blk_cell BK228.out 1).trans rfl; have hfz76_0 := blk_frozen BK228.out 0; have hfz76_1 := blk_frozen BK228.out 1) | ((with_reducible refine gate_callee (f := 48) rfl ?_); refine goesL_ (some 41) rfl rfl Tryd.func48 (by kernel_rfl) rfl #[.int .i64 ((rd_T63 l0 x34_1).f0)] rfl (by (try simp only [List.map_toArray, List.map_cons, List.map_nil]); first | done | rfl | (simp only [List.length_drop, List.length_take]; rfl)) ?_; (with_reducible refine (logic_ahead.calls ((rd_T63 l0 x34_1).f0) true _ A12.out).mono ?_); rintro e w' ⟨rfl, ⟨nd, rfl⟩⟩; refine ⟨_, rfl, ?_⟩; obtain ⟨Ao77, co77, eo77⟩ := Kd.R_slice HO_8.out; subst eo77; have p234 : 0 ≤ (x34_1 : Int) := of_decide_eq_true (by first | (with_reducible assumption) | assumption); have q234 : x34_1 < (t219.length : Int) := of_decide_eq_true (by first | (with_reducible assumption) | assumption); obtain ⟨ad234, e234, hx234_0⟩ := Kd.at_bool (Kd.R_reads' HO_8.out).2.2 x34_1 p234 q234; (try rw [← Nbq60.out] at hx234_0); (try rw [← Nbq67.out] at hx234_0); cases e234; have hn234_0 : ad234.block ≠ gb228 := Kd.own_blk (Kd.R_ne HO_8.out BK228.out (by decide)); have hn234_1 : ad234.block ≠ gb228 := Kd.own_blk (Kd.R_ne HO_8.out BK228.out (by decide)); replace hx234_0 := (cell_far (p := ⟨gb228, 0, none⟩) (by first | (rw [add_block]; exact hn234_0) | (show (Addr.add _ _).block ≠ _; rw [add_block]; exact hn234_0) | exact hn234_0) (.int .i64 ((rd_T63 l0 x34_1).f0))).trans hx234_0; replace hx234_0 := (cell_far (p := ⟨gb228, 1, none⟩) (by first | (rw [add_block]; exact hn234_1) | (show (Addr.add _ _).block ≠ _; rw [add_block]; exact hn234_1) | exact hn234_1) (.int .i64 ((rd_T63 l0 x34_1).f1))).trans hx234_0; clear hn234_0; clear hn234_1; replace p234 := eq_true p234; replace q234 := eq_true q234; obtain ⟨Ao78, co78, eo78⟩ := Kd.R_slice HO_10.out; subst eo78; have p235 : 0 ≤ ((ji62) : Int) := of_decide_eq_true (by first | (with_reducible assumption) | assumption); have q235 : (ji62) < (t223.length : Int) := of_decide_eq_true (by first | (with_reducible assumption) | assumption); obtain ⟨ad235, e235, hx235_0⟩ := Kd.at_int (Kd.R_reads' HO_10.out).2.2 (ji62) p235 q235; cases e235; have hn235_0 : ad235.block ≠ gb228 := Kd.own_blk (Kd.R_ne HO_10.out BK228.out (by decide)); have hn235_1 : ad235.block ≠ gb228 := Kd.own_blk (Kd.R_ne HO_10.out BK228.out (by decide)); replace hx235_0 := (cell_far (p := ⟨gb228, 0, none⟩) (by first | (rw [add_block]; exact hn235_0) | (show (Addr.add _ _).block ≠ _; rw [add_block]; exact hn235_0) | exact hn235_0) (.int .i64 ((rd_T63 l0 x34_1).f0))).trans hx235_0; replace hx235_0 := (cell_far (p := ⟨gb228, 1, none⟩) (by first | (rw [add_block]; exact hn235_1) | (show (Addr.add _ _).block ≠ _; rw [add_block]; exact hn235_1) | exact hn235_1) (.int .i64 ((rd_T63 l0 x34_1).f1))).trans hx235_0; clear hn235_0; clear hn235_1; replace p235 := eq_true p235; replace q235 := eq_true q235; have p236 : 0 ≤ ((rd t223 (ji62)) : Int) := of_decide_eq_true (by first | (with_reducible assumption) | assumption); have q236 : (rd t223 (ji62)) < (t219.length : Int) := of_decide_eq_true (by first | (with_reducible assumption) | assumption); obtain ⟨ad236, e236, hx236_0⟩ := Kd.at_bool (Kd.R_reads' HO_8.out).2.2 (rd t223 (ji62)) p236 q236; (try rw [← Nbq60.out] at hx236_0); (try rw [← Nbq67.out] at hx236_0); obtain rfl : ad234 = ad236 := (by injection e236); have hn236_0 : ad234.block ≠ gb228 := Kd.own_blk (Kd.R_ne HO_8.out BK228.out (by decide)); have hn236_1 : ad234.block ≠ gb228 := Kd.own_blk (Kd.R_ne HO_8.out BK228.out (by decide)); replace hx236_0 := (cell_far (p := ⟨gb228, 0, none⟩) (by first | (rw [add_block]; exact hn236_0) | (show (Addr.add _ _).block ≠ _; rw [add_block]; exact hn236_0) | exact hn236_0) (.int .i64 ((rd_T63 l0 x34_1).f0))).trans hx236_0; replace hx236_0 := (cell_far (p := ⟨gb228, 1, none⟩) (by first | (rw [add_block]; exact hn236_1) | (show (Addr.add _ _).block ≠ _; rw [add_block]; exact hn236_1) | exact hn236_1) (.int .i64 ((rd_T63 l0 x34_1).f1))).trans hx236_0; clear hn236_0; clear hn236_1; replace p236 := eq_true p236; replace q236 := eq_true q236))
                                    go_roundg k1
                                    case measure => have := HK1.out; omega
                                    case rel => exact ⟨(x12_1), (wrap64 (x13_1 + 1)), (ji62), (by first | rfl | (simp; done) | (simp [*]; done)), (by first | rfl | (simp; done) | (simp [*]; done)), (by first | rfl | (simp; done) | (simp only [← hji62] <;> (first | rfl | simp)) | (simp [*]; done)), H', ⟨by have := HK1.out; omega⟩, ⟨by (with_reducible repeat (first | apply Kd.R_alloc | apply Kd.R_drewN | apply Kd.R_drew)); exact Kd.R_mono (Kd.R_far (p := ⟨gb228, 1, none⟩) (Kd.R_far (p := ⟨gb228, 0, none⟩) (Kd.R_types HO_8.out BK228.out (by decide)) (fun _ hk => hk.2) (.int .i64 ((rd_T63 l0 x34_1).f0))) (fun _ hk => hk.2) (.int .i64 ((rd_T63 l0 x34_1).f1))) (fun _ hk => trivial)⟩, ⟨by (with_reducible repeat (first | apply Kd.R_alloc | apply Kd.R_drewN | apply Kd.R_drew)); exact Kd.R_mono (Kd.R_far (p := ⟨gb228, 1, none⟩) (Kd.R_far (p := ⟨gb228, 0, none⟩) (Kd.R_types HO_10.out BK228.out (by decide)) (fun _ hk => hk.2) (.int .i64 ((rd_T63 l0 x34_1).f0))) (fun _ hk => hk.2) (.int .i64 ((rd_T63 l0 x34_1).f1))) (fun _ hk => trivial)⟩, ⟨by repeat (first | (with_reducible first | exact HB.out | apply below_alloc | apply pw_below_drewN | apply below_drew1 | refine below_set ?_ GE228.out) | exact HB.out)⟩⟩
                                · rw [if_neg c66] at H
                                  exact absurd H (by simp)
                              · rw [if_neg c65] at H
                                exact absurd H (by simp)
                            · rw [if_neg c64] at H
                              exact absurd H (by simp)
                          · rw [if_neg c63] at H
                            exact absurd H (by simp)
                        · replace c61 := Bool.eq_false_iff.mpr c61
                          subst c61
                          have H1 : (if 0 ≤ x13_1 then (logic_Meets.l0 k1 t219 t223 (Go.bits .or .i64 x12_1 (shl .i64 1 x13_1)) (wrap64 (x13_1 + 1)) l0 (l0.length : Int) (wrap64 (x34_1 + 1))) else (none)) = some (r1, r2) := by rw [if_neg (show ¬ (false = true) by decide)] at H; exact H
                          clear H
                          have H := H1
                          clear H1
                          by_cases c79 : 0 ≤ x13_1
                          · rw [if_pos c79] at H
                            have c79b0 := eq_true c79
                            have c79b1 : decide (0 ≤ x13_1) = true := decide_eq_true c79
                            clear c79
                            obtain ⟨ji80, hji80⟩ : ∃ j_ : Int, (shl .i64 1 x13_1) = j_ := ⟨_, rfl⟩
                            replace H : (logic_Meets.l0 k1 t219 t223 (Go.bits .or .i64 x12_1 (ji80)) (wrap64 (x13_1 + 1)) l0 (l0.length : Int) (wrap64 (x34_1 + 1))) = some (r1, r2) := by first | (rw [hji80] at H; exact H) | (simp only [hji80] at H ⊢; exact H)
                            (try rw [hji80] at A12)
                            have hji80_ : (IntKind.i64.wrap (1 * 2 ^ min x13_1.toNat 64)) = ji80 := hji80
                            have hji80z : x13_1 ≤ 64 → (IntKind.i64.wrap (1 * 2 ^ x13_1.toNat)) = ji80 := shl_small hji80
                            have hji80u : (IntKind.i64.wrap (2 ^ min x13_1.toNat 64)) = ji80 := by have h_ := hji80_; rw [Int.one_mul] at h_; exact h_
                            have hji80v : x13_1 ≤ 64 → (IntKind.i64.wrap (2 ^ x13_1.toNat)) = ji80 := fun hle_ => by have h_ := hji80z hle_; rw [Int.one_mul] at h_; exact h_
                            have hji80y : (wrap64 (1 * 2 ^ min x13_1.toNat 64)) = ji80 := (i64_w _).symm.trans hji80_
                            have hji80x : x13_1 ≤ 64 → (wrap64 (1 * 2 ^ x13_1.toNat)) = ji80 := fun h_ => (i64_w _).symm.trans (hji80z h_)
                            have H' := Aside0.mk H
                            clear H
                            have p227 : 0 ≤ (x34_1 : Int) := of_decide_eq_true (by first | (with_reducible assumption) | assumption)
                            have q227 : x34_1 < (l0.length : Int) := of_decide_eq_true (by first | (with_reducible assumption) | assumption)
                            obtain ⟨ad227, e227, hx227_0, hx227_1⟩ := at_T63 HR0.out x34_1 p227 q227
                            cases e227
                            replace hx227_0 := (HB.out.cell (World.block_lt_of_cell? w _ hx227_0)).trans hx227_0
                            replace hx227_1 := (HB.out.cell (World.block_lt_of_cell? w _ hx227_1)).trans hx227_1
                            replace p227 := eq_true p227
                            replace q227 := eq_true q227
                            go_wp2_with (first | ((with_reducible refine gate_dst (N := 15) rfl ?_); refine box_event ?hg (N := 15) ?hd (cs := #[.int .i64 0, .int .i64 0]) (t := 63) ?hr ?_; (case hd => rfl); (case hg => rfl); (case hr => first | (go_simp; done) | (go_simp; rfl)); intro gb228 hg w81 hbox hb; have n0_ := Aside0.mk (Kd.R_below (by (with_reducible repeat (first | apply Kd.R_alloc | apply Kd.R_drewN | apply Kd.R_drew)); exact HO_8.out) hb); have n1_ := Aside0.mk (Kd.R_below (by (with_reducible repeat (first | apply Kd.R_alloc | apply Kd.R_drewN | apply Kd.R_drew)); exact HO_10.out) hb); have n2_ := Aside0.mk (below_step (by repeat (first | (with_reducible first | exact HB.out | apply below_alloc | apply pw_below_drewN | apply below_drew1) | exact HB.out)) hb); have n3_ := Aside0.mk (hbox); have n4_ := Aside0.mk ((by rw [hg]; exact (below_size (by repeat (first | (with_reducible first | exact HB.out | apply below_alloc | apply pw_below_drewN | apply below_drew1) | exact HB.out))) : w.heap.size ≤ gb228)); have n5_ := Aside0.mk ((by rw [hg]; exact (below_size (by repeat (first | (with_reducible first | exact HB.out | apply below_alloc | apply pw_below_drewN | apply below_drew1) | exact HB.out))) : w.heap.size ≤ gb228)); clear HO_8; clear HO_10; clear HB; have HO_8 := n0_; have HO_10 := n1_; have HB := n2_; have BK228 := n3_; have GW228 := n4_; have GE228 := n5_; clear n0_ n1_ n2_ n3_ n4_ n5_; clear hb hbox hg; have hcz82_0 : w81.cell? ⟨gb228, 0, none⟩ = some (.int .i64 0) := (blk_cell BK228.out 0).trans rfl; have hcz82_1 : w81.cell? ⟨gb228, 1, none⟩ = some (.int .i64 0) := (blk_cell BK228.out 1).trans rfl; have hfz82_0 := blk_frozen BK228.out 0; have hfz82_1 := blk_frozen BK228.out 1) | ((with_reducible refine gate_callee (f := 48) rfl ?_); refine goesL_ (some 41) rfl rfl Tryd.func48 (by kernel_rfl) rfl #[.int .i64 ((rd_T63 l0 x34_1).f0)] rfl (by (try simp only [List.map_toArray, List.map_cons, List.map_nil]); first | done | rfl | (simp only [List.length_drop, List.length_take]; rfl)) ?_; (with_reducible refine (logic_ahead.calls ((rd_T63 l0 x34_1).f0) true _ A12.out).mono ?_); rintro e w' ⟨rfl, ⟨nd, rfl⟩⟩; refine ⟨_, rfl, ?_⟩; obtain ⟨Ao83, co83, eo83⟩ := Kd.R_slice HO_8.out; subst eo83; have p234 : 0 ≤ (x34_1 : Int) := of_decide_eq_true (by first | (with_reducible assumption) | assumption); have q234 : x34_1 < (t219.length : Int) := of_decide_eq_true (by first | (with_reducible assumption) | assumption); obtain ⟨ad234, e234, hx234_0⟩ := Kd.at_bool (Kd.R_reads' HO_8.out).2.2 x34_1 p234 q234; (try rw [← Nbq60.out] at hx234_0); cases e234; have hn234_0 : ad234.block ≠ gb228 := Kd.own_blk (Kd.R_ne HO_8.out BK228.out (by decide)); have hn234_1 : ad234.block ≠ gb228 := Kd.own_blk (Kd.R_ne HO_8.out BK228.out (by decide)); replace hx234_0 := (cell_far (p := ⟨gb228, 0, none⟩) (by first | (rw [add_block]; exact hn234_0) | (show (Addr.add _ _).block ≠ _; rw [add_block]; exact hn234_0) | exact hn234_0) (.int .i64 ((rd_T63 l0 x34_1).f0))).trans hx234_0; replace hx234_0 := (cell_far (p := ⟨gb228, 1, none⟩) (by first | (rw [add_block]; exact hn234_1) | (show (Addr.add _ _).block ≠ _; rw [add_block]; exact hn234_1) | exact hn234_1) (.int .i64 ((rd_T63 l0 x34_1).f1))).trans hx234_0; clear hn234_0; clear hn234_1; replace p234 := eq_true p234; replace q234 := eq_true q234))
                            go_roundg k1
                            case measure => have := HK1.out; omega
                            case rel => exact ⟨(Go.bits .or .i64 x12_1 (ji80)), (wrap64 (x13_1 + 1)), (wrap64 (x34_1 + 1)), (by first | rfl | (simp; done) | (simp only [← hji80] <;> (first | rfl | simp)) | (simp [*]; done)), (by first | rfl | (simp; done) | (simp [*]; done)), (by first | rfl | (simp; done) | (simp [*]; done)), H', ⟨by have := HK1.out; omega⟩, ⟨by (with_reducible repeat (first | apply Kd.R_alloc | apply Kd.R_drewN | apply Kd.R_drew)); exact Kd.R_mono (Kd.R_far (p := ⟨gb228, 1, none⟩) (Kd.R_far (p := ⟨gb228, 0, none⟩) (Kd.R_types HO_8.out BK228.out (by decide)) (fun _ hk => hk.2) (.int .i64 ((rd_T63 l0 x34_1).f0))) (fun _ hk => hk.2) (.int .i64 ((rd_T63 l0 x34_1).f1))) (fun _ hk => trivial)⟩, ⟨by (with_reducible repeat (first | apply Kd.R_alloc | apply Kd.R_drewN | apply Kd.R_drew)); exact Kd.R_mono (Kd.R_far (p := ⟨gb228, 1, none⟩) (Kd.R_far (p := ⟨gb228, 0, none⟩) (Kd.R_types HO_10.out BK228.out (by decide)) (fun _ hk => hk.2) (.int .i64 ((rd_T63 l0 x34_1).f0))) (fun _ hk => hk.2) (.int .i64 ((rd_T63 l0 x34_1).f1))) (fun _ hk => trivial)⟩, ⟨by repeat (first | (with_reducible first | exact HB.out | apply below_alloc | apply pw_below_drewN | apply below_drew1 | refine below_set ?_ GE228.out) | exact HB.out)⟩⟩
                          · rw [if_neg c79] at H
                            exact absurd H (by simp)
                      · rw [if_neg c59] at H
                        exact absurd H (by simp)
                    · rw [if_neg c58] at H
                      have c58b0 : (((rd_T63 l0 x34_1).f0) == 15) = false := beq_eq_false_iff_ne.mpr c58
                      have c58b1 : (((rd_T63 l0 x34_1).f0) != 15) = true := bne_iff_ne.mpr c58
                      by_cases c84 : ((rd_T63 l0 x34_1).f0) = 16
                      · rw [if_pos c84] at H
                        have c84b0 : (((rd_T63 l0 x34_1).f0) == 16) = true := beq_iff_eq.mpr c84
                        have c84b1 : (((rd_T63 l0 x34_1).f0) != 16) = false := bne_eq_false_iff_eq.mpr c84
                        clear c84
                        by_cases c85 : x34_1 < (t219.length : Int)
                        · rw [if_pos c85] at H
                          have c85b0 : decide (x34_1 < (t219.length : Int)) = true := decide_eq_true c85
                          clear c85
                          obtain ⟨bq86, hbq86⟩ : ∃ b_ : Bool, b_ = (rdOf false t219 x34_1) := ⟨_, rfl⟩
                          replace H : (if bq86 = true then (if 0 ≤ x13_1 then (logic_Meets.l0 k1 t219 t223 (Go.bits .or .i64 x12_1 (shl .i64 1 x13_1)) (wrap64 (x13_1 + 1)) l0 (l0.length : Int) (wrap64 (x34_1 + 1))) else (none)) else (if 0 ≤ (wrap64 (x34_1 + 1)) then (if (wrap64 (x34_1 + 1)) < (t223.length : Int) then (if 0 ≤ (rd t223 (wrap64 (x34_1 + 1))) then (if (rd t223 (wrap64 (x34_1 + 1))) < (t219.length : Int) then (if (rdOf false t219 (rd t223 (wrap64 (x34_1 + 1))) = true) then (logic_Meets.l0 k1 t219 t223 x12_1 (wrap64 (x13_1 + 1)) l0 (l0.length : Int) (wrap64 (x34_1 + 1))) else (if 0 ≤ x13_1 then (logic_Meets.l0 k1 t219 t223 (Go.bits .or .i64 x12_1 (shl .i64 1 x13_1)) (wrap64 (x13_1 + 1)) l0 (l0.length : Int) (wrap64 (x34_1 + 1))) else (none))) else (none)) else (none)) else (none)) else (none))) = some (r1, r2) := by rw [← hbq86] at H; exact H
                          have Nbq86 := Aside0.mk hbq86
                          clear hbq86
                          by_cases c87 : bq86 = true
                          · subst c87
                            have H1 : (if 0 ≤ x13_1 then (logic_Meets.l0 k1 t219 t223 (Go.bits .or .i64 x12_1 (shl .i64 1 x13_1)) (wrap64 (x13_1 + 1)) l0 (l0.length : Int) (wrap64 (x34_1 + 1))) else (none)) = some (r1, r2) := by rw [if_pos rfl] at H; exact H
                            clear H
                            have H := H1
                            clear H1
                            by_cases c88 : 0 ≤ x13_1
                            · rw [if_pos c88] at H
                              have c88b0 := eq_true c88
                              have c88b1 : decide (0 ≤ x13_1) = true := decide_eq_true c88
                              clear c88
                              obtain ⟨ji89, hji89⟩ : ∃ j_ : Int, (shl .i64 1 x13_1) = j_ := ⟨_, rfl⟩
                              replace H : (logic_Meets.l0 k1 t219 t223 (Go.bits .or .i64 x12_1 (ji89)) (wrap64 (x13_1 + 1)) l0 (l0.length : Int) (wrap64 (x34_1 + 1))) = some (r1, r2) := by first | (rw [hji89] at H; exact H) | (simp only [hji89] at H ⊢; exact H)
                              (try rw [hji89] at A12)
                              have hji89_ : (IntKind.i64.wrap (1 * 2 ^ min x13_1.toNat 64)) = ji89 := hji89
                              have hji89z : x13_1 ≤ 64 → (IntKind.i64.wrap (1 * 2 ^ x13_1.toNat)) = ji89 := shl_small hji89
                              have hji89u : (IntKind.i64.wrap (2 ^ min x13_1.toNat 64)) = ji89 := by have h_ := hji89_; rw [Int.one_mul] at h_; exact h_
                              have hji89v : x13_1 ≤ 64 → (IntKind.i64.wrap (2 ^ x13_1.toNat)) = ji89 := fun hle_ => by have h_ := hji89z hle_; rw [Int.one_mul] at h_; exact h_
                              have hji89y : (wrap64 (1 * 2 ^ min x13_1.toNat 64)) = ji89 := (i64_w _).symm.trans hji89_
                              have hji89x : x13_1 ≤ 64 → (wrap64 (1 * 2 ^ x13_1.toNat)) = ji89 := fun h_ => (i64_w _).symm.trans (hji89z h_)
                              have H' := Aside0.mk H
                              clear H
                              have p227 : 0 ≤ (x34_1 : Int) := of_decide_eq_true (by first | (with_reducible assumption) | assumption)
                              have q227 : x34_1 < (l0.length : Int) := of_decide_eq_true (by first | (with_reducible assumption) | assumption)
                              obtain ⟨ad227, e227, hx227_0, hx227_1⟩ := at_T63 HR0.out x34_1 p227 q227
                              cases e227
                              replace hx227_0 := (HB.out.cell (World.block_lt_of_cell? w _ hx227_0)).trans hx227_0
                              replace hx227_1 := (HB.out.cell (World.block_lt_of_cell? w _ hx227_1)).trans hx227_1
                              replace p227 := eq_true p227
                              replace q227 := eq_true q227
                              go_wp2_with (first | ((with_reducible refine gate_dst (N := 15) rfl ?_); refine box_event ?hg (N := 15) ?hd (cs := #[.int .i64 0, .int .i64 0]) (t := 63) ?hr ?_; (case hd => rfl); (case hg => rfl); (case hr => first | (go_simp; done) | (go_simp; rfl)); intro gb228 hg w90 hbox hb; have n0_ := Aside0.mk (Kd.R_below (by (with_reducible repeat (first | apply Kd.R_alloc | apply Kd.R_drewN | apply Kd.R_drew)); exact HO_8.out) hb); have n1_ := Aside0.mk (Kd.R_below (by (with_reducible repeat (first | apply Kd.R_alloc | apply Kd.R_drewN | apply Kd.R_drew)); exact HO_10.out) hb); have n2_ := Aside0.mk (below_step (by repeat (first | (with_reducible first | exact HB.out | apply below_alloc | apply pw_below_drewN | apply below_drew1) | exact HB.out)) hb); have n3_ := Aside0.mk (hbox); have n4_ := Aside0.mk ((by rw [hg]; exact (below_size (by repeat (first | (with_reducible first | exact HB.out | apply below_alloc | apply pw_below_drewN | apply below_drew1) | exact HB.out))) : w.heap.size ≤ gb228)); have n5_ := Aside0.mk ((by rw [hg]; exact (below_size (by repeat (first | (with_reducible first | exact HB.out | apply below_alloc | apply pw_below_drewN | apply below_drew1) | exact HB.out))) : w.heap.size ≤ gb228)); clear HO_8; clear HO_10; clear HB; have HO_8 := n0_; have HO_10 := n1_; have HB := n2_; have BK228 := n3_; have GW228 := n4_; have GE228 := n5_; clear n0_ n1_ n2_ n3_ n4_ n5_; clear hb hbox hg; have hcz91_0 : w90.cell? ⟨gb228, 0, none⟩ = some (.int .i64 0) := (blk_cell BK228.out 0).trans rfl; have hcz91_1 : w90.cell? ⟨gb228, 1, none⟩ = some (.int .i64 0) := (blk_cell BK228.out 1).trans rfl; have hfz91_0 := blk_frozen BK228.out 0; have hfz91_1 := blk_frozen BK228.out 1) | ((with_reducible refine gate_callee (f := 48) rfl ?_); refine goesL_ (some 41) rfl rfl Tryd.func48 (by kernel_rfl) rfl #[.int .i64 ((rd_T63 l0 x34_1).f0)] rfl (by (try simp only [List.map_toArray, List.map_cons, List.map_nil]); first | done | rfl | (simp only [List.length_drop, List.length_take]; rfl)) ?_; (with_reducible refine (logic_ahead.calls ((rd_T63 l0 x34_1).f0) true _ A12.out).mono ?_); rintro e w' ⟨rfl, ⟨nd, rfl⟩⟩; refine ⟨_, rfl, ?_⟩; obtain ⟨Ao92, co92, eo92⟩ := Kd.R_slice HO_8.out; subst eo92; have p237 : 0 ≤ (x34_1 : Int) := of_decide_eq_true (by first | (with_reducible assumption) | assumption); have q237 : x34_1 < (t219.length : Int) := of_decide_eq_true (by first | (with_reducible assumption) | assumption); obtain ⟨ad237, e237, hx237_0⟩ := Kd.at_bool (Kd.R_reads' HO_8.out).2.2 x34_1 p237 q237; (try rw [← Nbq86.out] at hx237_0); cases e237; have hn237_0 : ad237.block ≠ gb228 := Kd.own_blk (Kd.R_ne HO_8.out BK228.out (by decide)); have hn237_1 : ad237.block ≠ gb228 := Kd.own_blk (Kd.R_ne HO_8.out BK228.out (by decide)); replace hx237_0 := (cell_far (p := ⟨gb228, 0, none⟩) (by first | (rw [add_block]; exact hn237_0) | (show (Addr.add _ _).block ≠ _; rw [add_block]; exact hn237_0) | exact hn237_0) (.int .i64 ((rd_T63 l0 x34_1).f0))).trans hx237_0; replace hx237_0 := (cell_far (p := ⟨gb228, 1, none⟩) (by first | (rw [add_block]; exact hn237_1) | (show (Addr.add _ _).block ≠ _; rw [add_block]; exact hn237_1) | exact hn237_1) (.int .i64 ((rd_T63 l0 x34_1).f1))).trans hx237_0; clear hn237_0; clear hn237_1; replace p237 := eq_true p237; replace q237 := eq_true q237))
                              go_roundg k1
                              case measure => have := HK1.out; omega
                              case rel => exact ⟨(Go.bits .or .i64 x12_1 (ji89)), (wrap64 (x13_1 + 1)), (wrap64 (x34_1 + 1)), (by first | rfl | (simp; done) | (simp only [← hji89] <;> (first | rfl | simp)) | (simp [*]; done)), (by first | rfl | (simp; done) | (simp [*]; done)), (by first | rfl | (simp; done) | (simp [*]; done)), H', ⟨by have := HK1.out; omega⟩, ⟨by (with_reducible repeat (first | apply Kd.R_alloc | apply Kd.R_drewN | apply Kd.R_drew)); exact Kd.R_mono (Kd.R_far (p := ⟨gb228, 1, none⟩) (Kd.R_far (p := ⟨gb228, 0, none⟩) (Kd.R_types HO_8.out BK228.out (by decide)) (fun _ hk => hk.2) (.int .i64 ((rd_T63 l0 x34_1).f0))) (fun _ hk => hk.2) (.int .i64 ((rd_T63 l0 x34_1).f1))) (fun _ hk => trivial)⟩, ⟨by (with_reducible repeat (first | apply Kd.R_alloc | apply Kd.R_drewN | apply Kd.R_drew)); exact Kd.R_mono (Kd.R_far (p := ⟨gb228, 1, none⟩) (Kd.R_far (p := ⟨gb228, 0, none⟩) (Kd.R_types HO_10.out BK228.out (by decide)) (fun _ hk => hk.2) (.int .i64 ((rd_T63 l0 x34_1).f0))) (fun _ hk => hk.2) (.int .i64 ((rd_T63 l0 x34_1).f1))) (fun _ hk => trivial)⟩, ⟨by repeat (first | (with_reducible first | exact HB.out | apply below_alloc | apply pw_below_drewN | apply below_drew1 | refine below_set ?_ GE228.out) | exact HB.out)⟩⟩
                            · rw [if_neg c88] at H
                              exact absurd H (by simp)
                          · replace c87 := Bool.eq_false_iff.mpr c87
                            subst c87
                            have H1 : (if 0 ≤ (wrap64 (x34_1 + 1)) then (if (wrap64 (x34_1 + 1)) < (t223.length : Int) then (if 0 ≤ (rd t223 (wrap64 (x34_1 + 1))) then (if (rd t223 (wrap64 (x34_1 + 1))) < (t219.length : Int) then (if (rdOf false t219 (rd t223 (wrap64 (x34_1 + 1))) = true) then (logic_Meets.l0 k1 t219 t223 x12_1 (wrap64 (x13_1 + 1)) l0 (l0.length : Int) (wrap64 (x34_1 + 1))) else (if 0 ≤ x13_1 then (logic_Meets.l0 k1 t219 t223 (Go.bits .or .i64 x12_1 (shl .i64 1 x13_1)) (wrap64 (x13_1 + 1)) l0 (l0.length : Int) (wrap64 (x34_1 + 1))) else (none))) else (none)) else (none)) else (none)) else (none)) = some (r1, r2) := by rw [if_neg (show ¬ (false = true) by decide)] at H; exact H
                            clear H
                            have H := H1
                            clear H1
                            obtain ⟨ji93, hji93⟩ : ∃ j_ : Int, (wrap64 (x34_1 + 1)) = j_ := ⟨_, rfl⟩
                            replace H : (if 0 ≤ (ji93) then (if (ji93) < (t223.length : Int) then (if 0 ≤ (rd t223 (ji93)) then (if (rd t223 (ji93)) < (t219.length : Int) then (if (rdOf false t219 (rd t223 (ji93)) = true) then (logic_Meets.l0 k1 t219 t223 x12_1 (wrap64 (x13_1 + 1)) l0 (l0.length : Int) ji93) else (if 0 ≤ x13_1 then (logic_Meets.l0 k1 t219 t223 (Go.bits .or .i64 x12_1 (shl .i64 1 x13_1)) (wrap64 (x13_1 + 1)) l0 (l0.length : Int) ji93) else (none))) else (none)) else (none)) else (none)) else (none)) = some (r1, r2) := by first | (rw [hji93] at H; exact H) | (simp only [hji93] at H ⊢; exact H)
                            (try rw [hji93] at A12)
                            have hji93w : (IntKind.i64.wrap (x34_1 + 1)) = ji93 := (i64_w _).trans hji93
                            by_cases c94 : 0 ≤ (ji93)
                            · rw [if_pos c94] at H
                              have c94b0 : decide (0 ≤ (ji93)) = true := decide_eq_true c94
                              clear c94
                              by_cases c95 : (ji93) < (t223.length : Int)
                              · rw [if_pos c95] at H
                                have c95b0 : decide ((ji93) < (t223.length : Int)) = true := decide_eq_true c95
                                clear c95
                                by_cases c96 : 0 ≤ (rd t223 (ji93))
                                · rw [if_pos c96] at H
                                  have c96b0 : decide (0 ≤ (rd t223 (ji93))) = true := decide_eq_true c96
                                  clear c96
                                  by_cases c97 : (rd t223 (ji93)) < (t219.length : Int)
                                  · rw [if_pos c97] at H
                                    have c97b0 : decide ((rd t223 (ji93)) < (t219.length : Int)) = true := decide_eq_true c97
                                    clear c97
                                    obtain ⟨bq98, hbq98⟩ : ∃ b_ : Bool, b_ = (rdOf false t219 (rd t223 (ji93))) := ⟨_, rfl⟩
                                    replace H : (if (bq98 = true) then (logic_Meets.l0 k1 t219 t223 x12_1 (wrap64 (x13_1 + 1)) l0 (l0.length : Int) ji93) else (if 0 ≤ x13_1 then (logic_Meets.l0 k1 t219 t223 (Go.bits .or .i64 x12_1 (shl .i64 1 x13_1)) (wrap64 (x13_1 + 1)) l0 (l0.length : Int) ji93) else (none))) = some (r1, r2) := by rw [← hbq98] at H; exact H
                                    have Nbq98 := Aside0.mk hbq98
                                    clear hbq98
                                    by_cases c99 : (bq98 = true)
                                    · subst c99
                                      have H1 : (logic_Meets.l0 k1 t219 t223 x12_1 (wrap64 (x13_1 + 1)) l0 (l0.length : Int) ji93) = some (r1, r2) := by rw [if_pos rfl] at H; exact H
                                      clear H
                                      have H := H1
                                      clear H1
                                      have H' := Aside0.mk H
                                      clear H
                                      have p227 : 0 ≤ (x34_1 : Int) := of_decide_eq_true (by first | (with_reducible assumption) | assumption)
                                      have q227 : x34_1 < (l0.length : Int) := of_decide_eq_true (by first | (with_reducible assumption) | assumption)
                                      obtain ⟨ad227, e227, hx227_0, hx227_1⟩ := at_T63 HR0.out x34_1 p227 q227
                                      cases e227
                                      replace hx227_0 := (HB.out.cell (World.block_lt_of_cell? w _ hx227_0)).trans hx227_0
                                      replace hx227_1 := (HB.out.cell (World.block_lt_of_cell? w _ hx227_1)).trans hx227_1
                                      replace p227 := eq_true p227
                                      replace q227 := eq_true q227
                                      go_wp2_with (first | ((with_reducible refine gate_dst (N := 15) rfl ?_); refine box_event ?hg (N := 15) ?hd (cs := #[.int .i64 0, .int .i64 0]) (t := 63) ?hr ?_; (case hd => rfl); (case hg => rfl); (case hr => first | (go_simp; done) | (go_simp; rfl)); intro gb228 hg w100 hbox hb; have n0_ := Aside0.mk (Kd.R_below (by (with_reducible repeat (first | apply Kd.R_alloc | apply Kd.R_drewN | apply Kd.R_drew)); exact HO_8.out) hb); have n1_ := Aside0.mk (Kd.R_below (by (with_reducible repeat (first | apply Kd.R_alloc | apply Kd.R_drewN | apply Kd.R_drew)); exact HO_10.out) hb); have n2_ := Aside0.mk (below_step (by repeat (first | (with_reducible first | exact HB.out | apply below_alloc | apply pw_below_drewN | apply below_drew1) | exact HB.out)) hb); have n3_ := Aside0.mk (hbox); have n4_ := Aside0.mk ((by rw [hg]; exact (below_size (by repeat (first | (with_reducible first | exact HB.out | apply below_alloc | apply pw_below_drewN | apply below_drew1) | exact HB.out))) : w.heap.size ≤ gb228)); have n5_ := Aside0.mk ((by rw [hg]; exact (below_size (by repeat (first | (with_reducible first | exact HB.out | apply below_alloc | apply pw_below_drewN | apply below_drew1) | exact HB.out))) : w.heap.size ≤ gb228)); clear HO_8; clear HO_10; clear HB; have HO_8 := n0_; have HO_10 := n1_; have HB := n2_; have BK228 := n3_; have GW228 := n4_; have GE228 := n5_; clear n0_ n1_ n2_ n3_ n4_ n5_; clear hb hbox hg; have hcz101_0 : w100.cell? ⟨gb228, 0, none⟩ = some (.int .i64 0) := (blk_cell BK228.out 0).trans rfl; have hcz101_1 : w100.cell? ⟨gb228, 1, none⟩ = some (.int .i64 0) := (blk_cell BK228.out 1).trans rfl; have hfz101_0 := blk_frozen BK228.out 0; have hfz101_1 := blk_frozen BK228.out 1) | ((with_reducible refine gate_callee (f := 48) rfl ?_); refine goesL_ (some 41) rfl rfl Tryd.func48 (by kernel_rfl) rfl #[.int .i64 ((rd_T63 l0 x34_1).f0)] rfl (by (try simp only [List.map_toArray, List.map_cons, List.map_nil]); first | done | rfl | (simp only [List.length_drop, List.length_take]; rfl)) ?_; (with_reducible refine (logic_ahead.calls ((rd_T63 l0 x34_1).f0) true _ A12.out).mono ?_); rintro e w' ⟨rfl, ⟨nd, rfl⟩⟩; refine ⟨_, rfl, ?_⟩; obtain ⟨Ao102, co102, eo102⟩ := Kd.R_slice HO_8.out; subst eo102; have p237 : 0 ≤ (x34_1 : Int) := of_decide_eq_true (by first | (with_reducible assumption) | assumption); have q237 : x34_1 < (t219.length : Int) := of_decide_eq_true (by first | (with_reducible assumption) | assumption); obtain ⟨ad237, e237, hx237_0⟩ := Kd.at_bool (Kd.R_reads' HO_8.out).2.2 x34_1 p237 q237; (try rw [← Nbq86.out] at hx237_0); (try rw [← Nbq98.out] at hx237_0); cases e237; have hn237_0 : ad237.block ≠ gb228 := Kd.own_blk (Kd.R_ne HO_8.out BK228.out (by decide)); have hn237_1 : ad237.block ≠ gb228 := Kd.own_blk (Kd.R_ne HO_8.out BK228.out (by decide)); replace hx237_0 := (cell_far (p := ⟨gb228, 0, none⟩) (by first | (rw [add_block]; exact hn237_0) | (show (Addr.add _ _).block ≠ _; rw [add_block]; exact hn237_0) | exact hn237_0) (.int .i64 ((rd_T63 l0 x34_1).f0))).trans hx237_0; replace hx237_0 := (cell_far (p := ⟨gb228, 1, none⟩) (by first | (rw [add_block]; exact hn237_1) | (show (Addr.add _ _).block ≠ _; rw [add_block]; exact hn237_1) | exact hn237_1) (.int .i64 ((rd_T63 l0 x34_1).f1))).trans hx237_0; clear hn237_0; clear hn237_1; replace p237 := eq_true p237; replace q237 := eq_true q237; obtain ⟨Ao103, co103, eo103⟩ := Kd.R_slice HO_10.out; subst eo103; have p238 : 0 ≤ ((ji93) : Int) := of_decide_eq_true (by first | (with_reducible assumption) | assumption); have q238 : (ji93) < (t223.length : Int) := of_decide_eq_true (by first | (with_reducible assumption) | assumption); obtain ⟨ad238, e238, hx238_0⟩ := Kd.at_int (Kd.R_reads' HO_10.out).2.2 (ji93) p238 q238; cases e238; have hn238_0 : ad238.block ≠ gb228 := Kd.own_blk (Kd.R_ne HO_10.out BK228.out (by decide)); have hn238_1 : ad238.block ≠ gb228 := Kd.own_blk (Kd.R_ne HO_10.out BK228.out (by decide)); replace hx238_0 := (cell_far (p := ⟨gb228, 0, none⟩) (by first | (rw [add_block]; exact hn238_0) | (show (Addr.add _ _).block ≠ _; rw [add_block]; exact hn238_0) | exact hn238_0) (.int .i64 ((rd_T63 l0 x34_1).f0))).trans hx238_0; replace hx238_0 := (cell_far (p := ⟨gb228, 1, none⟩) (by first | (rw [add_block]; exact hn238_1) | (show (Addr.add _ _).block ≠ _; rw [add_block]; exact hn238_1) | exact hn238_1) (.int .i64 ((rd_T63 l0 x34_1).f1))).trans hx238_0; clear hn238_0; clear hn238_1; replace p238 := eq_true p238; replace q238 := eq_true q238; have p239 : 0 ≤ ((rd t223 (ji93)) : Int) := of_decide_eq_true (by first | (with_reducible assumption) | assumption); have q239 : (rd t223 (ji93)) < (t219.length : Int) := of_decide_eq_true (by first | (with_reducible assumption) | assumption); obtain ⟨ad239, e239, hx239_0⟩ := Kd.at_bool (Kd.R_reads' HO_8.out).2.2 (rd t223 (ji93)) p239 q239; (try rw [← Nbq86.out] at hx239_0); (try rw [← Nbq98.out] at hx239_0); obtain rfl : ad237 = ad239 := (by injection e239); have hn239_0 : ad237.block ≠ gb228 := Kd.own_blk (Kd.R_ne HO_8.out BK228.out (by decide)); have hn239_1 : ad237.block ≠ gb228 := Kd.own_blk (Kd.R_ne HO_8.out BK228.out (by decide)); replace hx239_0 := (cell_far (p := ⟨gb228, 0, none⟩) (by first | (rw [add_block]; exact hn239_0) | (show (Addr.add _ _).block ≠ _; rw [add_block]; exact hn239_0) | exact hn239_0) (.int .i64 ((rd_T63 l0 x34_1).f0))).trans hx239_0; replace hx239_0 := (cell_far (p := ⟨gb228, 1, none⟩) (by first | (rw [add_block]; exact hn239_1) | (show (Addr.add _ _).block ≠ _; rw [add_block]; exact hn239_1) | exact hn239_1) (.int .i64 ((rd_T63 l0 x34_1).f1))).trans hx239_0; clear hn239_0; clear hn239_1; replace p239 := eq_true p239; replace q239 := eq_true q239))
                                      go_roundg k1
                                      case measure => have := HK1.out; omega
                                      case rel => exact ⟨(x12_1), (wrap64 (x13_1 + 1)), (ji93), (by first | rfl | (simp; done) | (simp [*]; done)), (by first | rfl | (simp; done) | (simp [*]; done)), (by first | rfl | (simp; done) | (simp only [← hji93] <;> (first | rfl | simp)) | (simp [*]; done)), H', ⟨by have := HK1.out; omega⟩, ⟨by (with_reducible repeat (first | apply Kd.R_alloc | apply Kd.R_drewN | apply Kd.R_drew)); exact Kd.R_mono (Kd.R_far (p := ⟨gb228, 1, none⟩) (Kd.R_far (p := ⟨gb228, 0, none⟩) (Kd.R_types HO_8.out BK228.out (by decide)) (fun _ hk => hk.2) (.int .i64 ((rd_T63 l0 x34_1).f0))) (fun _ hk => hk.2) (.int .i64 ((rd_T63 l0 x34_1).f1))) (fun _ hk => trivial)⟩, ⟨by (with_reducible repeat (first | apply Kd.R_alloc | apply Kd.R_drewN | apply Kd.R_drew)); exact Kd.R_mono (Kd.R_far (p := ⟨gb228, 1, none⟩) (Kd.R_far (p := ⟨gb228, 0, none⟩) (Kd.R_types HO_10.out BK228.out (by decide)) (fun _ hk => hk.2) (.int .i64 ((rd_T63 l0 x34_1).f0))) (fun _ hk => hk.2) (.int .i64 ((rd_T63 l0 x34_1).f1))) (fun _ hk => trivial)⟩, ⟨by repeat (first | (with_reducible first | exact HB.out | apply below_alloc | apply pw_below_drewN | apply below_drew1 | refine below_set ?_ GE228.out) | exact HB.out)⟩⟩
                                    · replace c99 := Bool.eq_false_iff.mpr c99
                                      subst c99
                                      have H1 : (if 0 ≤ x13_1 then (logic_Meets.l0 k1 t219 t223 (Go.bits .or .i64 x12_1 (shl .i64 1 x13_1)) (wrap64 (x13_1 + 1)) l0 (l0.length : Int) ji93) else (none)) = some (r1, r2) := by rw [if_neg (show ¬ (false = true) by decide)] at H; exact H
                                      clear H
                                      have H := H1
                                      clear H1
                                      by_cases c104 : 0 ≤ x13_1
                                      · rw [if_pos c104] at H
                                        have c104b0 := eq_true c104
                                        have c104b1 : decide (0 ≤ x13_1) = true := decide_eq_true c104
                                        clear c104
                                        obtain ⟨ji105, hji105⟩ : ∃ j_ : Int, (shl .i64 1 x13_1) = j_ := ⟨_, rfl⟩
                                        replace H : (logic_Meets.l0 k1 t219 t223 (Go.bits .or .i64 x12_1 (ji105)) (wrap64 (x13_1 + 1)) l0 (l0.length : Int) ji93) = some (r1, r2) := by first | (rw [hji105] at H; exact H) | (simp only [hji105] at H ⊢; exact H)
                                        (try rw [hji105] at A12)
                                        have hji105_ : (IntKind.i64.wrap (1 * 2 ^ min x13_1.toNat 64)) = ji105 := hji105
                                        have hji105z : x13_1 ≤ 64 → (IntKind.i64.wrap (1 * 2 ^ x13_1.toNat)) = ji105 := shl_small hji105
                                        have hji105u : (IntKind.i64.wrap (2 ^ min x13_1.toNat 64)) = ji105 := by have h_ := hji105_; rw [Int.one_mul] at h_; exact h_
                                        have hji105v : x13_1 ≤ 64 → (IntKind.i64.wrap (2 ^ x13_1.toNat)) = ji105 := fun hle_ => by have h_ := hji105z hle_; rw [Int.one_mul] at h_; exact h_
                                        have hji105y : (wrap64 (1 * 2 ^ min x13_1.toNat 64)) = ji105 := (i64_w _).symm.trans hji105_
                                        have hji105x : x13_1 ≤ 64 → (wrap64 (1 * 2 ^ x13_1.toNat)) = ji105 := fun h_ => (i64_w _).symm.trans (hji105z h_)
                                        have H' := Aside0.mk H
                                        clear H
                                        have p227 : 0 ≤ (x34_1 : Int) := of_decide_eq_true (by first | (with_reducible assumption) | assumption)
                                        have q227 : x34_1 < (l0.length : Int) := of_decide_eq_true (by first | (with_reducible assumption) | assumption)
                                        obtain ⟨ad227, e227, hx227_0, hx227_1⟩ := at_T63 HR0.out x34_1 p227 q227
                                        cases e227
                                        replace hx227_0 := (HB.out.cell (World.block_lt_of_cell? w _ hx227_0)).trans hx227_0
                                        replace hx227_1 := (HB.out.cell (World.block_lt_of_cell? w _ hx227_1)).trans hx227_1
                                        replace p227 := eq_true p227
                                        replace q227 := eq_true q227
                                        go_wp2_with (first | ((with_reducible refine gate_dst (N := 15) rfl ?_); refine box_event ?hg (N := 15) ?hd (cs := #[.int .i64 0, .int .i64 0]) (t := 63) ?hr ?_; (case hd => rfl); (case hg => rfl); (case hr => first | (go_simp; done) | (go_simp; rfl)); intro gb228 hg w106 hbox hb; have n0_ := Aside0.mk (Kd.R_below (by (with_reducible repeat (first | apply Kd.R_alloc | apply Kd.R_drewN | apply Kd.R_drew)); exact HO_8.out) hb); have n1_ := Aside0.mk (Kd.R_below (by (with_reducible repeat (first | apply Kd.R_alloc | apply Kd.R_drewN | apply Kd.R_drew)); exact HO_10.out) hb); have n2_ := Aside0.mk (below_step (by repeat (first | (with_reducible first | exact HB.out | apply below_alloc | apply pw_below_drewN | apply below_drew1) | exact HB.out)) hb); have n3_ := Aside0.mk (hbox); have n4_ := Aside0.mk ((by rw [hg]; exact (below_size (by repeat (first | (with_reducible first | exact HB.out | apply below_alloc | apply pw_below_drewN | apply below_drew1) | exact HB.out))) : w.heap.size ≤ gb228)); have n5_ := Aside0.mk ((by rw [hg]; exact (below_size (by repeat (first | (with_reducible first | exact HB.out | apply below_alloc | apply pw_below_drewN | apply below_drew1) | exact HB.out))) : w.heap.size ≤ gb228)); clear HO_8; clear HO_10; clear HB; have HO_8 := n0_; have HO_10 := n1_; have HB := n2_; have BK228 := n3_; have GW228 := n4_; have GE228 := n5_; clear n0_ n1_ n2_ n3_ n4_ n5_; clear hb hbox hg; have hcz107_0 : w106.cell? ⟨gb228, 0, none⟩ = some (.int .i64 0) := (blk_cell BK228.out 0).trans rfl; have hcz107_1 : w106.cell? ⟨gb228, 1, none⟩ = some (.int .i64 0) := (blk_cell BK228.out 1).trans rfl; have hfz107_0 := blk_frozen BK228.out 0; have hfz107_1 := blk_frozen BK228.out 1) | ((with_reducible refine gate_callee (f := 48) rfl ?_); refine goesL_ (some 41) rfl rfl Tryd.func48 (by kernel_rfl) rfl #[.int .i64 ((rd_T63 l0 x34_1).f0)] rfl (by (try simp only [List.map_toArray, List.map_cons, List.map_nil]); first | done | rfl | (simp only [List.length_drop, List.length_take]; rfl)) ?_; (with_reducible refine (logic_ahead.calls ((rd_T63 l0 x34_1).f0) true _ A12.out).mono ?_); rintro e w' ⟨rfl, ⟨nd, rfl⟩⟩; refine ⟨_, rfl, ?_⟩; obtain ⟨Ao108, co108, eo108⟩ := Kd.R_slice HO_8.out; subst eo108; have p237 : 0 ≤ (x34_1 : Int) := of_decide_eq_true (by first | (with_reducible assumption) | assumption); have q237 : x34_1 < (t219.length : Int) := of_decide_eq_true (by first | (with_reducible assumption) | assumption); obtain ⟨ad237, e237, hx237_0⟩ := Kd.at_bool (Kd.R_reads' HO_8.out).2.2 x34_1 p237 q237; (try rw [← Nbq86.out] at hx237_0); (try rw [← Nbq98.out] at hx237_0); cases e237; have hn237_0 : ad237.block ≠ gb228 := Kd.own_blk (Kd.R_ne HO_8.out BK228.out (by decide)); have hn237_1 : ad237.block ≠ gb228 := Kd.own_blk (Kd.R_ne HO_8.out BK228.out (by decide)); replace hx237_0 := (cell_far (p := ⟨gb228, 0, none⟩) (by first | (rw [add_block]; exact hn237_0) | (show (Addr.add _ _).block ≠ _; rw [add_block]; exact hn237_0) | exact hn237_0) (.int .i64 ((rd_T63 l0 x34_1).f0))).trans hx237_0; replace hx237_0 := (cell_far (p := ⟨gb228, 1, none⟩) (by first | (rw [add_block]; exact hn237_1) | (show (Addr.add _ _).block ≠ _; rw [add_block]; exact hn237_1) | exact hn237_1) (.int .i64 ((rd_T63 l0 x34_1).f1))).trans hx237_0; clear hn237_0; clear hn237_1; replace p237 := eq_true p237; replace q237 := eq_true q237; obtain ⟨Ao109, co109, eo109⟩ := Kd.R_slice HO_10.out; subst eo109; have p238 : 0 ≤ ((ji93) : Int) := of_decide_eq_true (by first | (with_reducible assumption) | assumption); have q238 : (ji93) < (t223.length : Int) := of_decide_eq_true (by first | (with_reducible assumption) | assumption); obtain ⟨ad238, e238, hx238_0⟩ := Kd.at_int (Kd.R_reads' HO_10.out).2.2 (ji93) p238 q238; cases e238; have hn238_0 : ad238.block ≠ gb228 := Kd.own_blk (Kd.R_ne HO_10.out BK228.out (by decide)); have hn238_1 : ad238.block ≠ gb228 := Kd.own_blk (Kd.R_ne HO_10.out BK228.out (by decide)); replace hx238_0 := (cell_far (p := ⟨gb228, 0, none⟩) (by first | (rw [add_block]; exact hn238_0) | (show (Addr.add _ _).block ≠ _; rw [add_block]; exact hn238_0) | exact hn238_0) (.int .i64 ((rd_T63 l0 x34_1).f0))).trans hx238_0; replace hx238_0 := (cell_far (p := ⟨gb228, 1, none⟩) (by first | (rw [add_block]; exact hn238_1) | (show (Addr.add _ _).block ≠ _; rw [add_block]; exact hn238_1) | exact hn238_1) (.int .i64 ((rd_T63 l0 x34_1).f1))).trans hx238_0; clear hn238_0; clear hn238_1; replace p238 := eq_true p238; replace q238 := eq_true q238; have p239 : 0 ≤ ((rd t223 (ji93)) : Int) := of_decide_eq_true (by first | (with_reducible assumption) | assumption); have q239 : (rd t223 (ji93)) < (t219.length : Int) := of_decide_eq_true (by first | (with_reducible assumption) | assumption); obtain ⟨ad239, e239, hx239_0⟩ := Kd.at_bool (Kd.R_reads' HO_8.out).2.2 (rd t223 (ji93)) p239 q239; (try rw [← Nbq86.out] at hx239_0); (try rw [← Nbq98.out] at hx239_0); obtain rfl : ad237 = ad239 := (by injection e239); have hn239_0 : ad237.block ≠ gb228 := Kd.own_blk (Kd.R_ne HO_8.out BK228.out (by decide)); have hn239_1 : ad237.block ≠ gb228 := Kd.own_blk (Kd.R_ne HO_8.out BK228.out (by decide)); replace hx239_0 := (cell_far (p := ⟨gb228, 0, none⟩) (by first | (rw [add_block]; exact hn239_0) | (show (Addr.add _ _).block ≠ _; rw [add_block]; exact hn239_0) | exact hn239_0) (.int .i64 ((rd_T63 l0 x34_1).f0))).trans hx239_0; replace hx239_0 := (cell_far (p := ⟨gb228, 1, none⟩) (by first | (rw [add_block]; exact hn239_1) | (show (Addr.add _ _).block ≠ _; rw [add_block]; exact hn239_1) | exact hn239_1) (.int .i64 ((rd_T63 l0 x34_1).f1))).trans hx239_0; clear hn239_0; clear hn239_1; replace p239 := eq_true p239; replace q239 := eq_true q239))
                                        go_roundg k1
                                        case measure => have := HK1.out; omega
                                        case rel => exact ⟨(Go.bits .or .i64 x12_1 (ji105)), (wrap64 (x13_1 + 1)), (ji93), (by first | rfl | (simp; done) | (simp only [← hji105] <;> (first | rfl | simp)) | (simp [*]; done)), (by first | rfl | (simp; done) | (simp [*]; done)), (by first | rfl | (simp; done) | (simp only [← hji93] <;> (first | rfl | simp)) | (simp [*]; done)), H', ⟨by have := HK1.out; omega⟩, ⟨by (with_reducible repeat (first | apply Kd.R_alloc | apply Kd.R_drewN | apply Kd.R_drew)); exact Kd.R_mono (Kd.R_far (p := ⟨gb228, 1, none⟩) (Kd.R_far (p := ⟨gb228, 0, none⟩) (Kd.R_types HO_8.out BK228.out (by decide)) (fun _ hk => hk.2) (.int .i64 ((rd_T63 l0 x34_1).f0))) (fun _ hk => hk.2) (.int .i64 ((rd_T63 l0 x34_1).f1))) (fun _ hk => trivial)⟩, ⟨by (with_reducible repeat (first | apply Kd.R_alloc | apply Kd.R_drewN | apply Kd.R_drew)); exact Kd.R_mono (Kd.R_far (p := ⟨gb228, 1, none⟩) (Kd.R_far (p := ⟨gb228, 0, none⟩) (Kd.R_types HO_10.out BK228.out (by decide)) (fun _ hk => hk.2) (.int .i64 ((rd_T63 l0 x34_1).f0))) (fun _ hk => hk.2) (.int .i64 ((rd_T63 l0 x34_1).f1))) (fun _ hk => trivial)⟩, ⟨by repeat (first | (with_reducible first | exact HB.out | apply below_alloc | apply pw_below_drewN | apply below_drew1 | refine below_set ?_ GE228.out) | exact HB.out)⟩⟩
                                      · rw [if_neg c104] at H
                                        exact absurd H (by simp)
                                  · rw [if_neg c97] at H
                                    exact absurd H (by simp)
                                · rw [if_neg c96] at H
                                  exact absurd H (by simp)
                              · rw [if_neg c95] at H
                                exact absurd H (by simp)
                            · rw [if_neg c94] at H
                              exact absurd H (by simp)
                        · rw [if_neg c85] at H
                          exact absurd H (by simp)
                      · rw [if_neg c84] at H
                        have c84b0 : (((rd_T63 l0 x34_1).f0) == 16) = false := beq_eq_false_iff_ne.mpr c84
                        have c84b1 : (((rd_T63 l0 x34_1).f0) != 16) = true := bne_iff_ne.mpr c84
                        by_cases c110 : 0 ≤ x13_1
                        · rw [if_pos c110] at H
                          have c110b0 := eq_true c110
                          have c110b1 : decide (0 ≤ x13_1) = true := decide_eq_true c110
                          clear c110
                          obtain ⟨ji111, hji111⟩ : ∃ j_ : Int, (shl .i64 1 x13_1) = j_ := ⟨_, rfl⟩
                          replace H : (logic_Meets.l0 k1 t219 t223 (Go.bits .or .i64 x12_1 (ji111)) (wrap64 (x13_1 + 1)) l0 (l0.length : Int) (wrap64 (x34_1 + 1))) = some (r1, r2) := by first | (rw [hji111] at H; exact H) | (simp only [hji111] at H ⊢; exact H)
                          (try rw [hji111] at A12)
                          have hji111_ : (IntKind.i64.wrap (1 * 2 ^ min x13_1.toNat 64)) = ji111 := hji111
                          have hji111z : x13_1 ≤ 64 → (IntKind.i64.wrap (1 * 2 ^ x13_1.toNat)) = ji111 := shl_small hji111
                          have hji111u : (IntKind.i64.wrap (2 ^ min x13_1.toNat 64)) = ji111 := by have h_ := hji111_; rw [Int.one_mul] at h_; exact h_
                          have hji111v : x13_1 ≤ 64 → (IntKind.i64.wrap (2 ^ x13_1.toNat)) = ji111 := fun hle_ => by have h_ := hji111z hle_; rw [Int.one_mul] at h_; exact h_
                          have hji111y : (wrap64 (1 * 2 ^ min x13_1.toNat 64)) = ji111 := (i64_w _).symm.trans hji111_
                          have hji111x : x13_1 ≤ 64 → (wrap64 (1 * 2 ^ x13_1.toNat)) = ji111 := fun h_ => (i64_w _).symm.trans (hji111z h_)
                          have H' := Aside0.mk H
                          clear H
                          have p227 : 0 ≤ (x34_1 : Int) := of_decide_eq_true (by first | (with_reducible assumption) | assumption)
                          have q227 : x34_1 < (l0.length : Int) := of_decide_eq_true (by first | (with_reducible assumption) | assumption)
                          obtain ⟨ad227, e227, hx227_0, hx227_1⟩ := at_T63 HR0.out x34_1 p227 q227
                          cases e227
                          replace hx227_0 := (HB.out.cell (World.block_lt_of_cell? w _ hx227_0)).trans hx227_0
                          replace hx227_1 := (HB.out.cell (World.block_lt_of_cell? w _ hx227_1)).trans hx227_1
                          replace p227 := eq_true p227
                          replace q227 := eq_true q227
                          go_wp2_with (first | ((with_reducible refine gate_dst (N := 15) rfl ?_); refine box_event ?hg (N := 15) ?hd (cs := #[.int .i64 0, .int .i64 0]) (t := 63) ?hr ?_; (case hd => rfl); (case hg => rfl); (case hr => first | (go_simp; done) | (go_simp; rfl)); intro gb228 hg w112 hbox hb; have n0_ := Aside0.mk (Kd.R_below (by (with_reducible repeat (first | apply Kd.R_alloc | apply Kd.R_drewN | apply Kd.R_drew)); exact HO_8.out) hb); have n1_ := Aside0.mk (Kd.R_below (by (with_reducible repeat (first | apply Kd.R_alloc | apply Kd.R_drewN | apply Kd.R_drew)); exact HO_10.out) hb); have n2_ := Aside0.mk (below_step (by repeat (first | (with_reducible first | exact HB.out | apply below_alloc | apply pw_below_drewN | apply below_drew1) | exact HB.out)) hb); have n3_ := Aside0.mk (hbox); have n4_ := Aside0.mk ((by rw [hg]; exact (below_size (by repeat (first | (with_reducible first | exact HB.out | apply below_alloc | apply pw_below_drewN | apply below_drew1) | exact HB.out))) : w.heap.size ≤ gb228)); have n5_ := Aside0.mk ((by rw [hg]; exact (below_size (by repeat (first | (with_reducible first | exact HB.out | apply below_alloc | apply pw_below_drewN | apply below_drew1) | exact HB.out))) : w.heap.size ≤ gb228)); clear HO_8; clear HO_10; clear HB; have HO_8 := n0_; have HO_10 := n1_; have HB := n2_; have BK228 := n3_; have GW228 := n4_; have GE228 := n5_; clear n0_ n1_ n2_ n3_ n4_ n5_; clear hb hbox hg; have hcz113_0 : w112.cell? ⟨gb228, 0, none⟩ = some (.int .i64 0) := (blk_cell BK228.out 0).trans rfl; have hcz113_1 : w112.cell? ⟨gb228, 1, none⟩ = some (.int .i64 0) := (blk_cell BK228.out 1).trans rfl; have hfz113_0 := blk_frozen BK228.out 0; have hfz113_1 := blk_frozen BK228.out 1) | ((with_reducible refine gate_callee (f := 48) rfl ?_); refine goesL_ (some 41) rfl rfl Tryd.func48 (by kernel_rfl) rfl #[.int .i64 ((rd_T63 l0 x34_1).f0)] rfl (by (try simp only [List.map_toArray, List.map_cons, List.map_nil]); first | done | rfl | (simp only [List.length_drop, List.length_take]; rfl)) ?_; (with_reducible refine (logic_ahead.calls ((rd_T63 l0 x34_1).f0) true _ A12.out).mono ?_); rintro e w' ⟨rfl, ⟨nd, rfl⟩⟩; refine ⟨_, rfl, ?_⟩))
                          go_roundg k1
                          case measure => have := HK1.out; omega
                          case rel => exact ⟨(Go.bits .or .i64 x12_1 (ji111)), (wrap64 (x13_1 + 1)), (wrap64 (x34_1 + 1)), (by first | rfl | (simp; done) | (simp only [← hji111] <;> (first | rfl | simp)) | (simp [*]; done)), (by first | rfl | (simp; done) | (simp [*]; done)), (by first | rfl | (simp; done) | (simp [*]; done)), H', ⟨by have := HK1.out; omega⟩, ⟨by (with_reducible repeat (first | apply Kd.R_alloc | apply Kd.R_drewN | apply Kd.R_drew)); exact Kd.R_mono (Kd.R_far (p := ⟨gb228, 1, none⟩) (Kd.R_far (p := ⟨gb228, 0, none⟩) (Kd.R_types HO_8.out BK228.out (by decide)) (fun _ hk => hk.2) (.int .i64 ((rd_T63 l0 x34_1).f0))) (fun _ hk => hk.2) (.int .i64 ((rd_T63 l0 x34_1).f1))) (fun _ hk => trivial)⟩, ⟨by (with_reducible repeat (first | apply Kd.R_alloc | apply Kd.R_drewN | apply Kd.R_drew)); exact Kd.R_mono (Kd.R_far (p := ⟨gb228, 1, none⟩) (Kd.R_far (p := ⟨gb228, 0, none⟩) (Kd.R_types HO_10.out BK228.out (by decide)) (fun _ hk => hk.2) (.int .i64 ((rd_T63 l0 x34_1).f0))) (fun _ hk => hk.2) (.int .i64 ((rd_T63 l0 x34_1).f1))) (fun _ hk => trivial)⟩, ⟨by repeat (first | (with_reducible first | exact HB.out | apply below_alloc | apply pw_below_drewN | apply below_drew1 | refine below_set ?_ GE228.out) | exact HB.out)⟩⟩
                        · rw [if_neg c110] at H
                          exact absurd H (by simp)
              · replace c13 := Bool.eq_false_iff.mpr c13
                subst c13
                have H1 : (logic_Meets.l0 k1 t219 t223 x12_1 x13_1 l0 (l0.length : Int) (wrap64 (x34_1 + 1))) = some (r1, r2) := by rw [if_neg (show ¬ (false = true) by decide)] at H; exact H
                clear H
                have H := H1
                clear H1
                have H' := Aside0.mk H
                clear H
                have p227 : 0 ≤ (x34_1 : Int) := of_decide_eq_true (by first | (with_reducible assumption) | assumption)
                have q227 : x34_1 < (l0.length : Int) := of_decide_eq_true (by first | (with_reducible assumption) | assumption)
                obtain ⟨ad227, e227, hx227_0, hx227_1⟩ := at_T63 HR0.out x34_1 p227 q227
                cases e227
                replace hx227_0 := (HB.out.cell (World.block_lt_of_cell? w _ hx227_0)).trans hx227_0
                replace hx227_1 := (HB.out.cell (World.block_lt_of_cell? w _ hx227_1)).trans hx227_1
                replace p227 := eq_true p227
                replace q227 := eq_true q227
                go_wp2_with (first | ((with_reducible refine gate_dst (N := 15) rfl ?_); refine box_event ?hg (N := 15) ?hd (cs := #[.int .i64 0, .int .i64 0]) (t := 63) ?hr ?_; (case hd => rfl); (case hg => rfl); (case hr => first | (go_simp; done) | (go_simp; rfl)); intro gb228 hg w114 hbox hb; have n0_ := Aside0.mk (Kd.R_below (by (with_reducible repeat (first | apply Kd.R_alloc | apply Kd.R_drewN | apply Kd.R_drew)); exact HO_8.out) hb); have n1_ := Aside0.mk (Kd.R_below (by (with_reducible repeat (first | apply Kd.R_alloc | apply Kd.R_drewN | apply Kd.R_drew)); exact HO_10.out) hb); have n2_ := Aside0.mk (below_step (by repeat (first | (with_reducible first | exact HB.out | apply below_alloc | apply pw_below_drewN | apply below_drew1) | exact HB.out)) hb); have n3_ := Aside0.mk (hbox); have n4_ := Aside0.mk ((by rw [hg]; exact (below_size (by repeat (first | (with_reducible first | exact HB.out | apply below_alloc | apply pw_below_drewN | apply below_drew1) | exact HB.out))) : w.heap.size ≤ gb228)); have n5_ := Aside0.mk ((by rw [hg]; exact (below_size (by repeat (first | (with_reducible first | exact HB.out | apply below_alloc | apply pw_below_drewN | apply below_drew1) | exact HB.out))) : w.heap.size ≤ gb228)); clear HO_8; clear HO_10; clear HB; have HO_8 := n0_; have HO_10 := n1_; have HB := n2_; have BK228 := n3_; have GW228 := n4_; have GE228 := n5_; clear n0_ n1_ n2_ n3_ n4_ n5_; clear hb hbox hg; have hcz115_0 : w114.cell? ⟨gb228, 0, none⟩ = some (.int .i64 0) := (blk_cell BK228.out 0).trans rfl; have hcz115_1 : w114.cell? ⟨gb228, 1, none⟩ = some (.int .i64 0) := (blk_cell BK228.out 1).trans rfl; have hfz115_0 := blk_frozen BK228.out 0; have hfz115_1 := blk_frozen BK228.out 1) | ((with_reducible refine gate_callee (f := 48) rfl ?_); refine goesL_ (some 41) rfl rfl Tryd.func48 (by kernel_rfl) rfl #[.int .i64 ((rd_T63 l0 x34_1).f0)] rfl (by (try simp only [List.map_toArray, List.map_cons, List.map_nil]); first | done | rfl | (simp only [List.length_drop, List.length_take]; rfl)) ?_; (with_reducible refine (logic_ahead.calls ((rd_T63 l0 x34_1).f0) false _ A12.out).mono ?_); rintro e w' ⟨rfl, ⟨nd, rfl⟩⟩; refine ⟨_, rfl, ?_⟩))
                go_roundg k1
                case measure => have := HK1.out; omega
                case rel => exact ⟨(x12_1), (x13_1), (wrap64 (x34_1 + 1)), (by first | rfl | (simp; done) | (simp [*]; done)), (by first | rfl | (simp; done) | (simp [*]; done)), (by first | rfl | (simp; done) | (simp [*]; done)), H', ⟨by have := HK1.out; omega⟩, ⟨by (with_reducible repeat (first | apply Kd.R_alloc | apply Kd.R_drewN | apply Kd.R_drew)); exact Kd.R_mono (Kd.R_far (p := ⟨gb228, 1, none⟩) (Kd.R_far (p := ⟨gb228, 0, none⟩) (Kd.R_types HO_8.out BK228.out (by decide)) (fun _ hk => hk.2) (.int .i64 ((rd_T63 l0 x34_1).f0))) (fun _ hk => hk.2) (.int .i64 ((rd_T63 l0 x34_1).f1))) (fun _ hk => trivial)⟩, ⟨by (with_reducible repeat (first | apply Kd.R_alloc | apply Kd.R_drewN | apply Kd.R_drew)); exact Kd.R_mono (Kd.R_far (p := ⟨gb228, 1, none⟩) (Kd.R_far (p := ⟨gb228, 0, none⟩) (Kd.R_types HO_10.out BK228.out (by decide)) (fun _ hk => hk.2) (.int .i64 ((rd_T63 l0 x34_1).f0))) (fun _ hk => hk.2) (.int .i64 ((rd_T63 l0 x34_1).f1))) (fun _ hk => trivial)⟩, ⟨by repeat (first | (with_reducible first | exact HB.out | apply below_alloc | apply pw_below_drewN | apply below_drew1 | refine below_set ?_ GE228.out) | exact HB.out)⟩⟩
            · rw [if_neg c11] at H
              exact absurd H (by simp)
          · rw [if_neg c10] at H
            exact absurd H (by simp)
        · rw [if_neg c9] at H
          have c9b0 : decide (x34_1 < (l0.length : Int)) = false := decide_eq_false c9
          clear c9
          simp only [Option.some.injEq, Prod.mk.injEq] at H
          obtain ⟨rfl, rfl⟩ := H
          go_wp2
          go_ret2
          exact ⟨by first | rfl | (simp [errW_none, errW_some] <;> rfl) | (simp [*, errW_none, errW_some] <;> rfl), by repeat (first | (with_reducible first | exact HB.out | apply below_alloc | apply pw_below_drewN | apply below_drew1) | exact HB.out)⟩
  · rw [if_neg c5] at H
    have c5b0 : (t220 == 0) = false := beq_eq_false_iff_ne.mpr c5
    have c5b1 : (t220 != 0) = true := bne_iff_ne.mpr c5
    simp only [Option.some.injEq, Prod.mk.injEq] at H
    obtain ⟨rfl, rfl⟩ := H
    go_enter Tryd.func36, Tryd.ntmps36
    go_wp2_with (first | ((with_reducible refine gate_callee (f := 33) rfl ?_); refine goesL_ (some 21) rfl rfl Tryd.func33 (by kernel_rfl) rfl #[.slice A0 l0.length c0, .slice A1 l1.length c1, .int .i64 a2] rfl (by (try simp only [List.map_toArray, List.map_cons, List.map_nil]); first | done | rfl | (simp only [List.length_drop, List.length_take]; rfl)) ?_; (with_reducible refine (logic_Truths.calls _ _ l0 _ _ l1 a2 t219 t220 _ ?side1 ?side2 ?side3 ?side4 ?side5 A4.out).mono ?_); (case side1 => repeat (first | exact HR0.out | (with_reducible refine Kd.C_alloc ?_ _) | (with_reducible refine Kd.C_drewN ?_ _) | (with_reducible refine Kd.C_drew ?_))); (case side2 => exact HC0.out); (case side3 => repeat (first | exact HR1.out | (with_reducible refine Kd.C_alloc ?_ _) | (with_reducible refine Kd.C_drewN ?_ _) | (with_reducible refine Kd.C_drew ?_))); (case side4 => exact HC1.out); (case side5 => first | (refine LaidG.below HLd.out ?_; repeat (first | (with_reducible exact HB.out) | (with_reducible exact Below.refl _ _) | apply below_alloc | apply pw_below_drewN | apply below_drew1); done) | exact LaidG.below HLd.out (by repeat (first | (with_reducible first | exact HB.out | apply below_alloc | apply pw_below_drewN | apply below_drew1) | exact HB.out))); rintro e w116 ⟨v221, rfl, ho0, hb⟩; refine ⟨_, rfl, ?_⟩; have n0_ := Aside0.mk (Kd.R_lower ho0 (below_size (by repeat (first | (with_reducible first | exact HB.out | apply below_alloc | apply pw_below_drewN | apply below_drew1) | exact HB.out)))); have n1_ := Aside0.mk (below_step (by repeat (first | (with_reducible first | exact HB.out | apply below_alloc | apply pw_below_drewN | apply below_drew1) | exact HB.out)) hb); clear HB; have HO222 := n0_; have HB := n1_; clear n0_ n1_; (try clear hb); (try clear hb2); (try clear hk); (try clear hi); (try clear ho0)))
    go_ret2
    exact ⟨by first | rfl | (simp [errW_none, errW_some] <;> rfl) | (simp [*, errW_none, errW_some] <;> rfl), by repeat (first | (with_reducible first | exact HB.out | apply below_alloc | apply pw_below_drewN | apply below_drew1) | exact HB.out)⟩

/-! ### foretellref_MetBy: function 37 -/
mutual
def foretellref_MetBy.l0 : Nat → List (S63) → List Bool → Int → Int → Int → Option (Int × Int)
  | 0, _, _, _, _, _ => none
  | k + 1, x0, x8, x10, x11, x12 => if x12 < (x0.length : Int) then (if 0 ≤ x12 then ((foretellref_looksAhead.f ((rd_T63 x0 x12).f0)).bind fun t245 => (if t245 = true then (if ((rd_T63 x0 x12).f0) = 17 then (if x12 < (x8.length : Int) then (if rdOf false x8 x12 = true then (if 0 ≤ (wrap64 (x12 + 1)) then (if (wrap64 (x12 + 1)) < (x8.length : Int) then (if (rdOf false x8 (wrap64 (x12 + 1)) = true) then (if ((rd_T63 x0 x12).f0) = 18 then (foretellref_MetBy.j1 k x0 x8 x10 x11 x12 ((rd_T63 x0 x12).f0) false) else (foretellref_MetBy.j1 k x0 x8 x10 x11 x12 ((rd_T63 x0 x12).f0) false)) else (foretellref_MetBy.j1 k x0 x8 x10 x11 x12 ((rd_T63 x0 x12).f0) true)) else (none)) else (none)) else (if ((rd_T63 x0 x12).f0) = 18 then (if 0 ≤ (wrap64 (x12 + 1)) then (if (wrap64 (x12 + 1)) < (x8.length : Int) then (foretellref_MetBy.j1 k x0 x8 x10 x11 x12 ((rd_T63 x0 x12).f0) (rdOf false x8 (wrap64 (x12 + 1)))) else (none)) else (none)) else (foretellref_MetBy.j1 k x0 x8 x10 x11 x12 ((rd_T63 x0 x12).f0) false))) else (none)) else (if ((rd_T63 x0 x12).f0) = 18 then (if x12 < (x8.length : Int) then (if rdOf false x8 x12 = true then (foretellref_MetBy.j1 k x0 x8 x10 x11 x12 ((rd_T63 x0 x12).f0) false) else (if 0 ≤ (wrap64 (x12 + 1)) then (if (wrap64 (x12 + 1)) < (x8.length : Int) then (foretellref_MetBy.j1 k x0 x8 x10 x11 x12 ((rd_T63 x0 x12).f0) (rdOf false x8 (wrap64 (x12 + 1)))) else (none)) else (none))) else (none)) else (foretellref_MetBy.j1 k x0 x8 x10 x11 x12 ((rd_T63 x0 x12).f0) false))) else (foretellref_MetBy.l0 k x0 x8 x10 x11 (wrap64 (x12 + 1))))) else (none)) else (some (x10, 0))
def foretellref_MetBy.j1 : Nat → List (S63) → List Bool → Int → Int → Int → Int → Bool → Option (Int × Int)
  | 0, _, _, _, _, _, _, _ => none
  | k + 1, x0, x8, x10, x11, x12, x13, x14 => if x13 = 15 then (foretellref_MetBy.j2 k x0 x8 x10 x11 x12 x13 x14 true) else (foretellref_MetBy.j2 k x0 x8 x10 x11 x12 x13 x14 (x13 == 16))
def foretellref_MetBy.j2 : Nat → List (S63) → List Bool → Int → Int → Int → Int → Bool → Bool → Option (Int × Int)
  | 0, _, _, _, _, _, _, _, _ => none
  | k + 1, x0, x8, x10, x11, x12, x13, x14, x79 => if x79 = true then ((foretellref_secondAt.f k x0 x12).bind fun t253 => (if 0 ≤ t253 then (if t253 < (x8.length : Int) then (if x13 = 15 then (if 0 ≤ x12 then (if x12 < (x8.length : Int) then (if rdOf false x8 x12 = true then (if rdOf false x8 t253 = true then (if x13 = 16 then (foretellref_MetBy.l0 k x0 x8 (wrap64 (x10 + x11)) (wrap64 (x11 * 2)) (wrap64 (x12 + 1))) else (foretellref_MetBy.l0 k x0 x8 (wrap64 (x10 + x11)) (wrap64 (x11 * 2)) (wrap64 (x12 + 1)))) else (foretellref_MetBy.l0 k x0 x8 x10 (wrap64 (x11 * 2)) (wrap64 (x12 + 1)))) else (if x13 = 16 then (if rdOf false x8 t253 = true then (foretellref_MetBy.l0 k x0 x8 x10 (wrap64 (x11 * 2)) (wrap64 (x12 + 1))) else (foretellref_MetBy.l0 k x0 x8 (wrap64 (x10 + x11)) (wrap64 (x11 * 2)) (wrap64 (x12 + 1)))) else (foretellref_MetBy.l0 k x0 x8 (wrap64 (x10 + x11)) (wrap64 (x11 * 2)) (wrap64 (x12 + 1))))) else (none)) else (none)) else (if x13 = 16 then (if 0 ≤ x12 then (if x12 < (x8.length : Int) then (if rdOf false x8 x12 = true then (foretellref_MetBy.l0 k x0 x8 (wrap64 (x10 + x11)) (wrap64 (x11 * 2)) (wrap64 (x12 + 1))) else (if rdOf false x8 t253 = true then (foretellref_MetBy.l0 k x0 x8 x10 (wrap64 (x11 * 2)) (wrap64 (x12 + 1))) else (foretellref_MetBy.l0 k x0 x8 (wrap64 (x10 + x11)) (wrap64 (x11 * 2)) (wrap64 (x12 + 1))))) else (none)) else (none)) else (foretellref_MetBy.l0 k x0 x8 (wrap64 (x10 + x11)) (wrap64 (x11 * 2)) (wrap64 (x12 + 1))))) else (none)) else (none))) else (if x14 = true then (foretellref_MetBy.l0 k x0 x8 x10 (wrap64 (x11 * 2)) (wrap64 (x12 + 1))) else (foretellref_MetBy.l0 k x0 x8 (wrap64 (x10 + x11)) (wrap64 (x11 * 2)) (wrap64 (x12 + 1))))
end
def foretellref_MetBy.f (k : Nat) (l0 : List (S63)) (l1 : List Bool) (a2 : Int) : Option (Int × Int) := (foretellref_TruthsOf.f k l0 l1 a2).bind fun bt240 => (if bt240.2 = 0 then (foretellref_MetBy.l0 k l0 bt240.1 0 1 0) else (some (0, bt240.2)))
theorem foretellref_MetBy.mono_l : ∀ k, (∀ y0 y1 y2 y3 y4, LeO (foretellref_MetBy.l0 k y0 y1 y2 y3 y4) (foretellref_MetBy.l0 (k + 1) y0 y1 y2 y3 y4)) ∧ (∀ y0 y1 y2 y3 y4 y5 y6, LeO (foretellref_MetBy.j1 k y0 y1 y2 y3 y4 y5 y6) (foretellref_MetBy.j1 (k + 1) y0 y1 y2 y3 y4 y5 y6)) ∧ (∀ y0 y1 y2 y3 y4 y5 y6 y7, LeO (foretellref_MetBy.j2 k y0 y1 y2 y3 y4 y5 y6 y7) (foretellref_MetBy.j2 (k + 1) y0 y1 y2 y3 y4 y5 y6 y7))
  | 0 => ⟨fun _ _ _ _ _ r h => by simp [foretellref_MetBy.l0] at h, fun _ _ _ _ _ _ _ r h => by simp [foretellref_MetBy.j1] at h, fun _ _ _ _ _ _ _ _ r h => by simp [foretellref_MetBy.j2] at h⟩
  | k + 1 => by
    obtain ⟨ih0, ih1, ih2⟩ := foretellref_MetBy.mono_l k
    refine ⟨?_, ?_, ?_⟩
    · intro y0 y1 y2 y3 y4
      unfold foretellref_MetBy.l0
      repeat' first
      | (with_reducible exact ih0 _ _ _ _ _)
      | (with_reducible exact ih1 _ _ _ _ _ _ _)
      | (with_reducible exact ih2 _ _ _ _ _ _ _ _)
      | (with_reducible exact foretellref_TruthsOf.mono _ _ _ _)
      | (with_reducible exact foretellref_secondAt.mono _ _ _)
      | (with_reducible exact LeO.refl _)
      | (with_reducible exact LeO.none _)
      | (with_reducible refine LeO.ite ?_ ?_)
      | (with_reducible refine LeO.bind ?_ (fun _ => ?_))
      | exact ih0 _ _ _ _ _
      | exact ih1 _ _ _ _ _ _ _
      | exact ih2 _ _ _ _ _ _ _ _
      | exact foretellref_TruthsOf.mono _ _ _ _
      | exact foretellref_secondAt.mono _ _ _
      | exact LeO.none _
      | refine LeO.ite ?_ ?_
      | refine LeO.bind ?_ (fun _ => ?_)
    · intro y0 y1 y2 y3 y4 y5 y6
      unfold foretellref_MetBy.j1
      repeat' first
      | (with_reducible exact ih0 _ _ _ _ _)
      | (with_reducible exact ih1 _ _ _ _ _ _ _)
      | (with_reducible exact ih2 _ _ _ _ _ _ _ _)
      | (with_reducible exact foretellref_TruthsOf.mono _ _ _ _)
      | (with_reducible exact foretellref_secondAt.mono _ _ _)
      | (with_reducible exact LeO.refl _)
      | (with_reducible exact LeO.none _)
      | (with_reducible refine LeO.ite ?_ ?_)
      | (with_reducible refine LeO.bind ?_ (fun _ => ?_))
      | exact ih0 _ _ _ _ _
      | exact ih1 _ _ _ _ _ _ _
      | exact ih2 _ _ _ _ _ _ _ _
      | exact foretellref_TruthsOf.mono _ _ _ _
      | exact foretellref_secondAt.mono _ _ _
      | exact LeO.none _
      | refine LeO.ite ?_ ?_
      | refine LeO.bind ?_ (fun _ => ?_)
    · intro y0 y1 y2 y3 y4 y5 y6 y7
      unfold foretellref_MetBy.j2
      repeat' first
      | (with_reducible exact ih0 _ _ _ _ _)
      | (with_reducible exact ih1 _ _ _ _ _ _ _)
      | (with_reducible exact ih2 _ _ _ _ _ _ _ _)
      | (with_reducible exact foretellref_TruthsOf.mono _ _ _ _)
      | (with_reducible exact foretellref_secondAt.mono _ _ _)
      | (with_reducible exact LeO.refl _)
      | (with_reducible exact LeO.none _)
      | (with_reducible refine LeO.ite ?_ ?_)
      | (with_reducible refine LeO.bind ?_ (fun _ => ?_))
      | exact ih0 _ _ _ _ _
      | exact ih1 _ _ _ _ _ _ _
      | exact ih2 _ _ _ _ _ _ _ _
      | exact foretellref_TruthsOf.mono _ _ _ _
      | exact foretellref_secondAt.mono _ _ _
      | exact LeO.none _
      | refine LeO.ite ?_ ?_
      | refine LeO.bind ?_ (fun _ => ?_)
theorem foretellref_MetBy.mono : ∀ a0 a1 a2 k, LeO (foretellref_MetBy.f k a0 a1 a2) (foretellref_MetBy.f (k + 1) a0 a1 a2) := by
  intro a0 a1 a2 k
  obtain ⟨ih0, ih1, ih2⟩ := foretellref_MetBy.mono_l k
  unfold foretellref_MetBy.f
  repeat' first
      | (with_reducible exact ih0 _ _ _ _ _)
      | (with_reducible exact ih1 _ _ _ _ _ _ _)
      | (with_reducible exact ih2 _ _ _ _ _ _ _ _)
      | (with_reducible exact foretellref_TruthsOf.mono _ _ _ _)
      | (with_reducible exact foretellref_secondAt.mono _ _ _)
      | (with_reducible exact LeO.refl _)
      | (with_reducible exact LeO.none _)
      | (with_reducible refine LeO.ite ?_ ?_)
      | (with_reducible refine LeO.bind ?_ (fun _ => ?_))
      | exact ih0 _ _ _ _ _
      | exact ih1 _ _ _ _ _ _ _
      | exact ih2 _ _ _ _ _ _ _ _
      | exact foretellref_TruthsOf.mono _ _ _ _
      | exact foretellref_secondAt.mono _ _ _
      | exact LeO.none _
      | refine LeO.ite ?_ ?_
      | refine LeO.bind ?_ (fun _ => ?_)
set_option maxHeartbeats 8000000 in
set_option maxRecDepth 100000 in
theorem foretellref_MetBy.calls (k : Nat) (A0 : Option Addr) (c0 : Nat) (l0 : List (S63)) (A1 : Option Addr) (c1 : Nat) (l1 : List Bool) (a2 : Int) (r1 : Int) (r2 : Int) (w : World) (hr0 : Kd.C k63 w A0 l0.length l0) (hc0 : l0.length ≤ c0) (hr1 : Kd.C Kd.bool w A1 l1.length l1) (hc1 : l1.length ≤ c1) (h : foretellref_MetBy.f k l0 l1 a2 = some (r1, r2)) :
    Calls Tryd.prog 37 #[.slice A0 l0.length c0, .slice A1 l1.length c1, .int .i64 a2] w fun e w' => e = .returned (.tuple #[.int .i64 r1, .int .i64 r2]) ∧ Below w.heap.size w w' := by
  have HR0 := Aside0.mk hr0
  have HC0 := Aside0.mk hc0
  clear hr0 hc0
  have HR1 := Aside0.mk hr1
  have HC1 := Aside0.mk hc1
  clear hr1 hc1
  have HB := Aside0.mk (Below.refl w.heap.size w)
  have H : ((foretellref_TruthsOf.f k l0 l1 a2).bind fun bt240 => (if bt240.2 = 0 then (foretellref_MetBy.l0 k l0 bt240.1 0 1 0) else (some (0, bt240.2)))) = some (r1, r2) := h
  clear h
  replace H := Option.bind_eq_some_iff.mp H
  obtain ⟨⟨t240, t241⟩, A40, H⟩ := H
  replace H : (if t241 = 0 then (foretellref_MetBy.l0 k l0 t240 0 1 0) else (some (0, t241))) = some (r1, r2) := H
  have A4 := Aside0.mk A40
  clear A40
  by_cases c5 : t241 = 0
  · rw [if_pos c5] at H
    have c5b0 : (t241 == 0) = true := beq_iff_eq.mpr c5
    have c5b1 : (t241 != 0) = false := bne_eq_false_iff_eq.mpr c5
    clear c5
    have H' := Aside0.mk H
    clear H
    go_enter Tryd.func37, Tryd.ntmps37
    go_wp2_with (first | ((with_reducible refine gate_callee (f := 34) rfl ?_); refine goesL_ (some 20) rfl rfl Tryd.func34 (by kernel_rfl) rfl #[.slice A0 l0.length c0, .slice A1 l1.length c1, .int .i64 a2] rfl (by (try simp only [List.map_toArray, List.map_cons, List.map_nil]); first | done | rfl | (simp only [List.length_drop, List.length_take]; rfl)) ?_; (with_reducible refine (foretellref_TruthsOf.calls k _ _ l0 _ _ l1 a2 t240 t241 _ ?side1 ?side2 ?side3 ?side4 A4.out).mono ?_); (case side1 => repeat (first | exact HR0.out | (with_reducible refine Kd.C_alloc ?_ _) | (with_reducible refine Kd.C_drewN ?_ _) | (with_reducible refine Kd.C_drew ?_))); (case side2 => exact HC0.out); (case side3 => repeat (first | exact HR1.out | (with_reducible refine Kd.C_alloc ?_ _) | (with_reducible refine Kd.C_drewN ?_ _) | (with_reducible refine Kd.C_drew ?_))); (case side4 => exact HC1.out); rintro e w6 ⟨v242, rfl, ho0, hb⟩; refine ⟨_, rfl, ?_⟩; have n0_ := Aside0.mk (Kd.R_lower ho0 (below_size (by repeat (first | (with_reducible first | exact HB.out | apply below_alloc | apply pw_below_drewN | apply below_drew1) | exact HB.out)))); have n1_ := Aside0.mk (below_step (by repeat (first | (with_reducible first | exact HB.out | apply below_alloc | apply pw_below_drewN | apply below_drew1) | exact HB.out)) hb); clear HB; have HO243 := n0_; have HB := n1_; clear n0_ n1_; (try clear hb); (try clear hb2); (try clear hk); (try clear hi); (try clear ho0)))
    go_loopg [10, 11, 12] k (fun kq v10 v11 v12 w' => ∃ (x10_1 : Int) (x11_1 : Int) (x12_1 : Int), v10 = .int .i64 x10_1 ∧ v11 = .int .i64 x11_1 ∧ v12 = .int .i64 x12_1 ∧ Aside0 (foretellref_MetBy.l0 kq l0 t240 x10_1 x11_1 x12_1 = some (r1, r2)) ∧ Aside0 (kq ≤ k) ∧ Aside0 (Kd.R Kd.bool 4 w' w.heap.size (fun _ => True) v242 t240) ∧ Aside0 (Below w.heap.size w w'))
    case atStart => exact ⟨(0), (1), (0), (by first | rfl | (simp; done) | (simp [*]; done)), (by first | rfl | (simp; done) | (simp [*]; done)), (by first | rfl | (simp; done) | (simp [*]; done)), H', ⟨Nat.le_refl _⟩, ⟨by (with_reducible repeat (first | apply Kd.R_alloc | apply Kd.R_drewN | apply Kd.R_drew)); exact HO243.out⟩, ⟨by repeat (first | (with_reducible first | exact HB.out | apply below_alloc | apply pw_below_drewN | apply below_drew1) | exact HB.out)⟩⟩
    case round =>
      clear H'
      try clear c1
      try clear p2
      try clear c3
      try clear c5
      try clear c5b0
      try clear c5b1
      obtain ⟨x10_1, x11_1, x12_1, rfl, rfl, rfl, HA, HK1, HO_8, HB⟩ := hrel
      cases gk with
      | zero => exact absurd HA.out (by simp [foretellref_MetBy.l0])
      | succ k1 =>
        have H := HA.out
        clear HA
        simp only [foretellref_MetBy.l0] at H
        by_cases c7 : x12_1 < (l0.length : Int)
        · rw [if_pos c7] at H
          have c7b0 : decide (x12_1 < (l0.length : Int)) = true := decide_eq_true c7
          clear c7
          by_cases c8 : 0 ≤ x12_1
          · rw [if_pos c8] at H
            have c8b0 : decide (0 ≤ x12_1) = true := decide_eq_true c8
            clear c8
            replace H := Option.bind_eq_some_iff.mp H
            obtain ⟨t245, A90, H⟩ := H
            replace H : (if t245 = true then (if ((rd_T63 l0 x12_1).f0) = 17 then (if x12_1 < (t240.length : Int) then (if rdOf false t240 x12_1 = true then (if 0 ≤ (wrap64 (x12_1 + 1)) then (if (wrap64 (x12_1 + 1)) < (t240.length : Int) then (if (rdOf false t240 (wrap64 (x12_1 + 1)) = true) then (if ((rd_T63 l0 x12_1).f0) = 18 then (foretellref_MetBy.j1 k1 l0 t240 x10_1 x11_1 x12_1 ((rd_T63 l0 x12_1).f0) false) else (foretellref_MetBy.j1 k1 l0 t240 x10_1 x11_1 x12_1 ((rd_T63 l0 x12_1).f0) false)) else (foretellref_MetBy.j1 k1 l0 t240 x10_1 x11_1 x12_1 ((rd_T63 l0 x12_1).f0) true)) else (none)) else (none)) else (if ((rd_T63 l0 x12_1).f0) = 18 then (if 0 ≤ (wrap64 (x12_1 + 1)) then (if (wrap64 (x12_1 + 1)) < (t240.length : Int) then (foretellref_MetBy.j1 k1 l0 t240 x10_1 x11_1 x12_1 ((rd_T63 l0 x12_1).f0) (rdOf false t240 (wrap64 (x12_1 + 1)))) else (none)) else (none)) else (foretellref_MetBy.j1 k1 l0 t240 x10_1 x11_1 x12_1 ((rd_T63 l0 x12_1).f0) false))) else (none)) else (if ((rd_T63 l0 x12_1).f0) = 18 then (if x12_1 < (t240.length : Int) then (if rdOf false t240 x12_1 = true then (foretellref_MetBy.j1 k1 l0 t240 x10_1 x11_1 x12_1 ((rd_T63 l0 x12_1).f0) false) else (if 0 ≤ (wrap64 (x12_1 + 1)) then (if (wrap64 (x12_1 + 1)) < (t240.length : Int) then (foretellref_MetBy.j1 k1 l0 t240 x10_1 x11_1 x12_1 ((rd_T63 l0 x12_1).f0) (rdOf false t240 (wrap64 (x12_1 + 1)))) else (none)) else (none))) else (none)) else (foretellref_MetBy.j1 k1 l0 t240 x10_1 x11_1 x12_1 ((rd_T63 l0 x12_1).f0) false))) else (foretellref_MetBy.l0 k1 l0 t240 x10_1 x11_1 (wrap64 (x12_1 + 1)))) = some (r1, r2) := H
            have A9 := Aside0.mk A90
            clear A90
            by_cases c10 : t245 = true
            · subst c10
              have H1 : (if ((rd_T63 l0 x12_1).f0) = 17 then (if x12_1 < (t240.length : Int) then (if rdOf false t240 x12_1 = true then (if 0 ≤ (wrap64 (x12_1 + 1)) then (if (wrap64 (x12_1 + 1)) < (t240.length : Int) then (if (rdOf false t240 (wrap64 (x12_1 + 1)) = true) then (if ((rd_T63 l0 x12_1).f0) = 18 then (foretellref_MetBy.j1 k1 l0 t240 x10_1 x11_1 x12_1 ((rd_T63 l0 x12_1).f0) false) else (foretellref_MetBy.j1 k1 l0 t240 x10_1 x11_1 x12_1 ((rd_T63 l0 x12_1).f0) false)) else (foretellref_MetBy.j1 k1 l0 t240 x10_1 x11_1 x12_1 ((rd_T63 l0 x12_1).f0) true)) else (none)) else (none)) else (if ((rd_T63 l0 x12_1).f0) = 18 then (if 0 ≤ (wrap64 (x12_1 + 1)) then (if (wrap64 (x12_1 + 1)) < (t240.length : Int) then (foretellref_MetBy.j1 k1 l0 t240 x10_1 x11_1 x12_1 ((rd_T63 l0 x12_1).f0) (rdOf false t240 (wrap64 (x12_1 + 1)))) else (none)) else (none)) else (foretellref_MetBy.j1 k1 l0 t240 x10_1 x11_1 x12_1 ((rd_T63 l0 x12_1).f0) false))) else (none)) else (if ((rd_T63 l0 x12_1).f0) = 18 then (if x12_1 < (t240.length : Int) then (if rdOf false t240 x12_1 = true then (foretellref_MetBy.j1 k1 l0 t240 x10_1 x11_1 x12_1 ((rd_T63 l0 x12_1).f0) false) else (if 0 ≤ (wrap64 (x12_1 + 1)) then (if (wrap64 (x12_1 + 1)) < (t240.length : Int) then (foretellref_MetBy.j1 k1 l0 t240 x10_1 x11_1 x12_1 ((rd_T63 l0 x12_1).f0) (rdOf false t240 (wrap64 (x12_1 + 1)))) else (none)) else (none))) else (none)) else (foretellref_MetBy.j1 k1 l0 t240 x10_1 x11_1 x12_1 ((rd_T63 l0 x12_1).f0) false))) = some (r1, r2) := by rw [if_pos rfl] at H; exact H
              clear H
              have H := H1
              clear H1
              have HC11 := Aside0.mk H
              clear H
              have p244 : 0 ≤ (x12_1 : Int) := of_decide_eq_true (by first | (with_reducible assumption) | assumption)
              have q244 : x12_1 < (l0.length : Int) := of_decide_eq_true (by first | (with_reducible assumption) | assumption)
              obtain ⟨ad244, e244, hx244_0, hx244_1⟩ := at_T63 HR0.out x12_1 p244 q244
              cases e244
              replace hx244_0 := (HB.out.cell (World.block_lt_of_cell? w _ hx244_0)).trans hx244_0
              replace hx244_1 := (HB.out.cell (World.block_lt_of_cell? w _ hx244_1)).trans hx244_1
              replace p244 := eq_true p244
              replace q244 := eq_true q244
              go_upto_region 11 with (first | ((with_reducible refine gate_callee (f := 50) rfl ?_); refine goesL_ (some 38) rfl rfl Tryd.func50 (by kernel_rfl) rfl #[.int .i64 ((rd_T63 l0 x12_1).f0)] rfl (by (try simp only [List.map_toArray, List.map_cons, List.map_nil]); first | done | rfl | (simp only [List.length_drop, List.length_take]; rfl)) ?_; (with_reducible refine (foretellref_looksAhead.calls ((rd_T63 l0 x12_1).f0) true _ A9.out).mono ?_); rintro e w' ⟨rfl, ⟨nd, rfl⟩⟩; refine ⟨_, rfl, ?_⟩))
              (try simp only [Act.put, List.setIfInBounds_toArray, List.set_cons_zero, List.set_cons_succ])
              go_cut [14] (fun v14 wc => ∃ (kq : Nat) (x14_10 : Bool), v14 = .bool x14_10 ∧ Aside0 (foretellref_MetBy.j1 kq l0 t240 x10_1 x11_1 x12_1 ((rd_T63 l0 x12_1).f0) x14_10 = some (r1, r2)) ∧ Aside0 (kq ≤ k1) ∧ Aside0 (Kd.R Kd.bool 4 wc w.heap.size (fun _ => True) v242 t240) ∧ Aside0 (Below w.heap.size w wc))
              case first =>
                have H := HC11.out
                clear HC11
                by_cases c12 : ((rd_T63 l0 x12_1).f0) = 17
                · rw [if_pos c12] at H
                  have c12b0 : (((rd_T63 l0 x12_1).f0) == 17) = true := beq_iff_eq.mpr c12
                  have c12b1 : (((rd_T63 l0 x12_1).f0) != 17) = false := bne_eq_false_iff_eq.mpr c12
                  clear c12
                  (first | rw [c12b0] | (simp only [i64_w, i32_w]; rw [c12b0]) | skip)
                  by_cases c13 : x12_1 < (t240.length : Int)
                  · rw [if_pos c13] at H
                    have c13b0 : decide (x12_1 < (t240.length : Int)) = true := decide_eq_true c13
                    clear c13
                    obtain ⟨bq14, hbq14⟩ : ∃ b_ : Bool, b_ = (rdOf false t240 x12_1) := ⟨_, rfl⟩
                    replace H : (if bq14 = true then (if 0 ≤ (wrap64 (x12_1 + 1)) then (if (wrap64 (x12_1 + 1)) < (t240.length : Int) then (if (rdOf false t240 (wrap64 (x12_1 + 1)) = true) then (if ((rd_T63 l0 x12_1).f0) = 18 then (foretellref_MetBy.j1 k1 l0 t240 x10_1 x11_1 x12_1 ((rd_T63 l0 x12_1).f0) false) else (foretellref_MetBy.j1 k1 l0 t240 x10_1 x11_1 x12_1 ((rd_T63 l0 x12_1).f0) false)) else (foretellref_MetBy.j1 k1 l0 t240 x10_1 x11_1 x12_1 ((rd_T63 l0 x12_1).f0) true)) else (none)) else (none)) else (if ((rd_T63 l0 x12_1).f0) = 18 then (if 0 ≤ (wrap64 (x12_1 + 1)) then (if (wrap64 (x12_1 + 1)) < (t240.length : Int) then (foretellref_MetBy.j1 k1 l0 t240 x10_1 x11_1 x12_1 ((rd_T63 l0 x12_1).f0) (rdOf false t240 (wrap64 (x12_1 + 1)))) else (none)) else (none)) else (foretellref_MetBy.j1 k1 l0 t240 x10_1 x11_1 x12_1 ((rd_T63 l0 x12_1).f0) false))) = some (r1, r2) := by rw [← hbq14] at H; exact H
                    have Nbq14 := Aside0.mk hbq14
                    clear hbq14
                    by_cases c15 : bq14 = true
                    · subst c15
                      have H1 : (if 0 ≤ (wrap64 (x12_1 + 1)) then (if (wrap64 (x12_1 + 1)) < (t240.length : Int) then (if (rdOf false t240 (wrap64 (x12_1 + 1)) = true) then (if ((rd_T63 l0 x12_1).f0) = 18 then (foretellref_MetBy.j1 k1 l0 t240 x10_1 x11_1 x12_1 ((rd_T63 l0 x12_1).f0) false) else (foretellref_MetBy.j1 k1 l0 t240 x10_1 x11_1 x12_1 ((rd_T63 l0 x12_1).f0) false)) else (foretellref_MetBy.j1 k1 l0 t240 x10_1 x11_1 x12_1 ((rd_T63 l0 x12_1).f0) true)) else (none)) else (none)) = some (r1, r2) := by rw [if_pos rfl] at H; exact H
                      clear H
                      have H := H1
                      clear H1
                      obtain ⟨ji16, hji16⟩ : ∃ j_ : Int, (wrap64 (x12_1 + 1)) = j_ := ⟨_, rfl⟩
                      replace H : (if 0 ≤ (ji16) then (if (ji16) < (t240.length : Int) then (if (rdOf false t240 (ji16) = true) then (if ((rd_T63 l0 x12_1).f0) = 18 then (foretellref_MetBy.j1 k1 l0 t240 x10_1 x11_1 x12_1 ((rd_T63 l0 x12_1).f0) false) else (foretellref_MetBy.j1 k1 l0 t240 x10_1 x11_1 x12_1 ((rd_T63 l0 x12_1).f0) false)) else (foretellref_MetBy.j1 k1 l0 t240 x10_1 x11_1 x12_1 ((rd_T63 l0 x12_1).f0) true)) else (none)) else (none)) = some (r1, r2) := by first | (rw [hji16] at H; exact H) | (simp only [hji16] at H ⊢; exact H)
                      have hji16w : (IntKind.i64.wrap (x12_1 + 1)) = ji16 := (i64_w _).trans hji16
                      by_cases c17 : 0 ≤ (ji16)
                      · rw [if_pos c17] at H
                        have c17b0 : decide (0 ≤ (ji16)) = true := decide_eq_true c17
                        clear c17
                        by_cases c18 : (ji16) < (t240.length : Int)
                        · rw [if_pos c18] at H
                          have c18b0 : decide ((ji16) < (t240.length : Int)) = true := decide_eq_true c18
                          clear c18
                          obtain ⟨bq19, hbq19⟩ : ∃ b_ : Bool, b_ = (rdOf false t240 (ji16)) := ⟨_, rfl⟩
                          replace H : (if (bq19 = true) then (if ((rd_T63 l0 x12_1).f0) = 18 then (foretellref_MetBy.j1 k1 l0 t240 x10_1 x11_1 x12_1 ((rd_T63 l0 x12_1).f0) false) else (foretellref_MetBy.j1 k1 l0 t240 x10_1 x11_1 x12_1 ((rd_T63 l0 x12_1).f0) false)) else (foretellref_MetBy.j1 k1 l0 t240 x10_1 x11_1 x12_1 ((rd_T63 l0 x12_1).f0) true)) = some (r1, r2) := by rw [← hbq19] at H; exact H
                          have Nbq19 := Aside0.mk hbq19
                          clear hbq19
                          by_cases c20 : (bq19 = true)
                          · subst c20
                            have H1 : (if ((rd_T63 l0 x12_1).f0) = 18 then (foretellref_MetBy.j1 k1 l0 t240 x10_1 x11_1 x12_1 ((rd_T63 l0 x12_1).f0) false) else (foretellref_MetBy.j1 k1 l0 t240 x10_1 x11_1 x12_1 ((rd_T63 l0 x12_1).f0) false)) = some (r1, r2) := by rw [if_pos rfl] at H; exact H
                            clear H
                            have H := H1
                            clear H1
                            by_cases c21 : ((rd_T63 l0 x12_1).f0) = 18
                            · rw [if_pos c21] at H
                              have c21b0 : (((rd_T63 l0 x12_1).f0) == 18) = true := beq_iff_eq.mpr c21
                              have c21b1 : (((rd_T63 l0 x12_1).f0) != 18) = false := bne_eq_false_iff_eq.mpr c21
                              clear c21
                              have H' := Aside0.mk H
                              clear H
                              obtain ⟨Ao22, co22, eo22⟩ := Kd.R_slice HO_8.out
                              subst eo22
                              have p246 : 0 ≤ (x12_1 : Int) := of_decide_eq_true (by first | (with_reducible assumption) | assumption)
                              have q246 : x12_1 < (t240.length : Int) := of_decide_eq_true (by first | (with_reducible assumption) | assumption)
                              (try (obtain ⟨A_, c_, e_⟩ := Kd.R_slice HO_8.out; subst e_))
                              obtain ⟨ad246, e246, hx246_0⟩ := Kd.at_bool (Kd.R_reads' HO_8.out).2.2 x12_1 p246 q246
                              (try rw [← Nbq14.out] at hx246_0)
                              (try rw [← Nbq19.out] at hx246_0)
                              cases e246
                              replace p246 := eq_true p246
                              replace q246 := eq_true q246
                              have p247 : 0 ≤ ((ji16) : Int) := of_decide_eq_true (by first | (with_reducible assumption) | assumption)
                              have q247 : (ji16) < (t240.length : Int) := of_decide_eq_true (by first | (with_reducible assumption) | assumption)
                              (try (obtain ⟨A_, c_, e_⟩ := Kd.R_slice HO_8.out; subst e_))
                              obtain ⟨ad247, e247, hx247_0⟩ := Kd.at_bool (Kd.R_reads' HO_8.out).2.2 (ji16) p247 q247
                              (try rw [← Nbq14.out] at hx247_0)
                              (try rw [← Nbq19.out] at hx247_0)
                              obtain rfl : ad246 = ad247 := (by injection e247)
                              replace p247 := eq_true p247
                              replace q247 := eq_true q247
                              have p248 : 0 ≤ (x12_1 : Int) := of_decide_eq_true (by first | (with_reducible assumption) | assumption)
                              have q248 : x12_1 < (t240.length : Int) := of_decide_eq_true (by first | (with_reducible assumption) | assumption)
                              (try (obtain ⟨A_, c_, e_⟩ := Kd.R_slice HO_8.out; subst e_))
                              obtain ⟨ad248, e248, hx248_0⟩ := Kd.at_bool (Kd.R_reads' HO_8.out).2.2 x12_1 p248 q248
                              (try rw [← Nbq14.out] at hx248_0)
                              (try rw [← Nbq19.out] at hx248_0)
                              obtain rfl : ad246 = ad248 := (by injection e248)
                              replace p248 := eq_true p248
                              replace q248 := eq_true q248
                              go_wp2
                              first | go_meet | ((try subst hji16); go_meet)
                              case rel => exact ⟨_, (false), (by first | rfl | (simp; done) | (simp [*]; done)), H', ⟨by have := HK1.out; first | omega | exact Nat.le_refl _⟩, ⟨by (with_reducible repeat (first | apply Kd.R_alloc | apply Kd.R_drewN | apply Kd.R_drew)); exact HO_8.out⟩, ⟨by repeat (first | (with_reducible first | exact HB.out | apply below_alloc | apply pw_below_drewN | apply below_drew1) | exact HB.out)⟩⟩
                            · rw [if_neg c21] at H
                              have c21b0 : (((rd_T63 l0 x12_1).f0) == 18) = false := beq_eq_false_iff_ne.mpr c21
                              have c21b1 : (((rd_T63 l0 x12_1).f0) != 18) = true := bne_iff_ne.mpr c21
                              have H' := Aside0.mk H
                              clear H
                              obtain ⟨Ao23, co23, eo23⟩ := Kd.R_slice HO_8.out
                              subst eo23
                              have p246 : 0 ≤ (x12_1 : Int) := of_decide_eq_true (by first | (with_reducible assumption) | assumption)
                              have q246 : x12_1 < (t240.length : Int) := of_decide_eq_true (by first | (with_reducible assumption) | assumption)
                              (try (obtain ⟨A_, c_, e_⟩ := Kd.R_slice HO_8.out; subst e_))
                              obtain ⟨ad246, e246, hx246_0⟩ := Kd.at_bool (Kd.R_reads' HO_8.out).2.2 x12_1 p246 q246
                              (try rw [← Nbq14.out] at hx246_0)
                              (try rw [← Nbq19.out] at hx246_0)
                              cases e246
                              replace p246 := eq_true p246
                              replace q246 := eq_true q246
                              have p247 : 0 ≤ ((ji16) : Int) := of_decide_eq_true (by first | (with_reducible assumption) | assumption)
                              have q247 : (ji16) < (t240.length : Int) := of_decide_eq_true (by first | (with_reducible assumption) | assumption)
                              (try (obtain ⟨A_, c_, e_⟩ := Kd.R_slice HO_8.out; subst e_))
                              obtain ⟨ad247, e247, hx247_0⟩ := Kd.at_bool (Kd.R_reads' HO_8.out).2.2 (ji16) p247 q247
                              (try rw [← Nbq14.out] at hx247_0)
                              (try rw [← Nbq19.out] at hx247_0)
                              obtain rfl : ad246 = ad247 := (by injection e247)
                              replace p247 := eq_true p247
                              replace q247 := eq_true q247
                              go_wp2
                              first | go_meet | ((try subst hji16); go_meet)
                              case rel => exact ⟨_, (false), (by first | rfl | (simp; done) | (simp [*]; done)), H', ⟨by have := HK1.out; first | omega | exact Nat.le_refl _⟩, ⟨by (with_reducible repeat (first | apply Kd.R_alloc | apply Kd.R_drewN | apply Kd.R_drew)); exact HO_8.out⟩, ⟨by repeat (first | (with_reducible first | exact HB.out | apply below_alloc | apply pw_below_drewN | apply below_drew1) | exact HB.out)⟩⟩
                          · replace c20 := Bool.eq_false_iff.mpr c20
                            subst c20
                            have H1 : (foretellref_MetBy.j1 k1 l0 t240 x10_1 x11_1 x12_1 ((rd_T63 l0 x12_1).f0) true) = some (r1, r2) := by rw [if_neg (show ¬ (false = true) by decide)] at H; exact H
                            clear H
                            have H := H1
                            clear H1
                            have H' := Aside0.mk H
                            clear H
                            obtain ⟨Ao24, co24, eo24⟩ := Kd.R_slice HO_8.out
                            subst eo24
                            have p246 : 0 ≤ (x12_1 : Int) := of_decide_eq_true (by first | (with_reducible assumption) | assumption)
                            have q246 : x12_1 < (t240.length : Int) := of_decide_eq_true (by first | (with_reducible assumption) | assumption)
                            (try (obtain ⟨A_, c_, e_⟩ := Kd.R_slice HO_8.out; subst e_))
                            obtain ⟨ad246, e246, hx246_0⟩ := Kd.at_bool (Kd.R_reads' HO_8.out).2.2 x12_1 p246 q246
                            (try rw [← Nbq14.out] at hx246_0)
                            (try rw [← Nbq19.out] at hx246_0)
                            cases e246
                            replace p246 := eq_true p246
                            replace q246 := eq_true q246
                            have p247 : 0 ≤ ((ji16) : Int) := of_decide_eq_true (by first | (with_reducible assumption) | assumption)
                            have q247 : (ji16) < (t240.length : Int) := of_decide_eq_true (by first | (with_reducible assumption) | assumption)
                            (try (obtain ⟨A_, c_, e_⟩ := Kd.R_slice HO_8.out; subst e_))
                            obtain ⟨ad247, e247, hx247_0⟩ := Kd.at_bool (Kd.R_reads' HO_8.out).2.2 (ji16) p247 q247
                            (try rw [← Nbq14.out] at hx247_0)
                            (try rw [← Nbq19.out] at hx247_0)
                            obtain rfl : ad246 = ad247 := (by injection e247)
                            replace p247 := eq_true p247
                            replace q247 := eq_true q247
                            go_wp2
                            first | go_meet | ((try subst hji16); go_meet)
                            case rel => exact ⟨_, (true), (by first | rfl | (simp; done) | (simp [*]; done)), H', ⟨by have := HK1.out; first | omega | exact Nat.le_refl _⟩, ⟨by (with_reducible repeat (first | apply Kd.R_alloc | apply Kd.R_drewN | apply Kd.R_drew)); exact HO_8.out⟩, ⟨by repeat (first | (with_reducible first | exact HB.out | apply below_alloc | apply pw_below_drewN | apply below_drew1) | exact HB.out)⟩⟩
                        · rw [if_neg c18] at H
                          exact absurd H (by simp)
                      · rw [if_neg c17] at H
                        exact absurd H (by simp)
                    · replace c15 := Bool.eq_false_iff.mpr c15
                      subst c15
                      have H1 : (if ((rd_T63 l0 x12_1).f0) = 18 then (if 0 ≤ (wrap64 (x12_1 + 1)) then (if (wrap64 (x12_1 + 1)) < (t240.length : Int) then (foretellref_MetBy.j1 k1 l0 t240 x10_1 x11_1 x12_1 ((rd_T63 l0 x12_1).f0) (rdOf false t240 (wrap64 (x12_1 + 1)))) else (none)) else (none)) else (foretellref_MetBy.j1 k1 l0 t240 x10_1 x11_1 x12_1 ((rd_T63 l0 x12_1).f0) false)) = some (r1, r2) := by rw [if_neg (show ¬ (false = true) by decide)] at H; exact H
                      clear H
                      have H := H1
                      clear H1
                      by_cases c25 : ((rd_T63 l0 x12_1).f0) = 18
                      · rw [if_pos c25] at H
                        have c25b0 : (((rd_T63 l0 x12_1).f0) == 18) = true := beq_iff_eq.mpr c25
                        have c25b1 : (((rd_T63 l0 x12_1).f0) != 18) = false := bne_eq_false_iff_eq.mpr c25
                        clear c25
                        obtain ⟨ji26, hji26⟩ : ∃ j_ : Int, (wrap64 (x12_1 + 1)) = j_ := ⟨_, rfl⟩
                        replace H : (if 0 ≤ (ji26) then (if (ji26) < (t240.length : Int) then (foretellref_MetBy.j1 k1 l0 t240 x10_1 x11_1 x12_1 ((rd_T63 l0 x12_1).f0) (rdOf false t240 (ji26))) else (none)) else (none)) = some (r1, r2) := by first | (rw [hji26] at H; exact H) | (simp only [hji26] at H ⊢; exact H)
                        have hji26w : (IntKind.i64.wrap (x12_1 + 1)) = ji26 := (i64_w _).trans hji26
                        by_cases c27 : 0 ≤ (ji26)
                        · rw [if_pos c27] at H
                          have c27b0 : decide (0 ≤ (ji26)) = true := decide_eq_true c27
                          clear c27
                          by_cases c28 : (ji26) < (t240.length : Int)
                          · rw [if_pos c28] at H
                            have c28b0 : decide ((ji26) < (t240.length : Int)) = true := decide_eq_true c28
                            clear c28
                            have H' := Aside0.mk H
                            clear H
                            obtain ⟨Ao29, co29, eo29⟩ := Kd.R_slice HO_8.out
                            subst eo29
                            have p246 : 0 ≤ (x12_1 : Int) := of_decide_eq_true (by first | (with_reducible assumption) | assumption)
                            have q246 : x12_1 < (t240.length : Int) := of_decide_eq_true (by first | (with_reducible assumption) | assumption)
                            (try (obtain ⟨A_, c_, e_⟩ := Kd.R_slice HO_8.out; subst e_))
                            obtain ⟨ad246, e246, hx246_0⟩ := Kd.at_bool (Kd.R_reads' HO_8.out).2.2 x12_1 p246 q246
                            (try rw [← Nbq14.out] at hx246_0)
                            cases e246
                            replace p246 := eq_true p246
                            replace q246 := eq_true q246
                            have p249 : 0 ≤ (x12_1 : Int) := of_decide_eq_true (by first | (with_reducible assumption) | assumption)
                            have q249 : x12_1 < (t240.length : Int) := of_decide_eq_true (by first | (with_reducible assumption) | assumption)
                            (try (obtain ⟨A_, c_, e_⟩ := Kd.R_slice HO_8.out; subst e_))
                            obtain ⟨ad249, e249, hx249_0⟩ := Kd.at_bool (Kd.R_reads' HO_8.out).2.2 x12_1 p249 q249
                            (try rw [← Nbq14.out] at hx249_0)
                            obtain rfl : ad246 = ad249 := (by injection e249)
                            replace p249 := eq_true p249
                            replace q249 := eq_true q249
                            have p250 : 0 ≤ ((ji26) : Int) := of_decide_eq_true (by first | (with_reducible assumption) | assumption)
                            have q250 : (ji26) < (t240.length : Int) := of_decide_eq_true (by first | (with_reducible assumption) | assumption)
                            (try (obtain ⟨A_, c_, e_⟩ := Kd.R_slice HO_8.out; subst e_))
                            obtain ⟨ad250, e250, hx250_0⟩ := Kd.at_bool (Kd.R_reads' HO_8.out).2.2 (ji26) p250 q250
                            (try rw [← Nbq14.out] at hx250_0)
                            obtain rfl : ad246 = ad250 := (by injection e250)
                            replace p250 := eq_true p250
                            replace q250 := eq_true q250
                            go_wp2
                            first | go_meet | ((try subst hji16); (try subst hji26); go_meet)
                            case rel => exact ⟨_, (rdOf false t240 (ji26)), (by first | rfl | (simp; done) | (simp only [← hji26] <;> (first | rfl | simp)) | (simp [*]; done)), H', ⟨by have := HK1.out; first | omega | exact Nat.le_refl _⟩, ⟨by (with_reducible repeat (first | apply Kd.R_alloc | apply Kd.R_drewN | apply Kd.R_drew)); exact HO_8.out⟩, ⟨by repeat (first | (with_reducible first | exact HB.out | apply below_alloc | apply pw_below_drewN | apply below_drew1) | exact HB.out)⟩⟩
                          · rw [if_neg c28] at H
                            exact absurd H (by simp)
                        · rw [if_neg c27] at H
                          exact absurd H (by simp)
                      · rw [if_neg c25] at H
                        have c25b0 : (((rd_T63 l0 x12_1).f0) == 18) = false := beq_eq_false_iff_ne.mpr c25
                        have c25b1 : (((rd_T63 l0 x12_1).f0) != 18) = true := bne_iff_ne.mpr c25
                        have H' := Aside0.mk H
                        clear H
                        obtain ⟨Ao30, co30, eo30⟩ := Kd.R_slice HO_8.out
                        subst eo30
                        have p246 : 0 ≤ (x12_1 : Int) := of_decide_eq_true (by first | (with_reducible assumption) | assumption)
                        have q246 : x12_1 < (t240.length : Int) := of_decide_eq_true (by first | (with_reducible assumption) | assumption)
                        (try (obtain ⟨A_, c_, e_⟩ := Kd.R_slice HO_8.out; subst e_))
                        obtain ⟨ad246, e246, hx246_0⟩ := Kd.at_bool (Kd.R_reads' HO_8.out).2.2 x12_1 p246 q246
                        (try rw [← Nbq14.out] at hx246_0)
                        cases e246
                        replace p246 := eq_true p246
                        replace q246 := eq_true q246
                        go_wp2
                        first | go_meet | ((try subst hji16); (try subst hji26); go_meet)
                        case rel => exact ⟨_, (false), (by first | rfl | (simp; done) | (simp [*]; done)), H', ⟨by have := HK1.out; first | omega | exact Nat.le_refl _⟩, ⟨by (with_reducible repeat (first | apply Kd.R_alloc | apply Kd.R_drewN | apply Kd.R_drew)); exact HO_8.out⟩, ⟨by repeat (first | (with_reducible first | exact HB.out | apply below_alloc | apply pw_below_drewN | apply below_drew1) | exact HB.out)⟩⟩
                  · rw [if_neg c13] at H
                    exact absurd H (by simp)
                · rw [if_neg c12] at H
                  have c12b0 : (((rd_T63 l0 x12_1).f0) == 17) = false := beq_eq_false_iff_ne.mpr c12
                  have c12b1 : (((rd_T63 l0 x12_1).f0) != 17) = true := bne_iff_ne.mpr c12
                  (first | rw [c12b0] | (simp only [i64_w, i32_w]; rw [c12b0]) | skip)
                  by_cases c31 : ((rd_T63 l0 x12_1).f0) = 18
                  · rw [if_pos c31] at H
                    have c31b0 : (((rd_T63 l0 x12_1).f0) == 18) = true := beq_iff_eq.mpr c31
                    have c31b1 : (((rd_T63 l0 x12_1).f0) != 18) = false := bne_eq_false_iff_eq.mpr c31
                    clear c31
                    by_cases c32 : x12_1 < (t240.length : Int)
                    · rw [if_pos c32] at H
                      have c32b0 : decide (x12_1 < (t240.length : Int)) = true := decide_eq_true c32
                      clear c32
                      obtain ⟨bq33, hbq33⟩ : ∃ b_ : Bool, b_ = (rdOf false t240 x12_1) := ⟨_, rfl⟩
                      replace H : (if bq33 = true then (foretellref_MetBy.j1 k1 l0 t240 x10_1 x11_1 x12_1 ((rd_T63 l0 x12_1).f0) false) else (if 0 ≤ (wrap64 (x12_1 + 1)) then (if (wrap64 (x12_1 + 1)) < (t240.length : Int) then (foretellref_MetBy.j1 k1 l0 t240 x10_1 x11_1 x12_1 ((rd_T63 l0 x12_1).f0) (rdOf false t240 (wrap64 (x12_1 + 1)))) else (none)) else (none))) = some (r1, r2) := by rw [← hbq33] at H; exact H
                      have Nbq33 := Aside0.mk hbq33
                      clear hbq33
                      by_cases c34 : bq33 = true
                      · subst c34
                        have H1 : (foretellref_MetBy.j1 k1 l0 t240 x10_1 x11_1 x12_1 ((rd_T63 l0 x12_1).f0) false) = some (r1, r2) := by rw [if_pos rfl] at H; exact H
                        clear H
                        have H := H1
                        clear H1
                        have H' := Aside0.mk H
                        clear H
                        obtain ⟨Ao35, co35, eo35⟩ := Kd.R_slice HO_8.out
                        subst eo35
                        have p251 : 0 ≤ (x12_1 : Int) := of_decide_eq_true (by first | (with_reducible assumption) | assumption)
                        have q251 : x12_1 < (t240.length : Int) := of_decide_eq_true (by first | (with_reducible assumption) | assumption)
                        (try (obtain ⟨A_, c_, e_⟩ := Kd.R_slice HO_8.out; subst e_))
                        obtain ⟨ad251, e251, hx251_0⟩ := Kd.at_bool (Kd.R_reads' HO_8.out).2.2 x12_1 p251 q251
                        (try rw [← Nbq33.out] at hx251_0)
                        cases e251
                        replace p251 := eq_true p251
                        replace q251 := eq_true q251
                        go_wp2
                        first | go_meet | ((try subst hji16); (try subst hji26); go_meet)
                        case rel => exact ⟨_, (false), (by first | rfl | (simp; done) | (simp [*]; done)), H', ⟨by have := HK1.out; first | omega | exact Nat.le_refl _⟩, ⟨by (with_reducible repeat (first | apply Kd.R_alloc | apply Kd.R_drewN | apply Kd.R_drew)); exact HO_8.out⟩, ⟨by repeat (first | (with_reducible first | exact HB.out | apply below_alloc | apply pw_below_drewN | apply below_drew1) | exact HB.out)⟩⟩
                      · replace c34 := Bool.eq_false_iff.mpr c34
                        subst c34
                        have H1 : (if 0 ≤ (wrap64 (x12_1 + 1)) then (if (wrap64 (x12_1 + 1)) < (t240.length : Int) then (foretellref_MetBy.j1 k1 l0 t240 x10_1 x11_1 x12_1 ((rd_T63 l0 x12_1).f0) (rdOf false t240 (wrap64 (x12_1 + 1)))) else (none)) else (none)) = some (r1, r2) := by rw [if_neg (show ¬ (false = true) by decide)] at H; exact H
                        clear H
                        have H := H1
                        clear H1
                        obtain ⟨ji36, hji36⟩ : ∃ j_ : Int, (wrap64 (x12_1 + 1)) = j_ := ⟨_, rfl⟩
                        replace H : (if 0 ≤ (ji36) then (if (ji36) < (t240.length : Int) then (foretellref_MetBy.j1 k1 l0 t240 x10_1 x11_1 x12_1 ((rd_T63 l0 x12_1).f0) (rdOf false t240 (ji36))) else (none)) else (none)) = some (r1, r2) := by first | (rw [hji36] at H; exact H) | (simp only [hji36] at H ⊢; exact H)
                        have hji36w : (IntKind.i64.wrap (x12_1 + 1)) = ji36 := (i64_w _).trans hji36
                        by_cases c37 : 0 ≤ (ji36)
                        · rw [if_pos c37] at H
                          have c37b0 : decide (0 ≤ (ji36)) = true := decide_eq_true c37
                          clear c37
                          by_cases c38 : (ji36) < (t240.length : Int)
                          · rw [if_pos c38] at H
                            have c38b0 : decide ((ji36) < (t240.length : Int)) = true := decide_eq_true c38
                            clear c38
                            have H' := Aside0.mk H
                            clear H
                            obtain ⟨Ao39, co39, eo39⟩ := Kd.R_slice HO_8.out
                            subst eo39
                            have p251 : 0 ≤ (x12_1 : Int) := of_decide_eq_true (by first | (with_reducible assumption) | assumption)
                            have q251 : x12_1 < (t240.length : Int) := of_decide_eq_true (by first | (with_reducible assumption) | assumption)
                            (try (obtain ⟨A_, c_, e_⟩ := Kd.R_slice HO_8.out; subst e_))
                            obtain ⟨ad251, e251, hx251_0⟩ := Kd.at_bool (Kd.R_reads' HO_8.out).2.2 x12_1 p251 q251
                            (try rw [← Nbq33.out] at hx251_0)
                            cases e251
                            replace p251 := eq_true p251
                            replace q251 := eq_true q251
                            have p252 : 0 ≤ ((ji36) : Int) := of_decide_eq_true (by first | (with_reducible assumption) | assumption)
                            have q252 : (ji36) < (t240.length : Int) := of_decide_eq_true (by first | (with_reducible assumption) | assumption)
                            (try (obtain ⟨A_, c_, e_⟩ := Kd.R_slice HO_8.out; subst e_))
                            obtain ⟨ad252, e252, hx252_0⟩ := Kd.at_bool (Kd.R_reads' HO_8.out).2.2 (ji36) p252 q252
                            (try rw [← Nbq33.out] at hx252_0)
                            obtain rfl : ad251 = ad252 := (by injection e252)
                            replace p252 := eq_true p252
                            replace q252 := eq_true q252
                            go_wp2
                            first | go_meet | ((try subst hji16); (try subst hji26); (try subst hji36); go_meet)
                            case rel => exact ⟨_, (rdOf false t240 (ji36)), (by first | rfl | (simp; done) | (simp only [← hji36] <;> (first | rfl | simp)) | (simp [*]; done)), H', ⟨by have := HK1.out; first | omega | exact Nat.le_refl _⟩, ⟨by (with_reducible repeat (first | apply Kd.R_alloc | apply Kd.R_drewN | apply Kd.R_drew)); exact HO_8.out⟩, ⟨by repeat (first | (with_reducible first | exact HB.out | apply below_alloc | apply pw_below_drewN | apply below_drew1) | exact HB.out)⟩⟩
                          · rw [if_neg c38] at H
                            exact absurd H (by simp)
                        · rw [if_neg c37] at H
                          exact absurd H (by simp)
                    · rw [if_neg c32] at H
                      exact absurd H (by simp)
                  · rw [if_neg c31] at H
                    have c31b0 : (((rd_T63 l0 x12_1).f0) == 18) = false := beq_eq_false_iff_ne.mpr c31
                    have c31b1 : (((rd_T63 l0 x12_1).f0) != 18) = true := bne_iff_ne.mpr c31
                    have H' := Aside0.mk H
                    clear H
                    go_wp2
                    go_meet
                    case rel => exact ⟨_, (false), (by first | rfl | (simp; done) | (simp [*]; done)), H', ⟨by have := HK1.out; first | omega | exact Nat.le_refl _⟩, ⟨by (with_reducible repeat (first | apply Kd.R_alloc | apply Kd.R_drewN | apply Kd.R_drew)); exact HO_8.out⟩, ⟨by repeat (first | (with_reducible first | exact HB.out | apply below_alloc | apply pw_below_drewN | apply below_drew1) | exact HB.out)⟩⟩
              case rest =>
                clear HC11
                try clear c1
                try clear q1
                try clear c2
                try clear p2
                try clear q2
                try clear hx2
                try clear c3
                try clear q3
                try clear c5
                try clear c5b0
                try clear c5b1
                try clear p6
                try clear c7
                try clear c7b0
                try clear c8
                try clear c8b0
                try clear c10
                try clear c12
                try clear c12b0
                try clear c12b1
                try clear c13
                try clear c13b0
                try clear q14
                try clear c15
                try clear c17
                try clear c17b0
                try clear c18
                try clear c18b0
                try clear q19
                try clear c20
                try clear c21
                try clear c21b0
                try clear c21b1
                try clear p24
                try clear q24
                try clear hx24
                try clear c25
                try clear c25b0
                try clear c25b1
                try clear p25
                try clear q25
                try clear hx25
                try clear c27
                try clear c27b0
                try clear c28
                try clear c28b0
                try clear c31
                try clear c31b0
                try clear c31b1
                try clear c32
                try clear c32b0
                try clear q33
                try clear c34
                try clear c37
                try clear c37b0
                try clear c38
                try clear c38b0
                try clear hx244_0
                try clear hx244_1
                try clear hx246_0
                try clear hx247_0
                try clear hx248_0
                try clear hx249_0
                try clear hx250_0
                try clear hx251_0
                try clear hx252_0
                try clear p2
                try clear p244
                try clear p246
                try clear p247
                try clear p248
                try clear p249
                try clear p250
                try clear p251
                try clear p252
                try clear q244
                try clear q246
                try clear q247
                try clear q248
                try clear q249
                try clear q250
                try clear q251
                try clear q252
                obtain ⟨kq, x14_10, rfl, HA, HJ10, HO_8, HB⟩ := hcut
                cases kq with
                | zero => exact absurd HA.out (by simp [foretellref_MetBy.j1])
                | succ kj10 =>
                  have H := HA.out
                  clear HA
                  simp only [foretellref_MetBy.j1] at H
                  have HC40 := Aside0.mk H
                  clear H
                  go_upto_region 12 with (fail)
                  go_cut [79] (fun v79 wc => ∃ (kq : Nat) (x79_39 : Bool), v79 = .bool x79_39 ∧ Aside0 (foretellref_MetBy.j2 kq l0 t240 x10_1 x11_1 x12_1 ((rd_T63 l0 x12_1).f0) x14_10 x79_39 = some (r1, r2)) ∧ Aside0 (kq ≤ kj10) ∧ Aside0 (Kd.R Kd.bool 4 wc w.heap.size (fun _ => True) v242 t240) ∧ Aside0 (Below w.heap.size w wc))
                  case first =>
                    have H := HC40.out
                    clear HC40
                    by_cases c41 : ((rd_T63 l0 x12_1).f0) = 15
                    · rw [if_pos c41] at H
                      have c41b0 : (((rd_T63 l0 x12_1).f0) == 15) = true := beq_iff_eq.mpr c41
                      have c41b1 : (((rd_T63 l0 x12_1).f0) != 15) = false := bne_eq_false_iff_eq.mpr c41
                      clear c41
                      (first | rw [c41b0] | (simp only [i64_w, i32_w]; rw [c41b0]) | skip)
                      have H' := Aside0.mk H
                      clear H
                      go_wp2
                      first | go_meet | ((try subst hji16); go_meet)
                      case rel => exact ⟨_, (true), (by first | rfl | (simp; done) | (simp [*]; done)), H', ⟨by have := HK1.out; have := HJ10.out; first | omega | exact Nat.le_refl _⟩, ⟨by (with_reducible repeat (first | apply Kd.R_alloc | apply Kd.R_drewN | apply Kd.R_drew)); exact HO_8.out⟩, ⟨by repeat (first | (with_reducible first | exact HB.out | apply below_alloc | apply pw_below_drewN | apply below_drew1) | exact HB.out)⟩⟩
                    · rw [if_neg c41] at H
                      have c41b0 : (((rd_T63 l0 x12_1).f0) == 15) = false := beq_eq_false_iff_ne.mpr c41
                      have c41b1 : (((rd_T63 l0 x12_1).f0) != 15) = true := bne_iff_ne.mpr c41
                      (first | rw [c41b0] | (simp only [i64_w, i32_w]; rw [c41b0]) | skip)
                      have H' := Aside0.mk H
                      clear H
                      go_wp2
                      first | go_meet | ((try subst hji16); go_meet)
                      case rel => exact ⟨_, ((((rd_T63 l0 x12_1).f0) == 16)), (by first | rfl | (simp; done) | (simp [*]; done)), H', ⟨by have := HK1.out; have := HJ10.out; first | omega | exact Nat.le_refl _⟩, ⟨by (with_reducible repeat (first | apply Kd.R_alloc | apply Kd.R_drewN | apply Kd.R_drew)); exact HO_8.out⟩, ⟨by repeat (first | (with_reducible first | exact HB.out | apply below_alloc | apply pw_below_drewN | apply below_drew1) | exact HB.out)⟩⟩
                  case rest =>
                    clear HC40
                    try clear c1
                    try clear q1
                    try clear c2
                    try clear p2
                    try clear q2
                    try clear hx2
                    try clear c3
                    try clear q3
                    try clear c4
                    try clear c5
                    try clear c5b0
                    try clear c5b1
                    try clear p6
                    try clear c7
                    try clear c7b0
                    try clear c8
                    try clear c8b0
                    try clear c10
                    try clear c12
                    try clear c12b0
                    try clear c12b1
                    try clear c13
                    try clear c13b0
                    try clear q14
                    try clear c15
                    try clear c17
                    try clear c17b0
                    try clear c18
                    try clear c18b0
                    try clear q19
                    try clear c20
                    try clear c21
                    try clear c21b0
                    try clear c21b1
                    try clear p24
                    try clear q24
                    try clear hx24
                    try clear c25
                    try clear c25b0
                    try clear c25b1
                    try clear p25
                    try clear q25
                    try clear hx25
                    try clear c27
                    try clear c27b0
                    try clear c28
                    try clear c28b0
                    try clear c31
                    try clear c31b0
                    try clear c31b1
                    try clear c32
                    try clear c32b0
                    try clear q33
                    try clear c34
                    try clear c37
                    try clear c37b0
                    try clear c38
                    try clear c38b0
                    try clear c41
                    try clear c41b0
                    try clear c41b1
                    try clear hx244_0
                    try clear hx244_1
                    try clear hx246_0
                    try clear hx247_0
                    try clear hx248_0
                    try clear hx249_0
                    try clear hx250_0
                    try clear hx251_0
                    try clear hx252_0
                    try clear p2
                    try clear p24
                    try clear p244
                    try clear p246
                    try clear p247
                    try clear p248
                    try clear p249
                    try clear p25
                    try clear p250
                    try clear p251
                    try clear p252
                    try clear p6
                    try clear q1
                    try clear q14
                    try clear q19
                    try clear q2
                    try clear q24
                    try clear q244
                    try clear q246
                    try clear q247
                    try clear q248
                    try clear q249
                    try clear q25
                    try clear q250
                    try clear q251
                    try clear q252
                    try clear q3
                    try clear q33
                    obtain ⟨kq, x79_39, rfl, HA, HJ39, HO_8, HB⟩ := hcut
                    cases kq with
                    | zero => exact absurd HA.out (by simp [foretellref_MetBy.j2])
                    | succ kj39 =>
                      have H := HA.out
                      clear HA
                      simp only [foretellref_MetBy.j2] at H
                      by_cases c42 : x79_39 = true
                      · subst c42
                        have H1 : ((foretellref_secondAt.f kj39 l0 x12_1).bind fun t253 => (if 0 ≤ t253 then (if t253 < (t240.length : Int) then (if ((rd_T63 l0 x12_1).f0) = 15 then (if 0 ≤ x12_1 then (if x12_1 < (t240.length : Int) then (if rdOf false t240 x12_1 = true then (if rdOf false t240 t253 = true then (if ((rd_T63 l0 x12_1).f0) = 16 then (foretellref_MetBy.l0 kj39 l0 t240 (wrap64 (x10_1 + x11_1)) (wrap64 (x11_1 * 2)) (wrap64 (x12_1 + 1))) else (foretellref_MetBy.l0 kj39 l0 t240 (wrap64 (x10_1 + x11_1)) (wrap64 (x11_1 * 2)) (wrap64 (x12_1 + 1)))) else (foretellref_MetBy.l0 kj39 l0 t240 x10_1 (wrap64 (x11_1 * 2)) (wrap64 (x12_1 + 1)))) else (if ((rd_T63 l0 x12_1).f0) = 16 then (if rdOf false t240 t253 = true then (foretellref_MetBy.l0 kj39 l0 t240 x10_1 (wrap64 (x11_1 * 2)) (wrap64 (x12_1 + 1))) else (foretellref_MetBy.l0 kj39 l0 t240 (wrap64 (x10_1 + x11_1)) (wrap64 (x11_1 * 2)) (wrap64 (x12_1 + 1)))) else (foretellref_MetBy.l0 kj39 l0 t240 (wrap64 (x10_1 + x11_1)) (wrap64 (x11_1 * 2)) (wrap64 (x12_1 + 1))))) else (none)) else (none)) else (if ((rd_T63 l0 x12_1).f0) = 16 then (if 0 ≤ x12_1 then (if x12_1 < (t240.length : Int) then (if rdOf false t240 x12_1 = true then (foretellref_MetBy.l0 kj39 l0 t240 (wrap64 (x10_1 + x11_1)) (wrap64 (x11_1 * 2)) (wrap64 (x12_1 + 1))) else (if rdOf false t240 t253 = true then (foretellref_MetBy.l0 kj39 l0 t240 x10_1 (wrap64 (x11_1 * 2)) (wrap64 (x12_1 + 1))) else (foretellref_MetBy.l0 kj39 l0 t240 (wrap64 (x10_1 + x11_1)) (wrap64 (x11_1 * 2)) (wrap64 (x12_1 + 1))))) else (none)) else (none)) else (foretellref_MetBy.l0 kj39 l0 t240 (wrap64 (x10_1 + x11_1)) (wrap64 (x11_1 * 2)) (wrap64 (x12_1 + 1))))) else (none)) else (none))) = some (r1, r2) := by rw [if_pos rfl] at H; exact H
                        clear H
                        have H := H1
                        clear H1
                        replace H := Option.bind_eq_some_iff.mp H
                        obtain ⟨t253, A430, H⟩ := H
                        replace H : (if 0 ≤ t253 then (if t253 < (t240.length : Int) then (if ((rd_T63 l0 x12_1).f0) = 15 then (if 0 ≤ x12_1 then (if x12_1 < (t240.length : Int) then (if rdOf false t240 x12_1 = true then (if rdOf false t240 t253 = true then (if ((rd_T63 l0 x12_1).f0) = 16 then (foretellref_MetBy.l0 kj39 l0 t240 (wrap64 (x10_1 + x11_1)) (wrap64 (x11_1 * 2)) (wrap64 (x12_1 + 1))) else (foretellref_MetBy.l0 kj39 l0 t240 (wrap64 (x10_1 + x11_1)) (wrap64 (x11_1 * 2)) (wrap64 (x12_1 + 1)))) else (foretellref_MetBy.l0 kj39 l0 t240 x10_1 (wrap64 (x11_1 * 2)) (wrap64 (x12_1 + 1)))) else (if ((rd_T63 l0 x12_1).f0) = 16 then (if rdOf false t240 t253 = true then (foretellref_MetBy.l0 kj39 l0 t240 x10_1 (wrap64 (x11_1 * 2)) (wrap64 (x12_1 + 1))) else (foretellref_MetBy.l0 kj39 l0 t240 (wrap64 (x10_1 + x11_1)) (wrap64 (x11_1 * 2)) (wrap64 (x12_1 + 1)))) else (foretellref_MetBy.l0 kj39 l0 t240 (wrap64 (x10_1 + x11_1)) (wrap64 (x11_1 * 2)) (wrap64 (x12_1 + 1))))) else (none)) else (none)) else (if ((rd_T63 l0 x12_1).f0) = 16 then (if 0 ≤ x12_1 then (if x12_1 < (t240.length : Int) then (if rdOf false t240 x12_1 = true then (foretellref_MetBy.l0 kj39 l0 t240 (wrap64 (x10_1 + x11_1)) (wrap64 (x11_1 * 2)) (wrap64 (x12_1 + 1))) else (if rdOf false t240 t253 = true then (foretellref_MetBy.l0 kj39 l0 t240 x10_1 (wrap64 (x11_1 * 2)) (wrap64 (x12_1 + 1))) else (foretellref_MetBy.l0 kj39 l0 t240 (wrap64 (x10_1 + x11_1)) (wrap64 (x11_1 * 2)) (wrap64 (x12_1 + 1))))) else (none)) else (none)) else (foretellref_MetBy.l0 kj39 l0 t240 (wrap64 (x10_1 + x11_1)) (wrap64 (x11_1 * 2)) (wrap64 (x12_1 + 1))))) else (none)) else (none)) = some (r1, r2) := H
                        have A43 := Aside0.mk A430
                        clear A430
                        by_cases c44 : 0 ≤ t253
                        · rw [if_pos c44] at H
                          have c44b0 : decide (0 ≤ t253) = true := decide_eq_true c44
                          clear c44
                          by_cases c45 : t253 < (t240.length : Int)
                          · rw [if_pos c45] at H
                            have c45b0 : decide (t253 < (t240.length : Int)) = true := decide_eq_true c45
                            clear c45
                            by_cases c46 : ((rd_T63 l0 x12_1).f0) = 15
                            · rw [if_pos c46] at H
                              have c46b0 : (((rd_T63 l0 x12_1).f0) == 15) = true := beq_iff_eq.mpr c46
                              have c46b1 : (((rd_T63 l0 x12_1).f0) != 15) = false := bne_eq_false_iff_eq.mpr c46
                              clear c46
                              by_cases c47 : 0 ≤ x12_1
                              · rw [if_pos c47] at H
                                have c47b0 : decide (0 ≤ x12_1) = true := decide_eq_true c47
                                clear c47
                                by_cases c48 : x12_1 < (t240.length : Int)
                                · rw [if_pos c48] at H
                                  have c48b0 : decide (x12_1 < (t240.length : Int)) = true := decide_eq_true c48
                                  clear c48
                                  obtain ⟨bq49, hbq49⟩ : ∃ b_ : Bool, b_ = (rdOf false t240 x12_1) := ⟨_, rfl⟩
                                  replace H : (if bq49 = true then (if rdOf false t240 t253 = true then (if ((rd_T63 l0 x12_1).f0) = 16 then (foretellref_MetBy.l0 kj39 l0 t240 (wrap64 (x10_1 + x11_1)) (wrap64 (x11_1 * 2)) (wrap64 (x12_1 + 1))) else (foretellref_MetBy.l0 kj39 l0 t240 (wrap64 (x10_1 + x11_1)) (wrap64 (x11_1 * 2)) (wrap64 (x12_1 + 1)))) else (foretellref_MetBy.l0 kj39 l0 t240 x10_1 (wrap64 (x11_1 * 2)) (wrap64 (x12_1 + 1)))) else (if ((rd_T63 l0 x12_1).f0) = 16 then (if rdOf false t240 t253 = true then (foretellref_MetBy.l0 kj39 l0 t240 x10_1 (wrap64 (x11_1 * 2)) (wrap64 (x12_1 + 1))) else (foretellref_MetBy.l0 kj39 l0 t240 (wrap64 (x10_1 + x11_1)) (wrap64 (x11_1 * 2)) (wrap64 (x12_1 + 1)))) else (foretellref_MetBy.l0 kj39 l0 t240 (wrap64 (x10_1 + x11_1)) (wrap64 (x11_1 * 2)) (wrap64 (x12_1 + 1))))) = some (r1, r2) := by rw [← hbq49] at H; exact H
                                  have Nbq49 := Aside0.mk hbq49
                                  clear hbq49
                                  by_cases c50 : bq49 = true
                                  · subst c50
                                    have H1 : (if rdOf false t240 t253 = true then (if ((rd_T63 l0 x12_1).f0) = 16 then (foretellref_MetBy.l0 kj39 l0 t240 (wrap64 (x10_1 + x11_1)) (wrap64 (x11_1 * 2)) (wrap64 (x12_1 + 1))) else (foretellref_MetBy.l0 kj39 l0 t240 (wrap64 (x10_1 + x11_1)) (wrap64 (x11_1 * 2)) (wrap64 (x12_1 + 1)))) else (foretellref_MetBy.l0 kj39 l0 t240 x10_1 (wrap64 (x11_1 * 2)) (wrap64 (x12_1 + 1)))) = some (r1, r2) := by rw [if_pos rfl] at H; exact H
                                    clear H
                                    have H := H1
                                    clear H1
                                    obtain ⟨bq51, hbq51⟩ : ∃ b_ : Bool, b_ = (rdOf false t240 t253) := ⟨_, rfl⟩
                                    replace H : (if bq51 = true then (if ((rd_T63 l0 x12_1).f0) = 16 then (foretellref_MetBy.l0 kj39 l0 t240 (wrap64 (x10_1 + x11_1)) (wrap64 (x11_1 * 2)) (wrap64 (x12_1 + 1))) else (foretellref_MetBy.l0 kj39 l0 t240 (wrap64 (x10_1 + x11_1)) (wrap64 (x11_1 * 2)) (wrap64 (x12_1 + 1)))) else (foretellref_MetBy.l0 kj39 l0 t240 x10_1 (wrap64 (x11_1 * 2)) (wrap64 (x12_1 + 1)))) = some (r1, r2) := by rw [← hbq51] at H; exact H
                                    have Nbq51 := Aside0.mk hbq51
                                    clear hbq51
                                    by_cases c52 : bq51 = true
                                    · subst c52
                                      have H1 : (if ((rd_T63 l0 x12_1).f0) = 16 then (foretellref_MetBy.l0 kj39 l0 t240 (wrap64 (x10_1 + x11_1)) (wrap64 (x11_1 * 2)) (wrap64 (x12_1 + 1))) else (foretellref_MetBy.l0 kj39 l0 t240 (wrap64 (x10_1 + x11_1)) (wrap64 (x11_1 * 2)) (wrap64 (x12_1 + 1)))) = some (r1, r2) := by rw [if_pos rfl] at H; exact H
                                      clear H
                                      have H := H1
                                      clear H1
                                      by_cases c53 : ((rd_T63 l0 x12_1).f0) = 16
                                      · rw [if_pos c53] at H
                                        have c53b0 : (((rd_T63 l0 x12_1).f0) == 16) = true := beq_iff_eq.mpr c53
                                        have c53b1 : (((rd_T63 l0 x12_1).f0) != 16) = false := bne_eq_false_iff_eq.mpr c53
                                        clear c53
                                        have H' := Aside0.mk H
                                        clear H
                                        go_wp2_with (first | ((with_reducible refine gate_callee (f := 58) rfl ?_); refine goesL_ (some 83) rfl rfl Tryd.func58 (by kernel_rfl) rfl #[.slice (some ad244) l0.length c0, .int .i64 x12_1] rfl (by (try simp only [List.map_toArray, List.map_cons, List.map_nil]); first | done | rfl | (simp only [List.length_drop, List.length_take]; rfl)) ?_; (with_reducible refine (foretellref_secondAt.calls kj39 _ _ l0 x12_1 t253 _ ?side1 ?side2 A43.out).mono ?_); (case side1 => repeat (first | exact (Kd.C_below HR0.out HB.out) | (with_reducible refine Kd.C_alloc ?_ _) | (with_reducible refine Kd.C_drewN ?_ _) | (with_reducible refine Kd.C_drew ?_))); (case side2 => exact HC0.out); rintro e w' ⟨rfl, ⟨nd, rfl⟩⟩; refine ⟨_, rfl, ?_⟩; obtain ⟨Ao54, co54, eo54⟩ := Kd.R_slice HO_8.out; subst eo54; have p254 : 0 ≤ (t253 : Int) := of_decide_eq_true (by first | (with_reducible assumption) | assumption); have q254 : t253 < (t240.length : Int) := of_decide_eq_true (by first | (with_reducible assumption) | assumption); obtain ⟨ad254, e254, hx254_0⟩ := Kd.at_bool (Kd.R_reads' HO_8.out).2.2 t253 p254 q254; (try rw [← Nbq49.out] at hx254_0); (try rw [← Nbq51.out] at hx254_0); cases e254; replace p254 := eq_true p254; replace q254 := eq_true q254; have p255 : 0 ≤ (x12_1 : Int) := of_decide_eq_true (by first | (with_reducible assumption) | assumption); have q255 : x12_1 < (t240.length : Int) := of_decide_eq_true (by first | (with_reducible assumption) | assumption); obtain ⟨ad255, e255, hx255_0⟩ := Kd.at_bool (Kd.R_reads' HO_8.out).2.2 x12_1 p255 q255; (try rw [← Nbq49.out] at hx255_0); (try rw [← Nbq51.out] at hx255_0); obtain rfl : ad254 = ad255 := (by injection e255); replace p255 := eq_true p255; replace q255 := eq_true q255; have p256 : 0 ≤ (x12_1 : Int) := of_decide_eq_true (by first | (with_reducible assumption) | assumption); have q256 : x12_1 < (t240.length : Int) := of_decide_eq_true (by first | (with_reducible assumption) | assumption); obtain ⟨ad256, e256, hx256_0⟩ := Kd.at_bool (Kd.R_reads' HO_8.out).2.2 x12_1 p256 q256; (try rw [← Nbq49.out] at hx256_0); (try rw [← Nbq51.out] at hx256_0); obtain rfl : ad254 = ad256 := (by injection e256); replace p256 := eq_true p256; replace q256 := eq_true q256))
                                        go_roundg kj39
                                        case measure => have := HK1.out; have := HJ10.out; have := HJ39.out; omega
                                        case rel => exact ⟨(wrap64 (x10_1 + x11_1)), (wrap64 (x11_1 * 2)), (wrap64 (x12_1 + 1)), (by first | rfl | (simp; done) | (simp [*]; done)), (by first | rfl | (simp; done) | (simp [*]; done)), (by first | rfl | (simp; done) | (simp [*]; done)), H', ⟨by have := HK1.out; have := HJ10.out; have := HJ39.out; omega⟩, ⟨by (with_reducible repeat (first | apply Kd.R_alloc | apply Kd.R_drewN | apply Kd.R_drew)); exact HO_8.out⟩, ⟨by repeat (first | (with_reducible first | exact HB.out | apply below_alloc | apply pw_below_drewN | apply below_drew1) | exact HB.out)⟩⟩
                                      · rw [if_neg c53] at H
                                        have c53b0 : (((rd_T63 l0 x12_1).f0) == 16) = false := beq_eq_false_iff_ne.mpr c53
                                        have c53b1 : (((rd_T63 l0 x12_1).f0) != 16) = true := bne_iff_ne.mpr c53
                                        have H' := Aside0.mk H
                                        clear H
                                        go_wp2_with (first | ((with_reducible refine gate_callee (f := 58) rfl ?_); refine goesL_ (some 83) rfl rfl Tryd.func58 (by kernel_rfl) rfl #[.slice (some ad244) l0.length c0, .int .i64 x12_1] rfl (by (try simp only [List.map_toArray, List.map_cons, List.map_nil]); first | done | rfl | (simp only [List.length_drop, List.length_take]; rfl)) ?_; (with_reducible refine (foretellref_secondAt.calls kj39 _ _ l0 x12_1 t253 _ ?side1 ?side2 A43.out).mono ?_); (case side1 => repeat (first | exact (Kd.C_below HR0.out HB.out) | (with_reducible refine Kd.C_alloc ?_ _) | (with_reducible refine Kd.C_drewN ?_ _) | (with_reducible refine Kd.C_drew ?_))); (case side2 => exact HC0.out); rintro e w' ⟨rfl, ⟨nd, rfl⟩⟩; refine ⟨_, rfl, ?_⟩; obtain ⟨Ao55, co55, eo55⟩ := Kd.R_slice HO_8.out; subst eo55; have p254 : 0 ≤ (t253 : Int) := of_decide_eq_true (by first | (with_reducible assumption) | assumption); have q254 : t253 < (t240.length : Int) := of_decide_eq_true (by first | (with_reducible assumption) | assumption); obtain ⟨ad254, e254, hx254_0⟩ := Kd.at_bool (Kd.R_reads' HO_8.out).2.2 t253 p254 q254; (try rw [← Nbq49.out] at hx254_0); (try rw [← Nbq51.out] at hx254_0); cases e254; replace p254 := eq_true p254; replace q254 := eq_true q254; have p255 : 0 ≤ (x12_1 : Int) := of_decide_eq_true (by first | (with_reducible assumption) | assumption); have q255 : x12_1 < (t240.length : Int) := of_decide_eq_true (by first | (with_reducible assumption) | assumption); obtain ⟨ad255, e255, hx255_0⟩ := Kd.at_bool (Kd.R_reads' HO_8.out).2.2 x12_1 p255 q255; (try rw [← Nbq49.out] at hx255_0); (try rw [← Nbq51.out] at hx255_0); obtain rfl : ad254 = ad255 := (by injection e255); replace p255 := eq_true p255; replace q255 := eq_true q255))
                                        go_roundg kj39
                                        case measure => have := HK1.out; have := HJ10.out; have := HJ39.out; omega
                                        case rel => exact ⟨(wrap64 (x10_1 + x11_1)), (wrap64 (x11_1 * 2)), (wrap64 (x12_1 + 1)), (by first | rfl | (simp; done) | (simp [*]; done)), (by first | rfl | (simp; done) | (simp [*]; done)), (by first | rfl | (simp; done) | (simp [*]; done)), H', ⟨by have := HK1.out; have := HJ10.out; have := HJ39.out; omega⟩, ⟨by (with_reducible repeat (first | apply Kd.R_alloc | apply Kd.R_drewN | apply Kd.R_drew)); exact HO_8.out⟩, ⟨by repeat (first | (with_reducible first | exact HB.out | apply below_alloc | apply pw_below_drewN | apply below_drew1) | exact HB.out)⟩⟩
                                    · replace c52 := Bool.eq_false_iff.mpr c52
                                      subst c52
                                      have H1 : (foretellref_MetBy.l0 kj39 l0 t240 x10_1 (wrap64 (x11_1 * 2)) (wrap64 (x12_1 + 1))) = some (r1, r2) := by rw [if_neg (show ¬ (false = true) by decide)] at H; exact H
                                      clear H
                                      have H := H1
                                      clear H1
                                      have H' := Aside0.mk H
                                      clear H
                                      go_wp2_with (first | ((with_reducible refine gate_callee (f := 58) rfl ?_); refine goesL_ (some 83) rfl rfl Tryd.func58 (by kernel_rfl) rfl #[.slice (some ad244) l0.length c0, .int .i64 x12_1] rfl (by (try simp only [List.map_toArray, List.map_cons, List.map_nil]); first | done | rfl | (simp only [List.length_drop, List.length_take]; rfl)) ?_; (with_reducible refine (foretellref_secondAt.calls kj39 _ _ l0 x12_1 t253 _ ?side1 ?side2 A43.out).mono ?_); (case side1 => repeat (first | exact (Kd.C_below HR0.out HB.out) | (with_reducible refine Kd.C_alloc ?_ _) | (with_reducible refine Kd.C_drewN ?_ _) | (with_reducible refine Kd.C_drew ?_))); (case side2 => exact HC0.out); rintro e w' ⟨rfl, ⟨nd, rfl⟩⟩; refine ⟨_, rfl, ?_⟩; obtain ⟨Ao56, co56, eo56⟩ := Kd.R_slice HO_8.out; subst eo56; have p254 : 0 ≤ (t253 : Int) := of_decide_eq_true (by first | (with_reducible assumption) | assumption); have q254 : t253 < (t240.length : Int) := of_decide_eq_true (by first | (with_reducible assumption) | assumption); obtain ⟨ad254, e254, hx254_0⟩ := Kd.at_bool (Kd.R_reads' HO_8.out).2.2 t253 p254 q254; (try rw [← Nbq49.out] at hx254_0); (try rw [← Nbq51.out] at hx254_0); cases e254; replace p254 := eq_true p254; replace q254 := eq_true q254; have p255 : 0 ≤ (x12_1 : Int) := of_decide_eq_true (by first | (with_reducible assumption) | assumption); have q255 : x12_1 < (t240.length : Int) := of_decide_eq_true (by first | (with_reducible assumption) | assumption); obtain ⟨ad255, e255, hx255_0⟩ := Kd.at_bool (Kd.R_reads' HO_8.out).2.2 x12_1 p255 q255; (try rw [← Nbq49.out] at hx255_0); (try rw [← Nbq51.out] at hx255_0); obtain rfl : ad254 = ad255 := (by injection e255); replace p255 := eq_true p255; replace q255 := eq_true q255))
                                      go_roundg kj39
                                      case measure => have := HK1.out; have := HJ10.out; have := HJ39.out; omega
                                      case rel => exact ⟨(x10_1), (wrap64 (x11_1 * 2)), (wrap64 (x12_1 + 1)), (by first | rfl | (simp; done) | (simp [*]; done)), (by first | rfl | (simp; done) | (simp [*]; done)), (by first | rfl | (simp; done) | (simp [*]; done)), H', ⟨by have := HK1.out; have := HJ10.out; have := HJ39.out; omega⟩, ⟨by (with_reducible repeat (first | apply Kd.R_alloc | apply Kd.R_drewN | apply Kd.R_drew)); exact HO_8.out⟩, ⟨by repeat (first | (with_reducible first | exact HB.out | apply below_alloc | apply pw_below_drewN | apply below_drew1) | exact HB.out)⟩⟩
                                  · replace c50 := Bool.eq_false_iff.mpr c50
                                    subst c50
                                    have H1 : (if ((rd_T63 l0 x12_1).f0) = 16 then (if rdOf false t240 t253 = true then (foretellref_MetBy.l0 kj39 l0 t240 x10_1 (wrap64 (x11_1 * 2)) (wrap64 (x12_1 + 1))) else (foretellref_MetBy.l0 kj39 l0 t240 (wrap64 (x10_1 + x11_1)) (wrap64 (x11_1 * 2)) (wrap64 (x12_1 + 1)))) else (foretellref_MetBy.l0 kj39 l0 t240 (wrap64 (x10_1 + x11_1)) (wrap64 (x11_1 * 2)) (wrap64 (x12_1 + 1)))) = some (r1, r2) := by rw [if_neg (show ¬ (false = true) by decide)] at H; exact H
                                    clear H
                                    have H := H1
                                    clear H1
                                    by_cases c57 : ((rd_T63 l0 x12_1).f0) = 16
                                    · rw [if_pos c57] at H
                                      have c57b0 : (((rd_T63 l0 x12_1).f0) == 16) = true := beq_iff_eq.mpr c57
                                      have c57b1 : (((rd_T63 l0 x12_1).f0) != 16) = false := bne_eq_false_iff_eq.mpr c57
                                      clear c57
                                      obtain ⟨bq58, hbq58⟩ : ∃ b_ : Bool, b_ = (rdOf false t240 t253) := ⟨_, rfl⟩
                                      replace H : (if bq58 = true then (foretellref_MetBy.l0 kj39 l0 t240 x10_1 (wrap64 (x11_1 * 2)) (wrap64 (x12_1 + 1))) else (foretellref_MetBy.l0 kj39 l0 t240 (wrap64 (x10_1 + x11_1)) (wrap64 (x11_1 * 2)) (wrap64 (x12_1 + 1)))) = some (r1, r2) := by rw [← hbq58] at H; exact H
                                      have Nbq58 := Aside0.mk hbq58
                                      clear hbq58
                                      by_cases c59 : bq58 = true
                                      · subst c59
                                        have H1 : (foretellref_MetBy.l0 kj39 l0 t240 x10_1 (wrap64 (x11_1 * 2)) (wrap64 (x12_1 + 1))) = some (r1, r2) := by rw [if_pos rfl] at H; exact H
                                        clear H
                                        have H := H1
                                        clear H1
                                        have H' := Aside0.mk H
                                        clear H
                                        go_wp2_with (first | ((with_reducible refine gate_callee (f := 58) rfl ?_); refine goesL_ (some 83) rfl rfl Tryd.func58 (by kernel_rfl) rfl #[.slice (some ad244) l0.length c0, .int .i64 x12_1] rfl (by (try simp only [List.map_toArray, List.map_cons, List.map_nil]); first | done | rfl | (simp only [List.length_drop, List.length_take]; rfl)) ?_; (with_reducible refine (foretellref_secondAt.calls kj39 _ _ l0 x12_1 t253 _ ?side1 ?side2 A43.out).mono ?_); (case side1 => repeat (first | exact (Kd.C_below HR0.out HB.out) | (with_reducible refine Kd.C_alloc ?_ _) | (with_reducible refine Kd.C_drewN ?_ _) | (with_reducible refine Kd.C_drew ?_))); (case side2 => exact HC0.out); rintro e w' ⟨rfl, ⟨nd, rfl⟩⟩; refine ⟨_, rfl, ?_⟩; obtain ⟨Ao60, co60, eo60⟩ := Kd.R_slice HO_8.out; subst eo60; have p254 : 0 ≤ (t253 : Int) := of_decide_eq_true (by first | (with_reducible assumption) | assumption); have q254 : t253 < (t240.length : Int) := of_decide_eq_true (by first | (with_reducible assumption) | assumption); obtain ⟨ad254, e254, hx254_0⟩ := Kd.at_bool (Kd.R_reads' HO_8.out).2.2 t253 p254 q254; (try rw [← Nbq49.out] at hx254_0); (try rw [← Nbq58.out] at hx254_0); cases e254; replace p254 := eq_true p254; replace q254 := eq_true q254; have p255 : 0 ≤ (x12_1 : Int) := of_decide_eq_true (by first | (with_reducible assumption) | assumption); have q255 : x12_1 < (t240.length : Int) := of_decide_eq_true (by first | (with_reducible assumption) | assumption); obtain ⟨ad255, e255, hx255_0⟩ := Kd.at_bool (Kd.R_reads' HO_8.out).2.2 x12_1 p255 q255; (try rw [← Nbq49.out] at hx255_0); (try rw [← Nbq58.out] at hx255_0); obtain rfl : ad254 = ad255 := (by injection e255); replace p255 := eq_true p255; replace q255 := eq_true q255; have p257 : 0 ≤ (x12_1 : Int) := of_decide_eq_true (by first | (with_reducible assumption) | assumption); have q257 : x12_1 < (t240.length : Int) := of_decide_eq_true (by first | (with_reducible assumption) | assumption); obtain ⟨ad257, e257, hx257_0⟩ := Kd.at_bool (Kd.R_reads' HO_8.out).2.2 x12_1 p257 q257; (try rw [← Nbq49.out] at hx257_0); (try rw [← Nbq58.out] at hx257_0); obtain rfl : ad254 = ad257 := (by injection e257); replace p257 := eq_true p257; replace q257 := eq_true q257))
                                        go_roundg kj39
                                        case measure => have := HK1.out; have := HJ10.out; have := HJ39.out; omega
                                        case rel => exact ⟨(x10_1), (wrap64 (x11_1 * 2)), (wrap64 (x12_1 + 1)), (by first | rfl | (simp; done) | (simp [*]; done)), (by first | rfl | (simp; done) | (simp [*]; done)), (by first | rfl | (simp; done) | (simp [*]; done)), H', ⟨by have := HK1.out; have := HJ10.out; have := HJ39.out; omega⟩, ⟨by (with_reducible repeat (first | apply Kd.R_alloc | apply Kd.R_drewN | apply Kd.R_drew)); exact HO_8.out⟩, ⟨by repeat (first | (with_reducible first | exact HB.out | apply below_alloc | apply pw_below_drewN | apply below_drew1) | exact HB.out)⟩⟩
                                      · replace c59 := Bool.eq_false_iff.mpr c59
                                        subst c59
                                        have H1 : (foretellref_MetBy.l0 kj39 l0 t240 (wrap64 (x10_1 + x11_1)) (wrap64 (x11_1 * 2)) (wrap64 (x12_1 + 1))) = some (r1, r2) := by rw [if_neg (show ¬ (false = true) by decide)] at H; exact H
                                        clear H
                                        have H := H1
                                        clear H1
                                        have H' := Aside0.mk H
                                        clear H
                                        go_wp2_with (first | ((with_reducible refine gate_callee (f := 58) rfl ?_); refine goesL_ (some 83) rfl rfl Tryd.func58 (by kernel_rfl) rfl #[.slice (some ad244) l0.length c0, .int .i64 x12_1] rfl (by (try simp only [List.map_toArray, List.map_cons, List.map_nil]); first | done | rfl | (simp only [List.length_drop, List.length_take]; rfl)) ?_; (with_reducible refine (foretellref_secondAt.calls kj39 _ _ l0 x12_1 t253 _ ?side1 ?side2 A43.out).mono ?_); (case side1 => repeat (first | exact (Kd.C_below HR0.out HB.out) | (with_reducible refine Kd.C_alloc ?_ _) | (with_reducible refine Kd.C_drewN ?_ _) | (with_reducible refine Kd.C_drew ?_))); (case side2 => exact HC0.out); rintro e w' ⟨rfl, ⟨nd, rfl⟩⟩; refine ⟨_, rfl, ?_⟩; obtain ⟨Ao61, co61, eo61⟩ := Kd.R_slice HO_8.out; subst eo61; have p254 : 0 ≤ (t253 : Int) := of_decide_eq_true (by first | (with_reducible assumption) | assumption); have q254 : t253 < (t240.length : Int) := of_decide_eq_true (by first | (with_reducible assumption) | assumption); obtain ⟨ad254, e254, hx254_0⟩ := Kd.at_bool (Kd.R_reads' HO_8.out).2.2 t253 p254 q254; (try rw [← Nbq49.out] at hx254_0); (try rw [← Nbq58.out] at hx254_0); cases e254; replace p254 := eq_true p254; replace q254 := eq_true q254; have p255 : 0 ≤ (x12_1 : Int) := of_decide_eq_true (by first | (with_reducible assumption) | assumption); have q255 : x12_1 < (t240.length : Int) := of_decide_eq_true (by first | (with_reducible assumption) | assumption); obtain ⟨ad255, e255, hx255_0⟩ := Kd.at_bool (Kd.R_reads' HO_8.out).2.2 x12_1 p255 q255; (try rw [← Nbq49.out] at hx255_0); (try rw [← Nbq58.out] at hx255_0); obtain rfl : ad254 = ad255 := (by injection e255); replace p255 := eq_true p255; replace q255 := eq_true q255; have p257 : 0 ≤ (x12_1 : Int) := of_decide_eq_true (by first | (with_reducible assumption) | assumption); have q257 : x12_1 < (t240.length : Int) := of_decide_eq_true (by first | (with_reducible assumption) | assumption); obtain ⟨ad257, e257, hx257_0⟩ := Kd.at_bool (Kd.R_reads' HO_8.out).2.2 x12_1 p257 q257; (try rw [← Nbq49.out] at hx257_0); (try rw [← Nbq58.out] at hx257_0); obtain rfl : ad254 = ad257 := (by injection e257); replace p257 := eq_true p257; replace q257 := eq_true q257))
                                        go_roundg kj39
                                        case measure => have := HK1.out; have := HJ10.out; have := HJ39.out; omega
                                        case rel => exact ⟨(wrap64 (x10_1 + x11_1)), (wrap64 (x11_1 * 2)), (wrap64 (x12_1 + 1)), (by first | rfl | (simp; done) | (simp [*]; done)), (by first | rfl | (simp; done) | (simp [*]; done)), (by first | rfl | (simp; done) | (simp [*]; done)), H', ⟨by have := HK1.out; have := HJ10.out; have := HJ39.out; omega⟩, ⟨by (with_reducible repeat (first | apply Kd.R_alloc | apply Kd.R_drewN | apply Kd.R_drew)); exact HO_8.out⟩, ⟨by repeat (first | (with_reducible first | exact HB.out | apply below_alloc | apply pw_below_drewN | apply below_drew1) | exact HB.out)⟩⟩
                                    · rw [if_neg c57] at H
                                      have c57b0 : (((rd_T63 l0 x12_1).f0) == 16) = false := beq_eq_false_iff_ne.mpr c57
                                      have c57b1 : (((rd_T63 l0 x12_1).f0) != 16) = true := bne_iff_ne.mpr c57
                                      have H' := Aside0.mk H
                                      clear H
                                      go_wp2_with (first | ((with_reducible refine gate_callee (f := 58) rfl ?_); refine goesL_ (some 83) rfl rfl Tryd.func58 (by kernel_rfl) rfl #[.slice (some ad244) l0.length c0, .int .i64 x12_1] rfl (by (try simp only [List.map_toArray, List.map_cons, List.map_nil]); first | done | rfl | (simp only [List.length_drop, List.length_take]; rfl)) ?_; (with_reducible refine (foretellref_secondAt.calls kj39 _ _ l0 x12_1 t253 _ ?side1 ?side2 A43.out).mono ?_); (case side1 => repeat (first | exact (Kd.C_below HR0.out HB.out) | (with_reducible refine Kd.C_alloc ?_ _) | (with_reducible refine Kd.C_drewN ?_ _) | (with_reducible refine Kd.C_drew ?_))); (case side2 => exact HC0.out); rintro e w' ⟨rfl, ⟨nd, rfl⟩⟩; refine ⟨_, rfl, ?_⟩; obtain ⟨Ao62, co62, eo62⟩ := Kd.R_slice HO_8.out; subst eo62; have p254 : 0 ≤ (t253 : Int) := of_decide_eq_true (by first | (with_reducible assumption) | assumption); have q254 : t253 < (t240.length : Int) := of_decide_eq_true (by first | (with_reducible assumption) | assumption); obtain ⟨ad254, e254, hx254_0⟩ := Kd.at_bool (Kd.R_reads' HO_8.out).2.2 t253 p254 q254; (try rw [← Nbq49.out] at hx254_0); cases e254; replace p254 := eq_true p254; replace q254 := eq_true q254; have p255 : 0 ≤ (x12_1 : Int) := of_decide_eq_true (by first | (with_reducible assumption) | assumption); have q255 : x12_1 < (t240.length : Int) := of_decide_eq_true (by first | (with_reducible assumption) | assumption); obtain ⟨ad255, e255, hx255_0⟩ := Kd.at_bool (Kd.R_reads' HO_8.out).2.2 x12_1 p255 q255; (try rw [← Nbq49.out] at hx255_0); obtain rfl : ad254 = ad255 := (by injection e255); replace p255 := eq_true p255; replace q255 := eq_true q255))
                                      go_roundg kj39
                                      case measure => have := HK1.out; have := HJ10.out; have := HJ39.out; omega
                                      case rel => exact ⟨(wrap64 (x10_1 + x11_1)), (wrap64 (x11_1 * 2)), (wrap64 (x12_1 + 1)), (by first | rfl | (simp; done) | (simp [*]; done)), (by first | rfl | (simp; done) | (simp [*]; done)), (by first | rfl | (simp; done) | (simp [*]; done)), H', ⟨by have := HK1.out; have := HJ10.out; have := HJ39.out; omega⟩, ⟨by (with_reducible repeat (first | apply Kd.R_alloc | apply Kd.R_drewN | apply Kd.R_drew)); exact HO_8.out⟩, ⟨by repeat (first | (with_reducible first | exact HB.out | apply below_alloc | apply pw_below_drewN | apply below_drew1) | exact HB.out)⟩⟩
                                · rw [if_neg c48] at H
                                  exact absurd H (by simp)
                              · rw [if_neg c47] at H
                                exact absurd H (by simp)
                            · rw [if_neg c46] at H
                              have c46b0 : (((rd_T63 l0 x12_1).f0) == 15) = false := beq_eq_false_iff_ne.mpr c46
                              have c46b1 : (((rd_T63 l0 x12_1).f0) != 15) = true := bne_iff_ne.mpr c46
                              by_cases c63 : ((rd_T63 l0 x12_1).f0) = 16
                              · rw [if_pos c63] at H
                                have c63b0 : (((rd_T63 l0 x12_1).f0) == 16) = true := beq_iff_eq.mpr c63
                                have c63b1 : (((rd_T63 l0 x12_1).f0) != 16) = false := bne_eq_false_iff_eq.mpr c63
                                clear c63
                                by_cases c64 : 0 ≤ x12_1
                                · rw [if_pos c64] at H
                                  have c64b0 : decide (0 ≤ x12_1) = true := decide_eq_true c64
                                  clear c64
                                  by_cases c65 : x12_1 < (t240.length : Int)
                                  · rw [if_pos c65] at H
                                    have c65b0 : decide (x12_1 < (t240.length : Int)) = true := decide_eq_true c65
                                    clear c65
                                    obtain ⟨bq66, hbq66⟩ : ∃ b_ : Bool, b_ = (rdOf false t240 x12_1) := ⟨_, rfl⟩
                                    replace H : (if bq66 = true then (foretellref_MetBy.l0 kj39 l0 t240 (wrap64 (x10_1 + x11_1)) (wrap64 (x11_1 * 2)) (wrap64 (x12_1 + 1))) else (if rdOf false t240 t253 = true then (foretellref_MetBy.l0 kj39 l0 t240 x10_1 (wrap64 (x11_1 * 2)) (wrap64 (x12_1 + 1))) else (foretellref_MetBy.l0 kj39 l0 t240 (wrap64 (x10_1 + x11_1)) (wrap64 (x11_1 * 2)) (wrap64 (x12_1 + 1))))) = some (r1, r2) := by rw [← hbq66] at H; exact H
                                    have Nbq66 := Aside0.mk hbq66
                                    clear hbq66
                                    by_cases c67 : bq66 = true
                                    · subst c67
                                      have H1 : (foretellref_MetBy.l0 kj39 l0 t240 (wrap64 (x10_1 + x11_1)) (wrap64 (x11_1 * 2)) (wrap64 (x12_1 + 1))) = some (r1, r2) := by rw [if_pos rfl] at H; exact H
                                      clear H
                                      have H := H1
                                      clear H1
                                      have H' := Aside0.mk H
                                      clear H
                                      go_wp2_with (first | ((with_reducible refine gate_callee (f := 58) rfl ?_); refine goesL_ (some 83) rfl rfl Tryd.func58 (by kernel_rfl) rfl #[.slice (some ad244) l0.length c0, .int .i64 x12_1] rfl (by (try simp only [List.map_toArray, List.map_cons, List.map_nil]); first | done | rfl | (simp only [List.length_drop, List.length_take]; rfl)) ?_; (with_reducible refine (foretellref_secondAt.calls kj39 _ _ l0 x12_1 t253 _ ?side1 ?side2 A43.out).mono ?_); (case side1 => repeat (first | exact (Kd.C_below HR0.out HB.out) | (with_reducible refine Kd.C_alloc ?_ _) | (with_reducible refine Kd.C_drewN ?_ _) | (with_reducible refine Kd.C_drew ?_))); (case side2 => exact HC0.out); rintro e w' ⟨rfl, ⟨nd, rfl⟩⟩; refine ⟨_, rfl, ?_⟩; obtain ⟨Ao68, co68, eo68⟩ := Kd.R_slice HO_8.out; subst eo68; have p254 : 0 ≤ (t253 : Int) := of_decide_eq_true (by first | (with_reducible assumption) | assumption); have q254 : t253 < (t240.length : Int) := of_decide_eq_true (by first | (with_reducible assumption) | assumption); obtain ⟨ad254, e254, hx254_0⟩ := Kd.at_bool (Kd.R_reads' HO_8.out).2.2 t253 p254 q254; (try rw [← Nbq66.out] at hx254_0); cases e254; replace p254 := eq_true p254; replace q254 := eq_true q254; have p258 : 0 ≤ (x12_1 : Int) := of_decide_eq_true (by first | (with_reducible assumption) | assumption); have q258 : x12_1 < (t240.length : Int) := of_decide_eq_true (by first | (with_reducible assumption) | assumption); obtain ⟨ad258, e258, hx258_0⟩ := Kd.at_bool (Kd.R_reads' HO_8.out).2.2 x12_1 p258 q258; (try rw [← Nbq66.out] at hx258_0); obtain rfl : ad254 = ad258 := (by injection e258); replace p258 := eq_true p258; replace q258 := eq_true q258))
                                      go_roundg kj39
                                      case measure => have := HK1.out; have := HJ10.out; have := HJ39.out; omega
                                      case rel => exact ⟨(wrap64 (x10_1 + x11_1)), (wrap64 (x11_1 * 2)), (wrap64 (x12_1 + 1)), (by first | rfl | (simp; done) | (simp [*]; done)), (by first | rfl | (simp; done) | (simp [*]; done)), (by first | rfl | (simp; done) | (simp [*]; done)), H', ⟨by have := HK1.out; have := HJ10.out; have := HJ39.out; omega⟩, ⟨by (with_reducible repeat (first | apply Kd.R_alloc | apply Kd.R_drewN | apply Kd.R_drew)); exact HO_8.out⟩, ⟨by repeat (first | (with_reducible first | exact HB.out | apply below_alloc | apply pw_below_drewN | apply below_drew1) | exact HB.out)⟩⟩
                                    · replace c67 := Bool.eq_false_iff.mpr c67
                                      subst c67
                                      have H1 : (if rdOf false t240 t253 = true then (foretellref_MetBy.l0 kj39 l0 t240 x10_1 (wrap64 (x11_1 * 2)) (wrap64 (x12_1 + 1))) else (foretellref_MetBy.l0 kj39 l0 t240 (wrap64 (x10_1 + x11_1)) (wrap64 (x11_1 * 2)) (wrap64 (x12_1 + 1)))) = some (r1, r2) := by rw [if_neg (show ¬ (false = true) by decide)] at H; exact H
                                      clear H
                                      have H := H1
                                      clear H1
                                      obtain ⟨bq69, hbq69⟩ : ∃ b_ : Bool, b_ = (rdOf false t240 t253) := ⟨_, rfl⟩
                                      replace H : (if bq69 = true then (foretellref_MetBy.l0 kj39 l0 t240 x10_1 (wrap64 (x11_1 * 2)) (wrap64 (x12_1 + 1))) else (foretellref_MetBy.l0 kj39 l0 t240 (wrap64 (x10_1 + x11_1)) (wrap64 (x11_1 * 2)) (wrap64 (x12_1 + 1)))) = some (r1, r2) := by rw [← hbq69] at H; exact H
                                      have Nbq69 := Aside0.mk hbq69
                                      clear hbq69
                                      by_cases c70 : bq69 = true
                                      · subst c70
                                        have H1 : (foretellref_MetBy.l0 kj39 l0 t240 x10_1 (wrap64 (x11_1 * 2)) (wrap64 (x12_1 + 1))) = some (r1, r2) := by rw [if_pos rfl] at H; exact H
                                        clear H
                                        have H := H1
                                        clear H1
                                        have H' := Aside0.mk H
                                        clear H
                                        go_wp2_with (first | ((with_reducible refine gate_callee (f := 58) rfl ?_); refine goesL_ (some 83) rfl rfl Tryd.func58 (by kernel_rfl) rfl #[.slice (some ad244) l0.length c0, .int .i64 x12_1] rfl (by (try simp only [List.map_toArray, List.map_cons, List.map_nil]); first | done | rfl | (simp only [List.length_drop, List.length_take]; rfl)) ?_; (with_reducible refine (foretellref_secondAt.calls kj39 _ _ l0 x12_1 t253 _ ?side1 ?side2 A43.out).mono ?_); (case side1 => repeat (first | exact (Kd.C_below HR0.out HB.out) | (with_reducible refine Kd.C_alloc ?_ _) | (with_reducible refine Kd.C_drewN ?_ _) | (with_reducible refine Kd.C_drew ?_))); (case side2 => exact HC0.out); rintro e w' ⟨rfl, ⟨nd, rfl⟩⟩; refine ⟨_, rfl, ?_⟩; obtain ⟨Ao71, co71, eo71⟩ := Kd.R_slice HO_8.out; subst eo71; have p254 : 0 ≤ (t253 : Int) := of_decide_eq_true (by first | (with_reducible assumption) | assumption); have q254 : t253 < (t240.length : Int) := of_decide_eq_true (by first | (with_reducible assumption) | assumption); obtain ⟨ad254, e254, hx254_0⟩ := Kd.at_bool (Kd.R_reads' HO_8.out).2.2 t253 p254 q254; (try rw [← Nbq66.out] at hx254_0); (try rw [← Nbq69.out] at hx254_0); cases e254; replace p254 := eq_true p254; replace q254 := eq_true q254; have p258 : 0 ≤ (x12_1 : Int) := of_decide_eq_true (by first | (with_reducible assumption) | assumption); have q258 : x12_1 < (t240.length : Int) := of_decide_eq_true (by first | (with_reducible assumption) | assumption); obtain ⟨ad258, e258, hx258_0⟩ := Kd.at_bool (Kd.R_reads' HO_8.out).2.2 x12_1 p258 q258; (try rw [← Nbq66.out] at hx258_0); (try rw [← Nbq69.out] at hx258_0); obtain rfl : ad254 = ad258 := (by injection e258); replace p258 := eq_true p258; replace q258 := eq_true q258))
                                        go_roundg kj39
                                        case measure => have := HK1.out; have := HJ10.out; have := HJ39.out; omega
                                        case rel => exact ⟨(x10_1), (wrap64 (x11_1 * 2)), (wrap64 (x12_1 + 1)), (by first | rfl | (simp; done) | (simp [*]; done)), (by first | rfl | (simp; done) | (simp [*]; done)), (by first | rfl | (simp; done) | (simp [*]; done)), H', ⟨by have := HK1.out; have := HJ10.out; have := HJ39.out; omega⟩, ⟨by (with_reducible repeat (first | apply Kd.R_alloc | apply Kd.R_drewN | apply Kd.R_drew)); exact HO_8.out⟩, ⟨by repeat (first | (with_reducible first | exact HB.out | apply below_alloc | apply pw_below_drewN | apply below_drew1) | exact HB.out)⟩⟩
                                      · replace c70 := Bool.eq_false_iff.mpr c70
                                        subst c70
                                        have H1 : (foretellref_MetBy.l0 kj39 l0 t240 (wrap64 (x10_1 + x11_1)) (wrap64 (x11_1 * 2)) (wrap64 (x12_1 + 1))) = some (r1, r2) := by rw [if_neg (show ¬ (false = true) by decide)] at H; exact H
                                        clear H
                                        have H := H1
                                        clear H1
                                        have H' := Aside0.mk H
                                        clear H
                                        go_wp2_with (first | ((with_reducible refine gate_callee (f := 58) rfl ?_); refine goesL_ (some 83) rfl rfl Tryd.func58 (by kernel_rfl) rfl #[.slice (some ad244) l0.length c0, .int .i64 x12_1] rfl (by (try simp only [List.map_toArray, List.map_cons, List.map_nil]); first | done | rfl | (simp only [List.length_drop, List.length_take]; rfl)) ?_; (with_reducible refine (foretellref_secondAt.calls kj39 _ _ l0 x12_1 t253 _ ?side1 ?side2 A43.out).mono ?_); (case side1 => repeat (first | exact (Kd.C_below HR0.out HB.out) | (with_reducible refine Kd.C_alloc ?_ _) | (with_reducible refine Kd.C_drewN ?_ _) | (with_reducible refine Kd.C_drew ?_))); (case side2 => exact HC0.out); rintro e w' ⟨rfl, ⟨nd, rfl⟩⟩; refine ⟨_, rfl, ?_⟩; obtain ⟨Ao72, co72, eo72⟩ := Kd.R_slice HO_8.out; subst eo72; have p254 : 0 ≤ (t253 : Int) := of_decide_eq_true (by first | (with_reducible assumption) | assumption); have q254 : t253 < (t240.length : Int) := of_decide_eq_true (by first | (with_reducible assumption) | assumption); obtain ⟨ad254, e254, hx254_0⟩ := Kd.at_bool (Kd.R_reads' HO_8.out).2.2 t253 p254 q254; (try rw [← Nbq66.out] at hx254_0); (try rw [← Nbq69.out] at hx254_0); cases e254; replace p254 := eq_true p254; replace q254 := eq_true q254; have p258 : 0 ≤ (x12_1 : Int) := of_decide_eq_true (by first | (with_reducible assumption) | assumption); have q258 : x12_1 < (t240.length : Int) := of_decide_eq_true (by first | (with_reducible assumption) | assumption); obtain ⟨ad258, e258, hx258_0⟩ := Kd.at_bool (Kd.R_reads' HO_8.out).2.2 x12_1 p258 q258; (try rw [← Nbq66.out] at hx258_0); (try rw [← Nbq69.out] at hx258_0); obtain rfl : ad254 = ad258 := (by injection e258); replace p258 := eq_true p258; replace q258 := eq_true q258))
                                        go_roundg kj39
                                        case measure => have := HK1.out; have := HJ10.out; have := HJ39.out; omega
                                        case rel => exact ⟨(wrap64 (x10_1 + x11_1)), (wrap64 (x11_1 * 2)), (wrap64 (x12_1 + 1)), (by first | rfl | (simp; done) | (simp [*]; done)), (by first | rfl | (simp; done) | (simp [*]; done)), (by first | rfl | (simp; done) | (simp [*]; done)), H', ⟨by have := HK1.out; have := HJ10.out; have := HJ39.out; omega⟩, ⟨by (with_reducible repeat (first | apply Kd.R_alloc | apply Kd.R_drewN | apply Kd.R_drew)); exact HO_8.out⟩, ⟨by repeat (first | (with_reducible first | exact HB.out | apply below_alloc | apply pw_below_drewN | apply below_drew1) | exact HB.out)⟩⟩
                                  · rw [if_neg c65] at H
                                    exact absurd H (by simp)
                                · rw [if_neg c64] at H
                                  exact absurd H (by simp)
                              · rw [if_neg c63] at H
                                have c63b0 : (((rd_T63 l0 x12_1).f0) == 16) = false := beq_eq_false_iff_ne.mpr c63
                                have c63b1 : (((rd_T63 l0 x12_1).f0) != 16) = true := bne_iff_ne.mpr c63
                                have H' := Aside0.mk H
                                clear H
                                go_wp2_with (first | ((with_reducible refine gate_callee (f := 58) rfl ?_); refine goesL_ (some 83) rfl rfl Tryd.func58 (by kernel_rfl) rfl #[.slice (some ad244) l0.length c0, .int .i64 x12_1] rfl (by (try simp only [List.map_toArray, List.map_cons, List.map_nil]); first | done | rfl | (simp only [List.length_drop, List.length_take]; rfl)) ?_; (with_reducible refine (foretellref_secondAt.calls kj39 _ _ l0 x12_1 t253 _ ?side1 ?side2 A43.out).mono ?_); (case side1 => repeat (first | exact (Kd.C_below HR0.out HB.out) | (with_reducible refine Kd.C_alloc ?_ _) | (with_reducible refine Kd.C_drewN ?_ _) | (with_reducible refine Kd.C_drew ?_))); (case side2 => exact HC0.out); rintro e w' ⟨rfl, ⟨nd, rfl⟩⟩; refine ⟨_, rfl, ?_⟩; obtain ⟨Ao73, co73, eo73⟩ := Kd.R_slice HO_8.out; subst eo73; have p254 : 0 ≤ (t253 : Int) := of_decide_eq_true (by first | (with_reducible assumption) | assumption); have q254 : t253 < (t240.length : Int) := of_decide_eq_true (by first | (with_reducible assumption) | assumption); obtain ⟨ad254, e254, hx254_0⟩ := Kd.at_bool (Kd.R_reads' HO_8.out).2.2 t253 p254 q254; cases e254; replace p254 := eq_true p254; replace q254 := eq_true q254))
                                go_roundg kj39
                                case measure => have := HK1.out; have := HJ10.out; have := HJ39.out; omega
                                case rel => exact ⟨(wrap64 (x10_1 + x11_1)), (wrap64 (x11_1 * 2)), (wrap64 (x12_1 + 1)), (by first | rfl | (simp; done) | (simp [*]; done)), (by first | rfl | (simp; done) | (simp [*]; done)), (by first | rfl | (simp; done) | (simp [*]; done)), H', ⟨by have := HK1.out; have := HJ10.out; have := HJ39.out; omega⟩, ⟨by (with_reducible repeat (first | apply Kd.R_alloc | apply Kd.R_drewN | apply Kd.R_drew)); exact HO_8.out⟩, ⟨by repeat (first | (with_reducible first | exact HB.out | apply below_alloc | apply pw_below_drewN | apply below_drew1) | exact HB.out)⟩⟩
                          · rw [if_neg c45] at H
                            exact absurd H (by simp)
                        · rw [if_neg c44] at H
                          exact absurd H (by simp)
                      · replace c42 := Bool.eq_false_iff.mpr c42
                        subst c42
                        have H1 : (if x14_10 = true then (foretellref_MetBy.l0 kj39 l0 t240 x10_1 (wrap64 (x11_1 * 2)) (wrap64 (x12_1 + 1))) else (foretellref_MetBy.l0 kj39 l0 t240 (wrap64 (x10_1 + x11_1)) (wrap64 (x11_1 * 2)) (wrap64 (x12_1 + 1)))) = some (r1, r2) := by rw [if_neg (show ¬ (false = true) by decide)] at H; exact H
                        clear H
                        have H := H1
                        clear H1
                        by_cases c74 : x14_10 = true
                        · subst c74
                          have H1 : (foretellref_MetBy.l0 kj39 l0 t240 x10_1 (wrap64 (x11_1 * 2)) (wrap64 (x12_1 + 1))) = some (r1, r2) := by rw [if_pos rfl] at H; exact H
                          clear H
                          have H := H1
                          clear H1
                          have H' := Aside0.mk H
                          clear H
                          go_wp2
                          go_roundg kj39
                          case measure => have := HK1.out; have := HJ10.out; have := HJ39.out; omega
                          case rel => exact ⟨(x10_1), (wrap64 (x11_1 * 2)), (wrap64 (x12_1 + 1)), (by first | rfl | (simp; done) | (simp [*]; done)), (by first | rfl | (simp; done) | (simp [*]; done)), (by first | rfl | (simp; done) | (simp [*]; done)), H', ⟨by have := HK1.out; have := HJ10.out; have := HJ39.out; omega⟩, ⟨by (with_reducible repeat (first | apply Kd.R_alloc | apply Kd.R_drewN | apply Kd.R_drew)); exact HO_8.out⟩, ⟨by repeat (first | (with_reducible first | exact HB.out | apply below_alloc | apply pw_below_drewN | apply below_drew1) | exact HB.out)⟩⟩
                        · replace c74 := Bool.eq_false_iff.mpr c74
                          subst c74
                          have H1 : (foretellref_MetBy.l0 kj39 l0 t240 (wrap64 (x10_1 + x11_1)) (wrap64 (x11_1 * 2)) (wrap64 (x12_1 + 1))) = some (r1, r2) := by rw [if_neg (show ¬ (false = true) by decide)] at H; exact H
                          clear H
                          have H := H1
                          clear H1
                          have H' := Aside0.mk H
                          clear H
                          go_wp2
                          go_roundg kj39
                          case measure => have := HK1.out; have := HJ10.out; have := HJ39.out; omega
                          case rel => exact ⟨(wrap64 (x10_1 + x11_1)), (wrap64 (x11_1 * 2)), (wrap64 (x12_1 + 1)), (by first | rfl | (simp; done) | (simp [*]; done)), (by first | rfl | (simp; done) | (simp [*]; done)), (by first | rfl | (simp; done) | (simp [*]; done)), H', ⟨by have := HK1.out; have := HJ10.out; have := HJ39.out; omega⟩, ⟨by (with_reducible repeat (first | apply Kd.R_alloc | apply Kd.R_drewN | apply Kd.R_drew)); exact HO_8.out⟩, ⟨by repeat (first | (with_reducible first | exact HB.out | apply below_alloc | apply pw_below_drewN | apply below_drew1) | exact HB.out)⟩⟩
            · replace c10 := Bool.eq_false_iff.mpr c10
              subst c10
              have H1 : (foretellref_MetBy.l0 k1 l0 t240 x10_1 x11_1 (wrap64 (x12_1 + 1))) = some (r1, r2) := by rw [if_neg (show ¬ (false = true) by decide)] at H; exact H
              clear H
              have H := H1
              clear H1
              have H' := Aside0.mk H
              clear H
              have p244 : 0 ≤ (x12_1 : Int) := of_decide_eq_true (by first | (with_reducible assumption) | assumption)
              have q244 : x12_1 < (l0.length : Int) := of_decide_eq_true (by first | (with_reducible assumption) | assumption)
              obtain ⟨ad244, e244, hx244_0, hx244_1⟩ := at_T63 HR0.out x12_1 p244 q244
              cases e244
              replace hx244_0 := (HB.out.cell (World.block_lt_of_cell? w _ hx244_0)).trans hx244_0
              replace hx244_1 := (HB.out.cell (World.block_lt_of_cell? w _ hx244_1)).trans hx244_1
              replace p244 := eq_true p244
              replace q244 := eq_true q244
              go_wp2_with (first | ((with_reducible refine gate_callee (f := 50) rfl ?_); refine goesL_ (some 38) rfl rfl Tryd.func50 (by kernel_rfl) rfl #[.int .i64 ((rd_T63 l0 x12_1).f0)] rfl (by (try simp only [List.map_toArray, List.map_cons, List.map_nil]); first | done | rfl | (simp only [List.length_drop, List.length_take]; rfl)) ?_; (with_reducible refine (foretellref_looksAhead.calls ((rd_T63 l0 x12_1).f0) false _ A9.out).mono ?_); rintro e w' ⟨rfl, ⟨nd, rfl⟩⟩; refine ⟨_, rfl, ?_⟩))
              go_roundg k1
              case measure => have := HK1.out; omega
              case rel => exact ⟨(x10_1), (x11_1), (wrap64 (x12_1 + 1)), (by first | rfl | (simp; done) | (simp [*]; done)), (by first | rfl | (simp; done) | (simp [*]; done)), (by first | rfl | (simp; done) | (simp [*]; done)), H', ⟨by have := HK1.out; omega⟩, ⟨by (with_reducible repeat (first | apply Kd.R_alloc | apply Kd.R_drewN | apply Kd.R_drew)); exact HO_8.out⟩, ⟨by repeat (first | (with_reducible first | exact HB.out | apply below_alloc | apply pw_below_drewN | apply below_drew1) | exact HB.out)⟩⟩
          · rw [if_neg c8] at H
            exact absurd H (by simp)
        · rw [if_neg c7] at H
          have c7b0 : decide (x12_1 < (l0.length : Int)) = false := decide_eq_false c7
          clear c7
          simp only [Option.some.injEq, Prod.mk.injEq] at H
          obtain ⟨rfl, rfl⟩ := H
          go_wp2
          go_ret2
          exact ⟨by first | rfl | (simp [errW_none, errW_some] <;> rfl) | (simp [*, errW_none, errW_some] <;> rfl), by repeat (first | (with_reducible first | exact HB.out | apply below_alloc | apply pw_below_drewN | apply below_drew1) | exact HB.out)⟩
  · rw [if_neg c5] at H
    have c5b0 : (t241 == 0) = false := beq_eq_false_iff_ne.mpr c5
    have c5b1 : (t241 != 0) = true := bne_iff_ne.mpr c5
    simp only [Option.some.injEq, Prod.mk.injEq] at H
    obtain ⟨rfl, rfl⟩ := H
    go_enter Tryd.func37, Tryd.ntmps37
    go_wp2_with (first | ((with_reducible refine gate_callee (f := 34) rfl ?_); refine goesL_ (some 20) rfl rfl Tryd.func34 (by kernel_rfl) rfl #[.slice A0 l0.length c0, .slice A1 l1.length c1, .int .i64 a2] rfl (by (try simp only [List.map_toArray, List.map_cons, List.map_nil]); first | done | rfl | (simp only [List.length_drop, List.length_take]; rfl)) ?_; (with_reducible refine (foretellref_TruthsOf.calls k _ _ l0 _ _ l1 a2 t240 t241 _ ?side1 ?side2 ?side3 ?side4 A4.out).mono ?_); (case side1 => repeat (first | exact HR0.out | (with_reducible refine Kd.C_alloc ?_ _) | (with_reducible refine Kd.C_drewN ?_ _) | (with_reducible refine Kd.C_drew ?_))); (case side2 => exact HC0.out); (case side3 => repeat (first | exact HR1.out | (with_reducible refine Kd.C_alloc ?_ _) | (with_reducible refine Kd.C_drewN ?_ _) | (with_reducible refine Kd.C_drew ?_))); (case side4 => exact HC1.out); rintro e w75 ⟨v242, rfl, ho0, hb⟩; refine ⟨_, rfl, ?_⟩; have n0_ := Aside0.mk (Kd.R_lower ho0 (below_size (by repeat (first | (with_reducible first | exact HB.out | apply below_alloc | apply pw_below_drewN | apply below_drew1) | exact HB.out)))); have n1_ := Aside0.mk (below_step (by repeat (first | (with_reducible first | exact HB.out | apply below_alloc | apply pw_below_drewN | apply below_drew1) | exact HB.out)) hb); clear HB; have HO243 := n0_; have HB := n1_; clear n0_ n1_; (try clear hb); (try clear hb2); (try clear hk); (try clear hi); (try clear ho0)))
    go_ret2
    exact ⟨by first | rfl | (simp [errW_none, errW_some] <;> rfl) | (simp [*, errW_none, errW_some] <;> rfl), by repeat (first | (with_reducible first | exact HB.out | apply below_alloc | apply pw_below_drewN | apply below_drew1) | exact HB.out)⟩

/-! ### foretelllaw_LogicMeets: function 11 -/
def foretelllaw_LogicMeets.f (k : Nat) (l0 : List (S63)) (l1 : List Bool) (a2 : Int) : Option (Bool) := (foretelllaw_ops.f l0).bind fun t259 => ((foretelllaw_truths.f l1).bind fun t262 => ((logic_Meets.f k t259 t262 a2).bind fun bt265 => ((foretellref_MetBy.f k l0 l1 a2).bind fun bt267 => (if bt265.1 = bt267.1 then (some (bt265.2 == bt267.2)) else (some false)))))
theorem foretelllaw_LogicMeets.mono : ∀ a0 a1 a2 k, LeO (foretelllaw_LogicMeets.f k a0 a1 a2) (foretelllaw_LogicMeets.f (k + 1) a0 a1 a2) := by
  intro a0 a1 a2 k
  unfold foretelllaw_LogicMeets.f
  repeat' first
      | (with_reducible exact foretellref_MetBy.mono _ _ _ _)
      | (with_reducible exact logic_Meets.mono _ _ _ _)
      | (with_reducible exact LeO.refl _)
      | (with_reducible exact LeO.none _)
      | (with_reducible refine LeO.ite ?_ ?_)
      | (with_reducible refine LeO.bind ?_ (fun _ => ?_))
      | exact foretellref_MetBy.mono _ _ _ _
      | exact logic_Meets.mono _ _ _ _
      | exact LeO.none _
      | refine LeO.ite ?_ ?_
      | refine LeO.bind ?_ (fun _ => ?_)
set_option maxHeartbeats 8000000 in
set_option maxRecDepth 100000 in
theorem foretelllaw_LogicMeets.calls (k : Nat) (A0 : Option Addr) (c0 : Nat) (l0 : List (S63)) (A1 : Option Addr) (c1 : Nat) (l1 : List Bool) (a2 : Int) (r : Bool) (w : World) (hr0 : Kd.C k63 w A0 l0.length l0) (hc0 : l0.length ≤ c0) (hr1 : Kd.C Kd.bool w A1 l1.length l1) (hc1 : l1.length ≤ c1) (hL : LaidG w) (h : foretelllaw_LogicMeets.f k l0 l1 a2 = some r) :
    Calls Tryd.prog 11 #[.slice A0 l0.length c0, .slice A1 l1.length c1, .int .i64 a2] w fun e w' => e = .returned (.bool r) ∧ Below w.heap.size w w' := by
  have HLd := Aside0.mk hL
  clear hL
  have HR0 := Aside0.mk hr0
  have HC0 := Aside0.mk hc0
  clear hr0 hc0
  have HR1 := Aside0.mk hr1
  have HC1 := Aside0.mk hc1
  clear hr1 hc1
  have HB := Aside0.mk (Below.refl w.heap.size w)
  have H : ((foretelllaw_ops.f l0).bind fun t259 => ((foretelllaw_truths.f l1).bind fun t262 => ((logic_Meets.f k t259 t262 a2).bind fun bt265 => ((foretellref_MetBy.f k l0 l1 a2).bind fun bt267 => (if bt265.1 = bt267.1 then (some (bt265.2 == bt267.2)) else (some false)))))) = some r := h
  clear h
  replace H := Option.bind_eq_some_iff.mp H
  obtain ⟨t259, A40, H⟩ := H
  replace H : ((foretelllaw_truths.f l1).bind fun t262 => ((logic_Meets.f k t259 t262 a2).bind fun bt265 => ((foretellref_MetBy.f k l0 l1 a2).bind fun bt267 => (if bt265.1 = bt267.1 then (some (bt265.2 == bt267.2)) else (some false))))) = some r := H
  have A4 := Aside0.mk A40
  clear A40
  replace H := Option.bind_eq_some_iff.mp H
  obtain ⟨t262, A50, H⟩ := H
  replace H : ((logic_Meets.f k t259 t262 a2).bind fun bt265 => ((foretellref_MetBy.f k l0 l1 a2).bind fun bt267 => (if bt265.1 = bt267.1 then (some (bt265.2 == bt267.2)) else (some false)))) = some r := H
  have A5 := Aside0.mk A50
  clear A50
  replace H := Option.bind_eq_some_iff.mp H
  obtain ⟨⟨t265, t266⟩, A60, H⟩ := H
  replace H : ((foretellref_MetBy.f k l0 l1 a2).bind fun bt267 => (if t265 = bt267.1 then (some (t266 == bt267.2)) else (some false))) = some r := H
  have A6 := Aside0.mk A60
  clear A60
  replace H := Option.bind_eq_some_iff.mp H
  obtain ⟨⟨t267, t268⟩, A70, H⟩ := H
  replace H : (if t265 = t267 then (some (t266 == t268)) else (some false)) = some r := H
  have A7 := Aside0.mk A70
  clear A70
  by_cases c8 : t265 = t267
  · rw [if_pos c8] at H
    have c8b0 : (t265 == t267) = true := beq_iff_eq.mpr c8
    have c8b1 : (t265 != t267) = false := bne_eq_false_iff_eq.mpr c8
    clear c8
    obtain rfl := Option.some.inj H
    go_enter Tryd.func11, Tryd.ntmps11
    go_wp2_with (first | ((with_reducible refine gate_callee (f := 16) rfl ?_); refine goesL_ (some 13) rfl rfl Tryd.func16 (by kernel_rfl) rfl #[.slice A0 l0.length c0] rfl (by (try simp only [List.map_toArray, List.map_cons, List.map_nil]); first | done | rfl | (simp only [List.length_drop, List.length_take]; rfl)) ?_; (with_reducible refine (foretelllaw_ops.calls _ _ l0 t259 _ ?side1 ?side2 A4.out).mono ?_); (case side1 => repeat (first | exact HR0.out | (with_reducible refine Kd.C_alloc ?_ _) | (with_reducible refine Kd.C_drewN ?_ _) | (with_reducible refine Kd.C_drew ?_))); (case side2 => exact HC0.out); rintro e w9 ⟨v260, rfl, ho0, hb⟩; refine ⟨_, rfl, ?_⟩; have n0_ := Aside0.mk (Kd.R_lower ho0 (below_size (by repeat (first | (with_reducible first | exact HB.out | apply below_alloc | apply pw_below_drewN | apply below_drew1) | exact HB.out)))); have n1_ := Aside0.mk (below_step (by repeat (first | (with_reducible first | exact HB.out | apply below_alloc | apply pw_below_drewN | apply below_drew1) | exact HB.out)) hb); clear HB; have HO261 := n0_; have HB := n1_; clear n0_ n1_; (try clear hb); (try clear hb2); (try clear hk); (try clear hi); (try clear ho0)) | ((with_reducible refine gate_callee (f := 32) rfl ?_); refine goesL_ (some 15) rfl rfl Tryd.func32 (by kernel_rfl) rfl #[.slice A1 l1.length c1] rfl (by (try simp only [List.map_toArray, List.map_cons, List.map_nil]); first | done | rfl | (simp only [List.length_drop, List.length_take]; rfl)) ?_; (with_reducible refine (foretelllaw_truths.calls _ _ l1 t262 _ ?side1 ?side2 A5.out).mono ?_); (case side1 => repeat (first | exact (Kd.C_below HR1.out HB.out) | (with_reducible refine Kd.C_alloc ?_ _) | (with_reducible refine Kd.C_drewN ?_ _) | (with_reducible refine Kd.C_drew ?_))); (case side2 => exact HC1.out); rintro e w10 ⟨v263, rfl, ho0, hb⟩; refine ⟨_, rfl, ?_⟩; have n0_ := Aside0.mk (Kd.R_below (by (with_reducible repeat (first | apply Kd.R_alloc | apply Kd.R_drewN | apply Kd.R_drew)); exact HO261.out) hb); have n1_ := Aside0.mk (Kd.R_lower ho0 (below_size (by repeat (first | (with_reducible first | exact HB.out | apply below_alloc | apply pw_below_drewN | apply below_drew1) | exact HB.out)))); have n2_ := Aside0.mk (below_step (by repeat (first | (with_reducible first | exact HB.out | apply below_alloc | apply pw_below_drewN | apply below_drew1) | exact HB.out)) hb); clear HO261; clear HB; have HO261 := n0_; have HO264 := n1_; have HB := n2_; clear n0_ n1_ n2_; (try clear hb); (try clear hb2); (try clear hk); (try clear hi); (try clear ho0); obtain ⟨Ao11, co11, eo11⟩ := Kd.R_slice HO261.out; subst eo11; obtain ⟨Ao12, co12, eo12⟩ := Kd.R_slice HO264.out; subst eo12) | ((with_reducible refine gate_callee (f := 36) rfl ?_); refine goesL_ (some 17) rfl rfl Tryd.func36 (by kernel_rfl) rfl #[.slice Ao11 t259.length co11, .slice Ao12 t262.length co12, .int .i64 a2] rfl (by (try simp only [List.map_toArray, List.map_cons, List.map_nil]); first | done | rfl | (simp only [List.length_drop, List.length_take]; rfl)) ?_; (with_reducible refine (logic_Meets.calls k _ _ t259 _ _ t262 a2 t265 t266 _ ?side1 ?side2 ?side3 ?side4 ?side5 A6.out).mono ?_); (case side1 => repeat (first | exact (Kd.R_reads' HO261.out).2.2 | (with_reducible refine Kd.C_alloc ?_ _) | (with_reducible refine Kd.C_drewN ?_ _) | (with_reducible refine Kd.C_drew ?_))); (case side2 => exact (Kd.R_reads' HO261.out).2.1); (case side3 => repeat (first | exact (Kd.R_reads' HO264.out).2.2 | (with_reducible refine Kd.C_alloc ?_ _) | (with_reducible refine Kd.C_drewN ?_ _) | (with_reducible refine Kd.C_drew ?_))); (case side4 => exact (Kd.R_reads' HO264.out).2.1); (case side5 => first | (refine LaidG.below HLd.out ?_; repeat (first | (with_reducible exact HB.out) | (with_reducible exact Below.refl _ _) | apply below_alloc | apply pw_below_drewN | apply below_drew1); done) | exact LaidG.below HLd.out (by repeat (first | (with_reducible first | exact HB.out | apply below_alloc | apply pw_below_drewN | apply below_drew1) | exact HB.out))); rintro e w13 ⟨rfl, hb⟩; refine ⟨_, rfl, ?_⟩; have n0_ := Aside0.mk (Kd.R_below (by (with_reducible repeat (first | apply Kd.R_alloc | apply Kd.R_drewN | apply Kd.R_drew)); exact HO261.out) hb); have n1_ := Aside0.mk (Kd.R_below (by (with_reducible repeat (first | apply Kd.R_alloc | apply Kd.R_drewN | apply Kd.R_drew)); exact HO264.out) hb); have n2_ := Aside0.mk (below_step (by repeat (first | (with_reducible first | exact HB.out | apply below_alloc | apply pw_below_drewN | apply below_drew1) | exact HB.out)) hb); clear HO261; clear HO264; clear HB; have HO261 := n0_; have HO264 := n1_; have HB := n2_; clear n0_ n1_ n2_; (try clear hb); (try clear hb2); (try clear hk); (try clear hi)) | ((with_reducible refine gate_callee (f := 37) rfl ?_); refine goesL_ (some 24) rfl rfl Tryd.func37 (by kernel_rfl) rfl #[.slice A0 l0.length c0, .slice A1 l1.length c1, .int .i64 a2] rfl (by (try simp only [List.map_toArray, List.map_cons, List.map_nil]); first | done | rfl | (simp only [List.length_drop, List.length_take]; rfl)) ?_; (with_reducible refine (foretellref_MetBy.calls k _ _ l0 _ _ l1 a2 t267 t268 _ ?side1 ?side2 ?side3 ?side4 A7.out).mono ?_); (case side1 => repeat (first | exact (Kd.C_below HR0.out HB.out) | (with_reducible refine Kd.C_alloc ?_ _) | (with_reducible refine Kd.C_drewN ?_ _) | (with_reducible refine Kd.C_drew ?_))); (case side2 => exact HC0.out); (case side3 => repeat (first | exact (Kd.C_below HR1.out HB.out) | (with_reducible refine Kd.C_alloc ?_ _) | (with_reducible refine Kd.C_drewN ?_ _) | (with_reducible refine Kd.C_drew ?_))); (case side4 => exact HC1.out); rintro e w14 ⟨rfl, hb⟩; refine ⟨_, rfl, ?_⟩; have n0_ := Aside0.mk (Kd.R_below (by (with_reducible repeat (first | apply Kd.R_alloc | apply Kd.R_drewN | apply Kd.R_drew)); exact HO261.out) hb); have n1_ := Aside0.mk (Kd.R_below (by (with_reducible repeat (first | apply Kd.R_alloc | apply Kd.R_drewN | apply Kd.R_drew)); exact HO264.out) hb); have n2_ := Aside0.mk (below_step (by repeat (first | (with_reducible first | exact HB.out | apply below_alloc | apply pw_below_drewN | apply below_drew1) | exact HB.out)) hb); clear HO261; clear HO264; clear HB; have HO261 := n0_; have HO264 := n1_; have HB := n2_; clear n0_ n1_ n2_; (try clear hb); (try clear hb2); (try clear hk); (try clear hi)))
    go_ret
    exact ⟨by first | rfl | (simp [errW_none, errW_some] <;> rfl) | (simp [*, errW_none, errW_some] <;> rfl), by repeat (first | (with_reducible first | exact HB.out | apply below_alloc | apply pw_below_drewN | apply below_drew1) | exact HB.out)⟩
  · rw [if_neg c8] at H
    have c8b0 : (t265 == t267) = false := beq_eq_false_iff_ne.mpr c8
    have c8b1 : (t265 != t267) = true := bne_iff_ne.mpr c8
    obtain rfl := Option.some.inj H
    go_enter Tryd.func11, Tryd.ntmps11
    go_wp2_with (first | ((with_reducible refine gate_callee (f := 16) rfl ?_); refine goesL_ (some 13) rfl rfl Tryd.func16 (by kernel_rfl) rfl #[.slice A0 l0.length c0] rfl (by (try simp only [List.map_toArray, List.map_cons, List.map_nil]); first | done | rfl | (simp only [List.length_drop, List.length_take]; rfl)) ?_; (with_reducible refine (foretelllaw_ops.calls _ _ l0 t259 _ ?side1 ?side2 A4.out).mono ?_); (case side1 => repeat (first | exact HR0.out | (with_reducible refine Kd.C_alloc ?_ _) | (with_reducible refine Kd.C_drewN ?_ _) | (with_reducible refine Kd.C_drew ?_))); (case side2 => exact HC0.out); rintro e w15 ⟨v260, rfl, ho0, hb⟩; refine ⟨_, rfl, ?_⟩; have n0_ := Aside0.mk (Kd.R_lower ho0 (below_size (by repeat (first | (with_reducible first | exact HB.out | apply below_alloc | apply pw_below_drewN | apply below_drew1) | exact HB.out)))); have n1_ := Aside0.mk (below_step (by repeat (first | (with_reducible first | exact HB.out | apply below_alloc | apply pw_below_drewN | apply below_drew1) | exact HB.out)) hb); clear HB; have HO261 := n0_; have HB := n1_; clear n0_ n1_; (try clear hb); (try clear hb2); (try clear hk); (try clear hi); (try clear ho0)) | ((with_reducible refine gate_callee (f := 32) rfl ?_); refine goesL_ (some 15) rfl rfl Tryd.func32 (by kernel_rfl) rfl #[.slice A1 l1.length c1] rfl (by (try simp only [List.map_toArray, List.map_cons, List.map_nil]); first | done | rfl | (simp only [List.length_drop, List.length_take]; rfl)) ?_; (with_reducible refine (foretelllaw_truths.calls _ _ l1 t262 _ ?side1 ?side2 A5.out).mono ?_); (case side1 => repeat (first | exact (Kd.C_below HR1.out HB.out) | (with_reducible refine Kd.C_alloc ?_ _) | (with_reducible refine Kd.C_drewN ?_ _) | (with_reducible refine Kd.C_drew ?_))); (case side2 => exact HC1.out); rintro e w16 ⟨v263, rfl, ho0, hb⟩; refine ⟨_, rfl, ?_⟩; have n0_ := Aside0.mk (Kd.R_below (by (with_reducible repeat (first | apply Kd.R_alloc | apply Kd.R_drewN | apply Kd.R_drew)); exact HO261.out) hb); have n1_ := Aside0.mk (Kd.R_lower ho0 (below_size (by repeat (first | (with_reducible first | exact HB.out | apply below_alloc | apply pw_below_drewN | apply below_drew1) | exact HB.out)))); have n2_ := Aside0.mk (below_step (by repeat (first | (with_reducible first | exact HB.out | apply below_alloc | apply pw_below_drewN | apply below_drew1) | exact HB.out)) hb); clear HO261; clear HB; have HO261 := n0_; have HO264 := n1_; have HB := n2_; clear n0_ n1_ n2_; (try clear hb); (try clear hb2); (try clear hk); (try clear hi); (try clear ho0); obtain ⟨Ao17, co17, eo17⟩ := Kd.R_slice HO261.out; subst eo17; obtain ⟨Ao18, co18, eo18⟩ := Kd.R_slice HO264.out; subst eo18) | ((with_reducible refine gate_callee (f := 36) rfl ?_); refine goesL_ (some 17) rfl rfl Tryd.func36 (by kernel_rfl) rfl #[.slice Ao17 t259.length co17, .slice Ao18 t262.length co18, .int .i64 a2] rfl (by (try simp only [List.map_toArray, List.map_cons, List.map_nil]); first | done | rfl | (simp only [List.length_drop, List.length_take]; rfl)) ?_; (with_reducible refine (logic_Meets.calls k _ _ t259 _ _ t262 a2 t265 t266 _ ?side1 ?side2 ?side3 ?side4 ?side5 A6.out).mono ?_); (case side1 => repeat (first | exact (Kd.R_reads' HO261.out).2.2 | (with_reducible refine Kd.C_alloc ?_ _) | (with_reducible refine Kd.C_drewN ?_ _) | (with_reducible refine Kd.C_drew ?_))); (case side2 => exact (Kd.R_reads' HO261.out).2.1); (case side3 => repeat (first | exact (Kd.R_reads' HO264.out).2.2 | (with_reducible refine Kd.C_alloc ?_ _) | (with_reducible refine Kd.C_drewN ?_ _) | (with_reducible refine Kd.C_drew ?_))); (case side4 => exact (Kd.R_reads' HO264.out).2.1); (case side5 => first | (refine LaidG.below HLd.out ?_; repeat (first | (with_reducible exact HB.out) | (with_reducible exact Below.refl _ _) | apply below_alloc | apply pw_below_drewN | apply below_drew1); done) | exact LaidG.below HLd.out (by repeat (first | (with_reducible first | exact HB.out | apply below_alloc | apply pw_below_drewN | apply below_drew1) | exact HB.out))); rintro e w19 ⟨rfl, hb⟩; refine ⟨_, rfl, ?_⟩; have n0_ := Aside0.mk (Kd.R_below (by (with_reducible repeat (first | apply Kd.R_alloc | apply Kd.R_drewN | apply Kd.R_drew)); exact HO261.out) hb); have n1_ := Aside0.mk (Kd.R_below (by (with_reducible repeat (first | apply Kd.R_alloc | apply Kd.R_drewN | apply Kd.R_drew)); exact HO264.out) hb); have n2_ := Aside0.mk (below_step (by repeat (first | (with_reducible first | exact HB.out | apply below_alloc | apply pw_below_drewN | apply below_drew1) | exact HB.out)) hb); clear HO261; clear HO264; clear HB; have HO261 := n0_; have HO264 := n1_; have HB := n2_; clear n0_ n1_ n2_; (try clear hb); (try clear hb2); (try clear hk); (try clear hi)) | ((with_reducible refine gate_callee (f := 37) rfl ?_); refine goesL_ (some 24) rfl rfl Tryd.func37 (by kernel_rfl) rfl #[.slice A0 l0.length c0, .slice A1 l1.length c1, .int .i64 a2] rfl (by (try simp only [List.map_toArray, List.map_cons, List.map_nil]); first | done | rfl | (simp only [List.length_drop, List.length_take]; rfl)) ?_; (with_reducible refine (foretellref_MetBy.calls k _ _ l0 _ _ l1 a2 t267 t268 _ ?side1 ?side2 ?side3 ?side4 A7.out).mono ?_); (case side1 => repeat (first | exact (Kd.C_below HR0.out HB.out) | (with_reducible refine Kd.C_alloc ?_ _) | (with_reducible refine Kd.C_drewN ?_ _) | (with_reducible refine Kd.C_drew ?_))); (case side2 => exact HC0.out); (case side3 => repeat (first | exact (Kd.C_below HR1.out HB.out) | (with_reducible refine Kd.C_alloc ?_ _) | (with_reducible refine Kd.C_drewN ?_ _) | (with_reducible refine Kd.C_drew ?_))); (case side4 => exact HC1.out); rintro e w20 ⟨rfl, hb⟩; refine ⟨_, rfl, ?_⟩; have n0_ := Aside0.mk (Kd.R_below (by (with_reducible repeat (first | apply Kd.R_alloc | apply Kd.R_drewN | apply Kd.R_drew)); exact HO261.out) hb); have n1_ := Aside0.mk (Kd.R_below (by (with_reducible repeat (first | apply Kd.R_alloc | apply Kd.R_drewN | apply Kd.R_drew)); exact HO264.out) hb); have n2_ := Aside0.mk (below_step (by repeat (first | (with_reducible first | exact HB.out | apply below_alloc | apply pw_below_drewN | apply below_drew1) | exact HB.out)) hb); clear HO261; clear HO264; clear HB; have HO261 := n0_; have HO264 := n1_; have HB := n2_; clear n0_ n1_ n2_; (try clear hb); (try clear hb2); (try clear hk); (try clear hi)))
    go_ret
    exact ⟨by first | rfl | (simp [errW_none, errW_some] <;> rfl) | (simp [*, errW_none, errW_some] <;> rfl), by repeat (first | (with_reducible first | exact HB.out | apply below_alloc | apply pw_below_drewN | apply below_drew1) | exact HB.out)⟩

end Go.Proofs.YtmlkkpkaaicobaaDoor.L
