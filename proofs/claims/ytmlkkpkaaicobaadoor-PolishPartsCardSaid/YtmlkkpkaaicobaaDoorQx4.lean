-- WRITTEN by this session's own program (wip/pp.py) over the translation. Not trusted: Lean checks it.
import Derived.Test.YtmlkkpkaaicobaaDoorQx0
import Derived.Test.YtmlkkpkaaicobaaDoorQx2
import Derived.Test.YtmlkkpkaaicobaaDoorQx3
namespace Go.Proofs.YtmlkkpkaaicobaaDoor.Q
open Go.RowKit Go.Proofs.YtmlkkpkaaicobaaDoorW.PrintWords Go.Proofs.YtmlkkpkaaicobaaDoorW.PrintLast Go.Proofs.YtmlkkpkaaicobaaDoorW.PrintMore
attribute [local go_sem] max2_int min2_int max_two min_two max_three min_three max_four min_four   -- for this text's walks alone
set_option linter.unusedVariables false
set_option linter.unusedSimpArgs false

/-! ### foretelllaw_PolishParts: function 3 -/
def foretelllaw_PolishParts.f (k : Nat) (a0 : Int) : Option (Bool) := (polish_Parts.f a0).bind fun bt101 => ((foretellref_PartsOf.f k a0).bind fun bt103 => (if bt101.1 = bt103.1 then (some (bt101.2 == bt103.2)) else (some false)))
theorem foretelllaw_PolishParts.mono : ∀ a0 k, LeO (foretelllaw_PolishParts.f k a0) (foretelllaw_PolishParts.f (k + 1) a0) := by
  intro a0 k
  unfold foretelllaw_PolishParts.f
  repeat' first
      | (with_reducible exact foretellref_PartsOf.mono _ _)
      | (with_reducible exact LeO.refl _)
      | (with_reducible exact LeO.none _)
      | (with_reducible refine LeO.ite ?_ ?_)
      | (with_reducible refine LeO.bind ?_ (fun _ => ?_))
      | exact foretellref_PartsOf.mono _ _
      | exact LeO.none _
      | refine LeO.ite ?_ ?_
      | refine LeO.bind ?_ (fun _ => ?_)
set_option maxHeartbeats 8000000 in
set_option maxRecDepth 100000 in
theorem foretelllaw_PolishParts.calls (k : Nat) (a0 : Int) (r : Bool) (w : World) (hL : LaidG w) (h : foretelllaw_PolishParts.f k a0 = some r) :
    Calls Tryd.prog 3 #[.int .i64 a0] w fun e w' => e = .returned (.bool r) ∧ Drawn0 w w' := by
  have HLd := Aside0.mk hL
  clear hL
  have H : ((polish_Parts.f a0).bind fun bt101 => ((foretellref_PartsOf.f k a0).bind fun bt103 => (if bt101.1 = bt103.1 then (some (bt101.2 == bt103.2)) else (some false)))) = some r := h
  clear h
  replace H := Option.bind_eq_some_iff.mp H
  obtain ⟨⟨t101, t102⟩, A20, H⟩ := H
  replace H : ((foretellref_PartsOf.f k a0).bind fun bt103 => (if t101 = bt103.1 then (some (t102 == bt103.2)) else (some false))) = some r := H
  have A2 := Aside0.mk A20
  clear A20
  replace H := Option.bind_eq_some_iff.mp H
  obtain ⟨⟨t103, t104⟩, A30, H⟩ := H
  replace H : (if t101 = t103 then (some (t102 == t104)) else (some false)) = some r := H
  have A3 := Aside0.mk A30
  clear A30
  by_cases c4 : t101 = t103
  · rw [if_pos c4] at H
    have c4b0 : (t101 == t103) = true := beq_iff_eq.mpr c4
    have c4b1 : (t101 != t103) = false := bne_eq_false_iff_eq.mpr c4
    clear c4
    obtain rfl := Option.some.inj H
    go_enter Tryd.func3, Tryd.ntmps3
    go_wp2_with (first | ((with_reducible refine gate_callee (f := 14) rfl ?_); refine goesL_ (some 9) rfl rfl Tryd.func14 (by kernel_rfl) rfl #[.int .i64 a0] rfl (by (try simp only [List.map_toArray, List.map_cons, List.map_nil]); first | done | rfl | (simp only [List.length_drop, List.length_take]; rfl)) ?_; (with_reducible refine (polish_Parts.calls a0 t101 t102 _ ?side1 A2.out).mono ?_); (case side1 => first | exact LaidG.below HLd.out (by repeat (first | exact Below.refl _ _ | apply below_alloc | apply pw_below_drewN | apply below_drew1)) | exact LaidG.below HLd.out (by repeat (first | (with_reducible first | exact HB.out | apply below_alloc | apply pw_below_drewN | apply below_drew1) | exact HB.out))); rintro e w' ⟨rfl, ⟨nd, rfl⟩⟩; refine ⟨_, rfl, ?_⟩) | ((with_reducible refine gate_callee (f := 15) rfl ?_); refine goesL_ (some 14) rfl rfl Tryd.func15 (by kernel_rfl) rfl #[.int .i64 a0] rfl (by (try simp only [List.map_toArray, List.map_cons, List.map_nil]); first | done | rfl | (simp only [List.length_drop, List.length_take]; rfl)) ?_; (with_reducible refine (foretellref_PartsOf.calls k a0 t103 t104 _ A3.out).mono ?_); rintro e w' ⟨rfl, ⟨nd, rfl⟩⟩; refine ⟨_, rfl, ?_⟩))
    go_ret
    exact ⟨by first | rfl | (simp; done) | (simp [*]; done), by repeat (first | exact Drawn0.refl _ | apply Drawn0.step)⟩
  · rw [if_neg c4] at H
    have c4b0 : (t101 == t103) = false := beq_eq_false_iff_ne.mpr c4
    have c4b1 : (t101 != t103) = true := bne_iff_ne.mpr c4
    obtain rfl := Option.some.inj H
    go_enter Tryd.func3, Tryd.ntmps3
    go_wp2_with (first | ((with_reducible refine gate_callee (f := 14) rfl ?_); refine goesL_ (some 9) rfl rfl Tryd.func14 (by kernel_rfl) rfl #[.int .i64 a0] rfl (by (try simp only [List.map_toArray, List.map_cons, List.map_nil]); first | done | rfl | (simp only [List.length_drop, List.length_take]; rfl)) ?_; (with_reducible refine (polish_Parts.calls a0 t101 t102 _ ?side1 A2.out).mono ?_); (case side1 => first | exact LaidG.below HLd.out (by repeat (first | exact Below.refl _ _ | apply below_alloc | apply pw_below_drewN | apply below_drew1)) | exact LaidG.below HLd.out (by repeat (first | (with_reducible first | exact HB.out | apply below_alloc | apply pw_below_drewN | apply below_drew1) | exact HB.out))); rintro e w' ⟨rfl, ⟨nd, rfl⟩⟩; refine ⟨_, rfl, ?_⟩) | ((with_reducible refine gate_callee (f := 15) rfl ?_); refine goesL_ (some 14) rfl rfl Tryd.func15 (by kernel_rfl) rfl #[.int .i64 a0] rfl (by (try simp only [List.map_toArray, List.map_cons, List.map_nil]); first | done | rfl | (simp only [List.length_drop, List.length_take]; rfl)) ?_; (with_reducible refine (foretellref_PartsOf.calls k a0 t103 t104 _ A3.out).mono ?_); rintro e w' ⟨rfl, ⟨nd, rfl⟩⟩; refine ⟨_, rfl, ?_⟩))
    go_ret
    exact ⟨by first | rfl | (simp; done) | (simp [*]; done), by repeat (first | exact Drawn0.refl _ | apply Drawn0.step)⟩

end Go.Proofs.YtmlkkpkaaicobaaDoor.Q
