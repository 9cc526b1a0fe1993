-- WRITTEN by this session's own program (wip/pp.py) over the translation. Not trusted: Lean checks it.
import Derived.Test.YtmohdnlnbpbfcaaQx0
import Derived.Test.YtmohdnlnbpbfcaaQx20
namespace Go.Proofs.Ytmohdnlnbpbfcaa.Q
open Go.RowKit Go.Proofs.YtmohdnlnbpbfcaaW.PrintWords Go.Proofs.YtmohdnlnbpbfcaaW.PrintLast Go.Proofs.YtmohdnlnbpbfcaaW.PrintMore
attribute [local go_sem] max2_int min2_int max_two min_two max_three min_three max_four min_four   -- for this text's walks alone
set_option linter.unusedVariables false
set_option linter.unusedSimpArgs false

/-! ### tape_Sync: function 23 -/
section
open Go.Proofs.Ytmohdnlnbpbfcaa.Hand
def tape_Sync.f (l0_0 : List Int) (a0_1 : Int) : Option (List Int × Int × Int) := (tape_open.f l0_0 a0_1).bind fun t => if t.2.2 = true then some (t.1, (t.1.length : Int), 0) else some (([] : List Int), 0, 9)
theorem tape_Sync.calls (A0_0 : Option Addr) (c0_0 : Nat) (l0_0 : List Int) (a0_1 : Int) (r1 : List Int) (r2 : Int) (r3 : Int) (w : World) (hr0_0 : Kd.C (Kd.int .u8) w A0_0 l0_0.length l0_0) (hc0_0 : l0_0.length ≤ c0_0) (h : tape_Sync.f l0_0 a0_1 = some (r1, r2, r3)) :
    Calls Try.prog 23 #[.agg #[.slice A0_0 l0_0.length c0_0, .int .i64 a0_1]] w fun e w' => ∃ v0_ : Value, e = .returned (.tuple #[.agg #[v0_, .int .i64 r2], .int .i64 r3]) ∧ Kd.R (Kd.int .u8) 5 w' w.heap.size (fun _ => True) v0_ r1 ∧ Below w.heap.size w w' := by
  obtain ⟨⟨t210, t213, t214⟩, hA, h⟩ := Option.bind_eq_some_iff.mp h
  have hu43 := Try.underlying43
  have HR := Aside0.mk hr0_0
  have HC := Aside0.mk hc0_0
  have HA := Aside0.mk hA
  clear hr0_0 hc0_0 hA
  cases t214 with
  | true =>
    simp only [if_true, Option.some.injEq, Prod.mk.injEq] at h
    obtain ⟨rfl, rfl, rfl⟩ := h
    go_enter Try.func23, Try.ntmps23
    go_wp2_with (go_at_call 39; refine (tape_open.calls A0_0 c0_0 l0_0 a0_1 t210 t213 true _ ?h1 HC.out HA.out).mono ?_; (case h1 => exact Kd.C_below HR.out (by repeat (first | exact Below.refl _ _ | apply below_alloc | apply pw_below_drewN | apply below_drew1))); rintro e w' ⟨v0, rfl, ho, hb⟩; obtain ⟨A, c, rfl⟩ := Kd.R_slice ho; have HO := Aside0.mk ho; have HB := Aside0.mk hb; obtain ⟨hc, hf⟩ := bcell hb; have hz : w.heap.size + 1 < w'.heap.size := (by have := hb.size; simp at this; omega); clear ho hb)
    refine bodyPost_ret (v := .tuple #[.agg #[.slice A t210.length c, .int .i64 t210.length], .int .i64 0]) (by simp [results, Try.results23, go_sem, hc, hz]) rfl ⟨_, rfl, ?_, ?_⟩
    · exact Kd.R_alloc (Kd.R_lower (R_setb (R_setb HO.out (by simp) _) (by simp) _) (by simp; omega)) _
    · exact below_alloc (below_set (below_set (below_then (below_alloc (below_alloc (Below.refl _ _) _) _) (by simp; omega) HB.out) (by simp)) (by simp)) _
  | false =>
    simp only [if_neg (show ¬ (false = true) by decide), Option.some.injEq, Prod.mk.injEq] at h
    obtain ⟨rfl, rfl, rfl⟩ := h
    go_enter Try.func23, Try.ntmps23
    go_wp2_with (go_at_call 39; refine (tape_open.calls A0_0 c0_0 l0_0 a0_1 t210 t213 false _ ?h1 HC.out HA.out).mono ?_; (case h1 => exact Kd.C_below HR.out (by repeat (first | exact Below.refl _ _ | apply below_alloc | apply pw_below_drewN | apply below_drew1))); rintro e w' ⟨v0, rfl, ho, hb⟩; obtain ⟨A, c, rfl⟩ := Kd.R_slice ho; have HO := Aside0.mk ho; have HB := Aside0.mk hb; obtain ⟨hc, hf⟩ := bcell hb; have hz : w.heap.size + 1 < w'.heap.size := (by have := hb.size; simp at this; omega); clear ho hb)
    refine bodyPost_ret (v := .tuple #[.agg #[.slice none 0 0, .int .i64 0], .int .i64 9]) (by simp [results, Try.results23, go_sem, hc, hz]) rfl ⟨_, rfl, Kd.R_nil _ _ _ _ _, ?_⟩
    exact below_alloc (below_set (below_set (below_then (below_alloc (below_alloc (Below.refl _ _) _) _) (by simp; omega) HB.out) (by simp)) (by simp)) _
end

end Go.Proofs.Ytmohdnlnbpbfcaa.Q
