-- WRITTEN by this session's own program (wip/pp.py) over the translation. Not trusted: Lean checks it.
import Derived.Test.YtmohdnlnbpbfcaaQx0
import Derived.Test.YtmohdnlnbpbfcaaQx20
namespace Go.Proofs.Ytmohdnlnbpbfcaa.Q
open Go.RowKit Go.Proofs.YtmohdnlnbpbfcaaW.PrintWords Go.Proofs.YtmohdnlnbpbfcaaW.PrintLast Go.Proofs.YtmohdnlnbpbfcaaW.PrintMore
attribute [local go_sem] max2_int min2_int max_two min_two max_three min_three max_four min_four   -- for this text's walks alone
set_option linter.unusedVariables false
set_option linter.unusedSimpArgs false

/-! ### tape_Crash: function 26 -/
section
open Go.Proofs.Ytmohdnlnbpbfcaa.Hand
def tape_Crash.f (l0_0 : List Int) (a0_1 : Int) (a1 : Int) : Option (List Int × Int × Int) := (tape_open.f l0_0 a0_1).bind fun t => if t.2.2 = true then (if a1 < 0 then some (([] : List Int), 0, 2) else if 0 ≤ t.2.1 ∧ t.2.1 ≤ (t.1.length : Int) ∧ a1 ≤ 9223372036854775807 then some (t.1.take (t.2.1 + mn a1 ((t.1.length : Int) - t.2.1)).toNat, t.2.1 + mn a1 ((t.1.length : Int) - t.2.1), 0) else none) else some (([] : List Int), 0, 9)
theorem tape_Crash.calls (A0_0 : Option Addr) (c0_0 : Nat) (l0_0 : List Int) (a0_1 : Int) (a1 : Int) (r1 : List Int) (r2 : Int) (r3 : Int) (w : World) (hr0_0 : Kd.C (Kd.int .u8) w A0_0 l0_0.length l0_0) (hc0_0 : l0_0.length ≤ c0_0) (h : tape_Crash.f l0_0 a0_1 a1 = some (r1, r2, r3)) :
    Calls Try.prog 26 #[.agg #[.slice A0_0 l0_0.length c0_0, .int .i64 a0_1], .int .i64 a1] w fun e w' => ∃ v0_ : Value, e = .returned (.tuple #[.agg #[v0_, .int .i64 r2], .int .i64 r3]) ∧ Kd.V (Kd.int .u8) 5 w' w.heap.size (fun k_ => (w.heap.size ≤ k_)) v0_ r1 ∧ Below w.heap.size w w' := by
  obtain ⟨⟨t210, t213, t214⟩, hA, h⟩ := Option.bind_eq_some_iff.mp h
  have hu43 := Try.underlying43
  have HR := Aside0.mk hr0_0
  have HC := Aside0.mk hc0_0
  have HA := Aside0.mk hA
  clear hr0_0 hc0_0 hA
  cases t214 with
  | true =>
    simp only [if_true] at h
    by_cases hk : a1 < 0
    · rw [if_pos hk] at h
      simp only [Option.some.injEq, Prod.mk.injEq] at h
      obtain ⟨rfl, rfl, rfl⟩ := h
      go_enter Try.func26, Try.ntmps26
      go_wp2_with (go_at_call 39; refine (tape_open.calls A0_0 c0_0 l0_0 a0_1 t210 t213 true _ ?h1 HC.out HA.out).mono ?_; (case h1 => exact Kd.C_below HR.out (by repeat (first | exact Below.refl _ _ | apply below_alloc | apply pw_below_drewN | apply below_drew1))); rintro e w' ⟨v0, rfl, ho, hb⟩; obtain ⟨A, c, rfl⟩ := Kd.R_slice ho; have HO := Aside0.mk ho; have HB := Aside0.mk hb; obtain ⟨hc, hf⟩ := bcell hb; have hz : w.heap.size + 1 < w'.heap.size := (by have := hb.size; simp at this; omega); clear ho hb)
      refine bodyPost_ret (v := .tuple #[.agg #[.slice none 0 0, .int .i64 0], .int .i64 2]) (by simp [results, Try.results26, go_sem, hc, hz]) rfl ⟨_, rfl, Kd.V_nil _ _ _ _ _, ?_⟩
      exact below_alloc (below_set (below_set (below_then (below_alloc (below_alloc (Below.refl _ _) _) _) (by simp; omega) HB.out) (by simp)) (by simp)) _
    · rw [if_neg hk] at h
      split at h
      case isFalse => cases h
      case isTrue hq =>
      obtain ⟨q0, q1, q2⟩ := hq
      simp only [Option.some.injEq, Prod.mk.injEq] at h
      obtain ⟨rfl, rfl, rfl⟩ := h
      obtain ⟨n, hn⟩ : ∃ n : Int, n = t213 + mn a1 ((t210.length : Int) - t213) := ⟨_, rfl⟩
      have hn0 : 0 ≤ n := by rw [hn]; unfold mn; split <;> omega
      have hn1 : n ≤ (t210.length : Int) := by rw [hn]; unfold mn; split <;> omega
      have hnl : t213 ≤ n := by rw [hn]; unfold mn; split <;> omega
      have HA1 : Aside0 (a1 ≤ (t210.length : Int) - t213 → t213 + a1 = n) := ⟨fun hq => by rw [hn]; unfold mn; rw [if_neg (by omega)]⟩
      have HA2 : Aside0 (¬ a1 ≤ (t210.length : Int) - t213 → (t210.length : Int) = n) := ⟨fun hq => by rw [hn]; unfold mn; rw [if_pos (by omega)]; omega⟩
      rw [← hn]
      clear hn
      go_enter Try.func26, Try.ntmps26
      go_wp2_with (go_at_call 39; refine (tape_open.calls A0_0 c0_0 l0_0 a0_1 t210 t213 true _ ?h1 HC.out HA.out).mono ?_; (case h1 => exact Kd.C_below HR.out (by repeat (first | exact Below.refl _ _ | apply below_alloc | apply pw_below_drewN | apply below_drew1))); rintro e w' ⟨v0, rfl, ho, hb⟩; obtain ⟨A, c, rfl⟩ := Kd.R_slice ho; have HO := Aside0.mk ho; have HB := Aside0.mk hb; obtain ⟨hc, hf⟩ := bcell hb; have hz : w.heap.size + 1 < w'.heap.size := (by have := hb.size; simp at this; omega); have hcap : (t210.length : Int) ≤ c := (by have := (Kd.R_reads' ho).2.1; omega); have hmax : (t210.length : Int) ≤ 9223372036854775807 := (by have := (Kd.R_reads' ho).2.2.2.1; omega); clear ho hb)
      · have e1 : (t210.length : Int) = n := HA2.out (by omega)
        clear hnl hn0 hn1
        subst e1
        refine bodyPost_ret (v := .tuple #[.agg #[.slice A t210.length t210.length, .int .i64 (t210.length : Int)], .int .i64 0]) (by simp [results, Try.results26, go_sem, hc, hz]; omega) rfl ⟨_, rfl, ?_, ?_⟩
        · have := V_cut (base' := w.heap.size) HO.out t210.length t210.length (by omega) rfl
          simp only [Int.toNat_natCast]
          exact Kd.V_mono (Kd.V_alloc (Kd.V_far (Kd.V_far this (by simp; omega) _) (by simp; omega) _) _) (by simp; omega)
        · exact below_alloc (below_set (below_set (below_then (below_alloc (below_alloc (Below.refl _ _) _) _) (by simp; omega) HB.out) (by simp)) (by simp)) _
      · have e1 : t213 + a1 = n := HA1.out (by assumption)
        subst e1
        refine bodyPost_ret (v := .tuple #[.agg #[.slice A (t213 + a1).toNat (t213 + a1).toNat, .int .i64 (t213 + a1)], .int .i64 0]) (by simp [results, Try.results26, go_sem, hc, hz]) rfl ⟨_, rfl, ?_, ?_⟩
        · exact Kd.V_mono (Kd.V_alloc (Kd.V_far (Kd.V_far (V_cut HO.out (t213 + a1).toNat _ (by omega) rfl) (by simp; omega) _) (by simp; omega) _) _) (by simp; omega)
        · exact below_alloc (below_set (below_set (below_then (below_alloc (below_alloc (Below.refl _ _) _) _) (by simp; omega) HB.out) (by simp)) (by simp)) _
  | false =>
    simp only [if_neg (show ¬ (false = true) by decide), Option.some.injEq, Prod.mk.injEq] at h
    obtain ⟨rfl, rfl, rfl⟩ := h
    go_enter Try.func26, Try.ntmps26
    go_wp2_with (go_at_call 39; refine (tape_open.calls A0_0 c0_0 l0_0 a0_1 t210 t213 false _ ?h1 HC.out HA.out).mono ?_; (case h1 => exact Kd.C_below HR.out (by repeat (first | exact Below.refl _ _ | apply below_alloc | apply pw_below_drewN | apply below_drew1))); rintro e w' ⟨v0, rfl, ho, hb⟩; obtain ⟨A, c, rfl⟩ := Kd.R_slice ho; have HO := Aside0.mk ho; have HB := Aside0.mk hb; obtain ⟨hc, hf⟩ := bcell hb; have hz : w.heap.size + 1 < w'.heap.size := (by have := hb.size; simp at this; omega); clear ho hb)
    refine bodyPost_ret (v := .tuple #[.agg #[.slice none 0 0, .int .i64 0], .int .i64 9]) (by simp [results, Try.results26, go_sem, hc, hz]) rfl ⟨_, rfl, Kd.V_nil _ _ _ _ _, ?_⟩
    exact below_alloc (below_set (below_set (below_then (below_alloc (below_alloc (Below.refl _ _) _) _) (by simp; omega) HB.out) (by simp)) (by simp)) _

end

end Go.Proofs.Ytmohdnlnbpbfcaa.Q
