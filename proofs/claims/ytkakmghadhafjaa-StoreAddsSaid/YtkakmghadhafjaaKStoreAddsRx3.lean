-- Cut by a program of this session (wip/prune.py) from a longer text: declarations that the law does not need are left out.
import Derived.Test.YtkakmghadhafjaaKStoreAddsRx0
namespace Go.Proofs.Ytkakmghadhafjaa.R
open Go.RowKit Go.Proofs.YtkakmghadhafjaaW.PrintWords Go.Proofs.YtkakmghadhafjaaW.PrintLast Go.Proofs.YtkakmghadhafjaaW.PrintMore
attribute [local go_sem] max2_int min2_int max_two min_two max_three min_three max_four min_four
set_option linter.unusedVariables false
set_option linter.unusedSimpArgs false
section
open Go.Proofs.Ytkakmghadhafjaa.Hand
def badK (x : Int) : Bool := !(decide (0 ≤ x) && decide (x ≤ 2147483647))
theorem key_calls (x : Int) (w : World) : Calls Try.prog 62 #[.int .i64 x] w fun e w' => e = .returned (.bool (!(badK x))) ∧ w' = w := by
  unfold badK
  by_cases h0 : 0 ≤ x
  · by_cases h1 : x ≤ 2147483647
    · have q0 : decide (x ≥ 0) = true := decide_eq_true h0
      have q1 : decide (x ≤ 2147483647) = true := decide_eq_true h1
      go_enter Try.func62, Try.ntmps62
      go_wp2
      go_ret
      exact ⟨by simp [h0, h1], rfl⟩
    · have q0 : decide (x ≥ 0) = true := decide_eq_true h0
      have q1 : decide (x ≤ 2147483647) = false := decide_eq_false h1
      go_enter Try.func62, Try.ntmps62
      go_wp2
      go_ret
      exact ⟨by simp [h0, h1], rfl⟩
  · have q0 : decide (x ≥ 0) = false := decide_eq_false h0
    go_enter Try.func62, Try.ntmps62
    go_wp2
    go_ret
    exact ⟨by simp [h0], rfl⟩
theorem bad_calls (x : Int) (w : World) : Calls Try.prog 61 #[.int .i64 x] w fun e w' => e = .returned (.bool (badK x)) ∧ w' = w := by
  go_enter Try.func61, Try.ntmps61
  go_wp2_with (go_at_call 62; refine (key_calls _ _).mono ?_; rintro e w' ⟨rfl, rfl⟩)
  go_ret
  exact ⟨by simp, rfl⟩
def IdxOf (l : List Int) (w : World) (e : Ending) (w' : World) : Prop := ∃ j : Int, (0 ≤ j ↔ l.any badK = true) ∧ e = .returned (.int .i64 j) ∧ w' = w
theorem any_take (l : List Int) (t : Nat) (h : t < l.length) : (l.take (t + 1)).any badK = ((l.take t).any badK || badK (rd l (t : Int))) := by
  rw [List.take_succ_eq_append_getElem h, List.any_append]
  simp [rd, h]
set_option maxHeartbeats 1000000 in
theorem index_calls (A : Option Addr) (c : Nat) (l : List Int) (w : World) (hC : Kd.C (Kd.int .i64) w A l.length l) (hl : l.length ≤ 9223372036854775806) : Calls Try.prog 77 #[.slice A l.length c, .func (.func 61) #[] #[]] w (IdxOf l w) := by
  have HC := Aside0.mk hC
  have HL := Aside0.mk hl
  clear hC hl
  go_enter Try.func77, Try.ntmps77
  go_wp2
  go_loopg [8] (l.length + 1) (fun kq v8_ w' => ∃ t : Nat, v8_ = .int .i64 (t : Int) ∧ Aside0 (kq + t = l.length + 1 ∧ t ≤ l.length) ∧ Aside0 ((l.take t).any badK = false) ∧ Aside0 (w' = w))
  case atStart => exact ⟨0, rfl, ⟨rfl, Nat.zero_le _⟩, ⟨by simp⟩, ⟨rfl⟩⟩
  case round =>
    obtain ⟨t, rfl, HT, HB, HW⟩ := hrel
    by_cases ht : t < l.length
    case neg =>
      have hd : decide ((t : Int) < (l.length : Int)) = false := decide_eq_false (by omega)
      have hd4 : decide (t < l.length) = false := decide_eq_false ht
      have HE := Aside0.mk (show l.any badK = false by have := HB.out; rw [List.take_of_length_le (by omega)] at this; exact this)
      clear ht
      go_wp2
      go_ret
      exact ⟨-1, ⟨fun h => by omega, fun h => by rw [HE.out] at h; cases h⟩, rfl, HW.out⟩
    have hd : decide ((t : Int) < (l.length : Int)) = true := decide_eq_true (by omega)
    have hd2 : ((t : Int) < (l.length : Int)) = True := eq_true (by omega)
    have hd4 : decide (t < l.length) = true := decide_eq_true ht
    have hp : (0 ≤ (t : Int)) = True := eq_true (by omega)
    have e1 : IntKind.i64.wrap ((t : Int) + 1) = ((t + 1 : Nat) : Int) := by rw [IntKind.wrap_i64]; have := HL.out; omega
    obtain ⟨ad, ea, k1⟩ := Kd.at_int HC.out (t : Int) (by omega) (by omega)
    subst ea
    rw [Int.toNat_natCast] at k1
    have k1' : wr.cell? (ad.add t) = some (.int .i64 (rd l (t : Int))) := by rw [HW.out]; exact k1
    have HTK := Aside0.mk (any_take l t ht)
    have HTn := Aside0.mk (show (l.length - t + (t + 1) = l.length + 1 ∧ t + 1 ≤ l.length) ∧ l.length - t < gk by have := HT.out; omega)
    have hent : ∀ (args : Array Value) (w : World), (callFunc 61 args).run Try.prog w = .ok (.enter 61 args) w := fun args w => by kernel_rfl
    clear ht k1
    go_wp2_with (go_at_call 61; refine (bad_calls _ _).mono ?_; rintro e w' ⟨rfl, rfl⟩)
    · rename_i hb
      have HE := Aside0.mk (show l.any badK = true by
        have h1 : (l.take (t + 1)).any badK = true := by rw [HTK.out, hb]; simp
        obtain ⟨y, hy, hyb⟩ := List.any_eq_true.1 h1
        exact List.any_eq_true.2 ⟨y, List.mem_of_mem_take hy, hyb⟩)
      go_ret
      exact ⟨t, ⟨fun _ => HE.out, fun _ => by omega⟩, rfl, HW.out⟩
    · rename_i hb
      have HE := Aside0.mk (show (l.take (t + 1)).any badK = false by rw [HTK.out, hb, HB.out]; rfl)
      clear hb
      go_roundg (l.length - t)
      case measure => exact HTn.out.2
      case rel => exact ⟨t + 1, rfl, ⟨HTn.out.1⟩, HE, HW⟩
theorem contains_calls (A : Option Addr) (c : Nat) (l : List Int) (w : World) (hC : Kd.C (Kd.int .i64) w A l.length l) (hl : l.length ≤ 9223372036854775806) : Calls Try.prog 60 #[.slice A l.length c, .func (.func 61) #[] #[]] w fun e w' => e = .returned (.bool (l.any badK)) ∧ w' = w := by
  have HI := Aside0.mk (index_calls A c l w hC hl)
  clear hC hl
  go_enter Try.func60, Try.ntmps60
  go_wp2_with (go_at_call 77; refine HI.out.mono ?_; rintro e w' ⟨j, hj, rfl, rfl⟩; have HJ := Aside0.mk hj; clear hj)
  go_ret
  have hq : decide (0 ≤ j) = l.any badK := by rw [Bool.eq_iff_iff, ← HJ.out]; simp
  exact ⟨by rw [← hq]; rfl, rfl⟩
def slices_ContainsFunc_int_int.f (l0 : List Int) : Option Bool := if l0.length ≤ 9223372036854775806 then some (l0.any badK) else none
theorem slices_ContainsFunc_int_int.calls (A0 : Option Addr) (c0 : Nat) (l0 : List Int) (r : Bool) (w : World) (hr0 : Kd.C (Kd.int .i64) w A0 l0.length l0) (hc0 : l0.length ≤ c0) (h : slices_ContainsFunc_int_int.f l0 = some r) :
    Calls Try.prog 60 #[.slice A0 l0.length c0, .func (.func 61) #[] #[]] w fun e w' => e = .returned (.bool r) ∧ Below w.heap.size w w' := by
  unfold slices_ContainsFunc_int_int.f at h
  split at h
  case isFalse => cases h
  case isTrue hl =>
  cases h
  refine (contains_calls A0 c0 l0 w hr0 hl).mono ?_
  rintro e w' ⟨rfl, rfl⟩
  exact ⟨rfl, Below.refl _ _⟩
end
end Go.Proofs.Ytkakmghadhafjaa.R
