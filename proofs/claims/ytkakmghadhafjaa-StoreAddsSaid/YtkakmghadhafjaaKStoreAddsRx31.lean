-- Cut by a program of this session (wip/prune.py) from a longer text: declarations that the law does not need are left out.
import Derived.Test.YtkakmghadhafjaaKStoreAddsRx0
namespace Go.Proofs.Ytkakmghadhafjaa.R
open Go.RowKit Go.Proofs.YtkakmghadhafjaaW.PrintWords Go.Proofs.YtkakmghadhafjaaW.PrintLast Go.Proofs.YtkakmghadhafjaaW.PrintMore
attribute [local go_sem] max2_int min2_int max_two min_two max_three min_three max_four min_four
set_option linter.unusedVariables false
set_option linter.unusedSimpArgs false
section
open Go.Proofs.Ytkakmghadhafjaa.Hand
def leI : Int → Int → Bool := fun x y => decide (x ≤ y)
theorem sorted_eq {l r : List Int} (hp : r.Perm l) (hs : r.Pairwise (· ≤ ·)) : r = l.mergeSort leI := by
  have h1 : (l.mergeSort leI).Perm l := List.mergeSort_perm l leI
  have h2 : (l.mergeSort leI).Pairwise (· ≤ ·) := by
    have := List.pairwise_mergeSort (le := leI) (fun a b c hab hbc => by simp [leI] at *; omega) (fun a b => by simp [leI]; omega) l
    exact this.imp (fun h => by simpa [leI] using h)
  exact List.Perm.eq_of_pairwise (le := (· ≤ ·)) (fun a b _ _ hab hba => Int.le_antisymm hab hba) hs h2 (hp.trans h1.symm)
def foretellref_numbersUp.f (l0 : List Int) : Option (List Int) := if l0.length < 4611686018427387904 ∧ l0.length < 17592186044416 then some (l0.mergeSort leI) else none
structure InsOK (l : List Int) (t : Nat) (A : List Int) (v : Int) (B : List Int) : Prop where
  len : A.length + B.length = t
  srt : (A ++ B).Pairwise (· ≤ ·)
  lt : ∀ b ∈ B, v < b
  prm : (A ++ v :: B).Perm (l.take (t + 1))
theorem InsOK.done {l : List Int} {t : Nat} {A : List Int} {v : Int} {B : List Int} (h : InsOK l t A v B) (hA : ∀ a ∈ A, a ≤ v) : (A ++ v :: B).Pairwise (· ≤ ·) := by
  have hs := List.pairwise_append.1 h.srt
  refine List.pairwise_append.2 ⟨hs.1, List.pairwise_cons.2 ⟨fun b hb => Int.le_of_lt (h.lt b hb), hs.2.1⟩, fun a ha b hb => ?_⟩
  rcases List.mem_cons.1 hb with rfl | hb
  · exact hA a ha
  · exact hs.2.2 a ha b hb
theorem InsOK.start {l out : List Int} {t : Nat} {x : Int} (ht : t < l.length) (hx : rd l (t : Int) = x) (hl : out.length = t) (hs : out.Pairwise (· ≤ ·)) (hp : out.Perm (l.take t)) : InsOK l t out x [] := by
  refine ⟨by simpa using hl, by simpa using hs, (fun b hb => by cases hb), ?_⟩
  rw [List.take_succ_eq_append_getElem ht]
  have e : l[t] = x := by rw [← hx]; simp [rd, ht]
  rw [e]
  exact hp.append_right [x]
theorem InsOK.swap {l : List Int} {t : Nat} {A : List Int} {a v : Int} {B : List Int} (h : InsOK l t (A ++ [a]) v B) (hv : v < a) : InsOK l t A v (a :: B) := by
  refine ⟨by have := h.len; simp at this ⊢; omega, by simpa using h.srt, fun b hb => ?_, ?_⟩
  · rcases List.mem_cons.1 hb with rfl | hb
    · exact hv
    · exact h.lt b hb
  · refine List.Perm.trans ?_ h.prm
    rw [List.append_assoc]
    exact (List.Perm.append_left A (List.Perm.swap a v B))
theorem InsOK.stop {l : List Int} {t : Nat} {A : List Int} {a v : Int} {B : List Int} (h : InsOK l t (A ++ [a]) v B) (hv : ¬ v < a) : ∀ x ∈ A ++ [a], x ≤ v := by
  intro x hx
  rcases List.mem_append.1 hx with hx | hx
  · have hs := (List.pairwise_append.1 h.srt).1
    have := (List.pairwise_append.1 hs).2.2 x hx a (by simp)
    omega
  · have : x = a := by simpa using hx
    omega
theorem ins_set (A : List Int) (a v : Int) (B : List Int) : (((A ++ [a]) ++ v :: B).set (A.length + 1) a).set A.length v = A ++ v :: a :: B := by
  simp
set_option maxHeartbeats 2000000 in
theorem foretellref_numbersUp.calls (A0 : Option Addr) (c0 : Nat) (l0 : List Int) (r : List Int) (w : World) (hr0 : Kd.C (Kd.int .i64) w A0 l0.length l0) (hc0 : l0.length ≤ c0) (h : foretellref_numbersUp.f l0 = some r) :
    Calls Try.prog 66 #[.slice A0 l0.length c0] w fun e w' => ∃ v0_ : Value, e = .returned (v0_) ∧ Kd.R (Kd.int .i64) 3 w' w.heap.size (fun _ => True) v0_ r ∧ Below w.heap.size w w' := by
  unfold foretellref_numbersUp.f at h
  by_cases hl : l0.length < 4611686018427387904 ∧ l0.length < 17592186044416
  case neg => rw [if_neg hl] at h; cases h
  rw [if_pos hl] at h
  obtain rfl := Option.some.inj h
  have HC := Aside0.mk hr0
  have HL := Aside0.mk hl
  have HB0 := Aside0.mk (Below.refl w.heap.size w)
  have HR0 := Aside0.mk (Kd.R_nil (Kd.int .i64) 3 w w.heap.size (fun _ => True))
  clear hr0 hc0 hl h
  go_enter Try.func66, Try.ntmps66
  go_wp2
  go_loopg [3, 4] (l0.length + 1) (fun kq v3_ v4_ w' => ∃ (t : Nat) (out : List Int), v4_ = .int .i64 (t : Int) ∧ Aside0 (kq + t = l0.length + 1 ∧ t ≤ l0.length) ∧ Aside0 (out.length = t ∧ out.Pairwise (· ≤ ·) ∧ out.Perm (l0.take t)) ∧ Aside0 (Kd.R (Kd.int .i64) 3 w' w.heap.size (fun _ => True) v3_ out) ∧ Aside0 (Below w.heap.size w w'))
  case atStart => exact ⟨0, [], rfl, ⟨rfl, Nat.zero_le _⟩, ⟨rfl, List.Pairwise.nil, by simp⟩, HR0, HB0⟩
  case round =>
    clear HR0 HB0
    obtain ⟨t, out, rfl, HT, HO, HR, HB⟩ := hrel
    by_cases ht : t < l0.length
    case neg =>
      have hd : decide ((t : Int) < (l0.length : Int)) = false := decide_eq_false (by omega)
      have hd4 : decide (t < l0.length) = false := decide_eq_false ht
      have HE := Aside0.mk (show out = l0.mergeSort leI from sorted_eq (by have := HO.out.2.2; rw [List.take_of_length_le (by omega)] at this; exact this) HO.out.2.1)
      clear ht
      go_wp2
      go_ret
      exact ⟨_, rfl, by rw [← HE.out]; exact HR.out, HB.out⟩
    have hd : decide ((t : Int) < (l0.length : Int)) = true := decide_eq_true (by omega)
    have hd2 : ((t : Int) < (l0.length : Int)) = True := eq_true (by omega)
    have hd4 : decide (t < l0.length) = true := decide_eq_true ht
    have hp : (0 ≤ (t : Int)) = True := eq_true (by omega)
    have e1 : IntKind.i64.wrap ((t : Int) + 1) = ((t + 1 : Nat) : Int) := by rw [IntKind.wrap_i64]; have := HL.out; omega
    have HCW := Aside0.mk (Kd.C_below HC.out HB.out)
    obtain ⟨ad, ea, k1⟩ := Kd.at_int HCW.out (t : Int) (by omega) (by omega)
    subst ea
    rw [Int.toNat_natCast] at k1
    obtain ⟨x, hx⟩ : ∃ x, x = rd l0 (t : Int) := ⟨_, rfl⟩
    rw [← hx] at k1
    have HX := Aside0.mk hx
    have HTT := Aside0.mk ht
    have HT2 := Aside0.mk (show t < 17592186044416 from Nat.lt_trans ht HL.out.2)
    obtain ⟨A3, c3, e3⟩ := Kd.R_slice HR.out
    subst e3
    clear hx ht
    go_upto_region 6 with (first | (at_builtin; refine Kd.R_append (Kd.int .i64) w.heap.size rfl (.tmp 13) (.tmp 18) 31 3 (.int .i64 0) 8 rfl Try.underlying31 info3 rfl (by decide) (by decide) (.slice A3 out.length c3) out x [.int .i64 x] (fun _ => True) (fun _ => False) rfl rfl ?aP (fun _ h => h.elim) (fun _ _ => trivial) ?aO (Below.refl _ _) ?aB ?aL ?_; (case aP => rfl); (case aO => exact HR.out); (case aB => exact HB.out.size); (case aL => have := HT2.out; have := HO.out.1; omega); intro v2 w2 ho hb hg hat; have HR2 := Aside0.mk ho; have HB2 := Aside0.mk (HB.out.trans hb); clear ho hb hg hat))
    have hIN : InsOK l0 t out x [] := InsOK.start HTT.out HX.out.symm HO.out.1 HO.out.2.1 HO.out.2.2
    have hlen1 : (out ++ [x]).length = t + 1 := by rw [List.length_append, HO.out.1]; rfl
    obtain ⟨g, cap, ev, hbg, hlt, cells, hcl⟩ := Kd.R_form HR2.out (by omega)
    rw [hlen1] at ev
    subst ev
    have HOO := Aside0.mk (show ∃ (A : List Int) (v : Int) (B : List Int), out.length = A.length ∧ InsOK l0 t A v B ∧ Kd.R (Kd.int .i64) 3 w2 w.heap.size (fun _ => True) (.slice (some ⟨g, 0, none⟩) (t + 1) cap) (A ++ v :: B) from ⟨out, x, [], rfl, hIN, HR2.out⟩)
    have HG := Aside0.mk (show w.heap.size ≤ g from hbg)
    have HLO := Aside0.mk HO.out.1
    clear hIN hlen1 hcl hlt hbg HR2 k1
    go_wp2
    clear e1
    go_loopg [5, 6] (t + 1) (fun kq v5_ v6_ w' => ∃ (A : List Int) (v : Int) (B : List Int), v5_ = .int .i64 (A.length : Int) ∧ Aside0 (kq = A.length + 1) ∧ Aside0 (InsOK l0 t A v B) ∧ Aside0 (Kd.R (Kd.int .i64) 3 w' w.heap.size (fun _ => True) (.slice (some ⟨g, 0, none⟩) (t + 1) cap) (A ++ v :: B)) ∧ Aside0 (Below w.heap.size w w'))
    case atStart =>
      obtain ⟨A, v, B, hA, h1, h2⟩ := HOO.out
      have hA2 := HLO.out
      exact ⟨A, v, B, by rw [← hA, hA2], ⟨by omega⟩, ⟨h1⟩, ⟨h2⟩, HB2⟩
    case round =>
      clear HOO HB2 HB HR
      obtain ⟨A, v, B, rfl, HK, HI, HR, HB⟩ := hrel
      rcases List.eq_nil_or_concat A with e | ⟨A', a, e⟩
      · subst e
        have q1 : decide (((([] : List Int).length : Nat) : Int) > 0) = false := by decide
        have HE := Aside0.mk (HI.out.done (fun a ha => by cases ha))
        have HP := Aside0.mk HI.out.prm
        have HLN := Aside0.mk (show (([] : List Int) ++ v :: B).length = t + 1 by have := HI.out.len; simp at this ⊢; omega)
        have e1 : IntKind.i64.wrap ((t : Int) + 1) = ((t + 1 : Nat) : Int) := by rw [IntKind.wrap_i64]; have := HL.out; have := HTT.out; omega
        have q2 : ((([] : List Int).length : Nat) : Int) = 0 := rfl
        rw [q2] at *
        clear q2
        have q1 : decide ((0 : Int) > 0) = false := by decide
        go_upto_region 7 with fail
        go_quiet (fail)
        have HRn := Aside0.mk (Kd.R_drewN HR.out nq)
        have HBn := Aside0.mk (pw_below_drewN HB.out nq)
        go_wp2
        go_roundg (l0.length - t)
        case measure => have := HT.out; have := HTT.out; omega
        case rel => exact ⟨t + 1, _, by go_num, ⟨by have := HT.out; have := HTT.out; omega⟩, ⟨HLN.out, HE.out, HP.out⟩, HRn, HBn⟩
      · rw [List.concat_eq_append] at e
        subst e
        obtain ⟨m, hm⟩ : ∃ m, m = A'.length := ⟨_, rfl⟩
        obtain ⟨q, hq⟩ : ∃ q, q = m + 1 := ⟨_, rfl⟩
        have hAl : ((A' ++ [a]).length : Int) = (q : Int) := by rw [hq, hm]; simp
        have hle : q ≤ t := by have := HI.out.len; rw [hq, hm]; simp at this; omega
        have HM := Aside0.mk hm
        have HQ := Aside0.mk hq
        have hlt1 : (q : Int) < ((t + 1 : Nat) : Int) := by omega
        obtain ⟨k1, z1⟩ := Kd.R_celln 0 HR.out (q : Int) (by omega) hlt1
        obtain ⟨k2, z2⟩ := Kd.R_celln 0 HR.out (m : Int) (by omega) (by omega)
        have r1 : rdOf 0 ((A' ++ [a]) ++ v :: B) (q : Int) = v := by unfold rdOf; rw [Int.toNat_natCast, hq, hm]; simp
        have r2 : rdOf 0 ((A' ++ [a]) ++ v :: B) (m : Int) = a := by unfold rdOf; rw [Int.toNat_natCast, hm]; simp
        rw [r1, Int.toNat_natCast] at k1
        rw [r2, Int.toNat_natCast] at k2
        rw [Int.toNat_natCast] at z1 z2
        have em : IntKind.i64.wrap ((q : Int) - 1) = (m : Int) := by rw [IntKind.wrap_i64]; have := HL.out; have := HTT.out; omega
        have q1 : decide ((q : Int) > 0) = true := decide_eq_true (by omega)
        have q3 : decide ((q : Int) < ((t + 1 : Nat) : Int)) = true := decide_eq_true hlt1
        have q4 : decide ((m : Int) < ((t + 1 : Nat) : Int)) = true := decide_eq_true (by omega)
        have p1 : (0 ≤ (q : Int)) = True := eq_true (by omega)
        have p2 : ((q : Int) < ((t + 1 : Nat) : Int)) = True := eq_true hlt1
        have p3 : (0 ≤ (m : Int)) = True := eq_true (by omega)
        have p4 : ((m : Int) < ((t + 1 : Nat) : Int)) = True := eq_true (by omega)
        have q1n : decide (0 < q) = true := decide_eq_true (by omega)
        have p2b : ((q : Int) < (t : Int) + 1) = True := eq_true (by omega)
        have p4b : ((m : Int) < (t : Int) + 1) = True := eq_true (by omega)
        have p2n : (q < t + 1) = True := eq_true (by omega)
        have p4n : (m < t + 1) = True := eq_true (by omega)
        have ne1 : ¬ q = m := by omega
        have ne2 : ¬ m = q := by omega
        rw [hAl]
        have HKK := Aside0.mk (show gk = q + 1 by have := HK.out; rw [this, hq, hm]; simp)
        clear hAl hle hlt1 r1 r2 hm hq
        by_cases hv : v < a
        · have q2 : decide (v < a) = true := decide_eq_true hv
          have HI2 := Aside0.mk (HI.out.swap hv)
          clear hv
          go_upto_region 7 with fail
          go_quiet (fail)
          have HP1 := Kd.R_putg (Kd.R_drewN HR.out nq) (q : Int) a
          rw [Int.toNat_natCast] at HP1
          have HP2 := Kd.R_putg HP1.1 (m : Int) v
          rw [Int.toNat_natCast] at HP2
          have hset : (((A' ++ [a]) ++ v :: B).set q a).set m v = A' ++ v :: a :: B := by rw [HQ.out, HM.out]; exact ins_set A' a v B
          rw [hset] at HP2
          have HRP := Aside0.mk HP2.1
          have HBP := Aside0.mk (((pw_below_drewN HB.out nq).setCell HG.out (p := ⟨g, q, none⟩) (.int .i64 a)).setCell HG.out (p := ⟨g, m, none⟩) (.int .i64 v))
          clear HP1 HP2 hset
          go_wp2
          go_roundg q
          case measure => have := HKK.out; omega
          case rel => exact ⟨A', v, a :: B, by rw [← HM.out], ⟨by rw [← HM.out]; exact HQ.out⟩, HI2, HRP, HBP⟩
        · have q2 : decide (v < a) = false := decide_eq_false hv
          have HE := Aside0.mk (HI.out.done (HI.out.stop hv))
          have HP := Aside0.mk HI.out.prm
          have HLN := Aside0.mk (show ((A' ++ [a]) ++ v :: B).length = t + 1 by have := HI.out.len; simp at this ⊢; omega)
          have e1 : IntKind.i64.wrap ((t : Int) + 1) = ((t + 1 : Nat) : Int) := by rw [IntKind.wrap_i64]; have := HL.out; have := HTT.out; omega
          clear hv
          go_upto_region 7 with fail
          go_quiet (fail)
          have HRn := Aside0.mk (Kd.R_drewN HR.out nq)
          have HBn := Aside0.mk (pw_below_drewN HB.out nq)
          go_wp2
          go_roundg (l0.length - t)
          case measure => have := HT.out; have := HTT.out; omega
          case rel => exact ⟨t + 1, _, by go_num, ⟨by have := HT.out; have := HTT.out; omega⟩, ⟨HLN.out, HE.out, HP.out⟩, HRn, HBn⟩
end
end Go.Proofs.Ytkakmghadhafjaa.R
