-- Cut by a program of this session (wip/prune.py) from a longer text: declarations that the law does not need are left out.
import Derived.Test.YtkakmghadhafjaaKStoreAddsRx0
import Derived.Lib.SliceRun
namespace Go.Proofs.Ytkakmghadhafjaa.R
open Go.RowKit Go.Proofs.YtkakmghadhafjaaW.PrintWords Go.Proofs.YtkakmghadhafjaaW.PrintLast Go.Proofs.YtkakmghadhafjaaW.PrintMore
attribute [local go_sem] max2_int min2_int max_two min_two max_three min_three max_four min_four
set_option linter.unusedVariables false
set_option linter.unusedSimpArgs false
section
open Go.Proofs.Ytkakmghadhafjaa.Hand
def mergeF : Nat → List Int → List Int → List Int
  | 0, a, b => a ++ b
  | _ + 1, [], b => b
  | _ + 1, x :: a, [] => x :: a
  | n + 1, x :: a, y :: b => if x > y then y :: mergeF n b (x :: a) else x :: mergeF n a (y :: b)
theorem mergeF_nil (m : Nat) (b : List Int) : mergeF m [] b = b := by cases m <;> rfl
theorem mergeF_nil' (m : Nat) (a : List Int) : mergeF m a [] = a := by
  cases m with
  | zero => simp [mergeF]
  | succ m => cases a <;> rfl
def store_merge.f (l0 l1 : List Int) : Option (List Int) := if l0.length + l1.length ≤ 8796093022208 then some (mergeF (l0.length + l1.length) l0 l1) else none
structure MrgOK (w : World) (N m : Nat) (r : List Int) (A : Option Addr) (c : Nat) (a : List Int) (B : Option Addr) (d : Nat) (b out : List Int) : Prop where
  fu : m = a.length + b.length
  ca : a.length ≤ c
  cb : b.length ≤ d
  ra : Kd.C (Kd.int .i64) w A a.length a
  rb : Kd.C (Kd.int .i64) w B b.length b
  tot : out.length + a.length + b.length = N
  eq : out ++ mergeF m a b = r
theorem MrgOK.swap {w : World} {N m : Nat} {r : List Int} {A : Option Addr} {c : Nat} {x y : Int} {a b out : List Int} {B : Option Addr} {d : Nat} (h : MrgOK w N (m + 1) r A c (x :: a) B d (y :: b) out) (hxy : x > y) : MrgOK w N m r (if d = 1 then B else B.map (·.add (1 * 1))) (d - 1) b A c (x :: a) (out ++ [y]) := by
  have hm := h.fu
  have hn := h.tot
  have hcb := h.cb
  have he := h.eq
  simp only [List.length_cons] at hm hn hcb
  have hr := Kd.C_drop h.rb (m := 1) (by simp) hcb
  refine ⟨by simp only [List.length_cons]; omega, by omega, h.ca, hr, h.ra, by simp only [List.length_append, List.length_cons, List.length_nil]; omega, ?_⟩
  rw [mergeF, if_pos hxy] at he
  rw [← he, List.append_assoc]
  rfl
theorem MrgOK.keep {w : World} {N m : Nat} {r : List Int} {A : Option Addr} {c : Nat} {x y : Int} {a b out : List Int} {B : Option Addr} {d : Nat} (h : MrgOK w N (m + 1) r A c (x :: a) B d (y :: b) out) (hxy : ¬ x > y) : MrgOK w N m r (if c = 1 then A else A.map (·.add (1 * 1))) (c - 1) a B d (y :: b) (out ++ [x]) := by
  have hm := h.fu
  have hn := h.tot
  have hca := h.ca
  have he := h.eq
  simp only [List.length_cons] at hm hn hca
  have hr := Kd.C_drop h.ra (m := 1) (by simp) hca
  refine ⟨by simp only [List.length_cons]; omega, by omega, h.cb, hr, h.rb, by simp only [List.length_append, List.length_cons, List.length_nil]; omega, ?_⟩
  rw [mergeF, if_neg hxy] at he
  rw [← he, List.append_assoc]
  rfl
theorem MrgOK.swap' {w : World} {N m : Nat} {r : List Int} {A : Option Addr} {c : Nat} {a b out : List Int} {B : Option Addr} {d : Nat} (h : MrgOK w N m r A c a B d b out) (ha : 0 < a.length) (hb : 0 < b.length) (hxy : rd a 0 > rd b 0) : MrgOK w N (m - 1) r (if d = 1 then B else B.map (·.add (1 * 1))) (d - 1) (b.drop 1) A c a (out ++ [rd b 0]) := by
  cases a with
  | nil => simp at ha
  | cons x a =>
    cases b with
    | nil => simp at hb
    | cons y b =>
      have hf := h.fu
      simp only [List.length_cons] at hf
      obtain ⟨k, rfl⟩ : ∃ k, m = k + 1 := ⟨m - 1, by omega⟩
      exact h.swap hxy
theorem MrgOK.keep' {w : World} {N m : Nat} {r : List Int} {A : Option Addr} {c : Nat} {a b out : List Int} {B : Option Addr} {d : Nat} (h : MrgOK w N m r A c a B d b out) (ha : 0 < a.length) (hb : 0 < b.length) (hxy : ¬ rd a 0 > rd b 0) : MrgOK w N (m - 1) r (if c = 1 then A else A.map (·.add (1 * 1))) (c - 1) (a.drop 1) B d b (out ++ [rd a 0]) := by
  cases a with
  | nil => simp at ha
  | cons x a =>
    cases b with
    | nil => simp at hb
    | cons y b =>
      have hf := h.fu
      simp only [List.length_cons] at hf
      obtain ⟨k, rfl⟩ : ∃ k, m = k + 1 := ⟨m - 1, by omega⟩
      exact h.keep hxy
theorem cap_row {w : World} {g : Nat} {base n : Nat} (h : w.heap[g]? = some (.cells (nums .i64 (List.replicate n 0)).toArray 3 (0, 0))) (hb : base ≤ g) (hn : n ≤ 9223372036854775807) : Kd.R (Kd.int .i64) 3 w base (fun _ => True) (.slice (some ⟨g, 0, none⟩) 0 n) [] :=
  Kd.R_of_own ⟨rfl, .inr ⟨g, n, _, rfl, hb, h, Nat.zero_le _, by unfold maxLen; exact hn, by simp [nums], by simp [encs]⟩⟩ (fun _ _ => trivial)
theorem made_cap (n : Nat) : madeCells #[Value.int .i64 0] n = (nums .i64 (List.replicate n 0)).toArray := made_nums n
set_option maxHeartbeats 2000000 in
theorem store_merge.calls (A0 : Option Addr) (c0 : Nat) (l0 : List Int) (A1 : Option Addr) (c1 : Nat) (l1 : List Int) (r : List Int) (w : World) (hr0 : Kd.C (Kd.int .i64) w A0 l0.length l0) (hc0 : l0.length ≤ c0) (hr1 : Kd.C (Kd.int .i64) w A1 l1.length l1) (hc1 : l1.length ≤ c1) (h : store_merge.f l0 l1 = some r) :
    Calls Try.prog 67 #[.slice A0 l0.length c0, .slice A1 l1.length c1] w fun e w' => ∃ v0_ : Value, e = .returned (v0_) ∧ Kd.R (Kd.int .i64) 3 w' w.heap.size (fun _ => True) v0_ r ∧ Below w.heap.size w w' := by
  unfold store_merge.f at h
  by_cases hl : l0.length + l1.length ≤ 8796093022208
  case neg => rw [if_neg hl] at h; cases h
  rw [if_pos hl] at h
  obtain rfl := Option.some.inj h
  clear h
  obtain ⟨N, hN⟩ : ∃ N, N = l0.length + l1.length := ⟨_, rfl⟩
  obtain ⟨r, hr⟩ : ∃ r, r = mergeF (l0.length + l1.length) l0 l1 := ⟨_, rfl⟩
  rw [← hr]
  have HM0 := Aside0.mk (show MrgOK w N N r A0 c0 l0 A1 c1 l1 [] from ⟨hN, hc0, hc1, hr0, hr1, by rw [hN]; simp, by rw [hr, hN]; rfl⟩)
  have HL := Aside0.mk (show N ≤ 8796093022208 by rw [hN]; exact hl)
  have hsum : IntKind.i64.wrap ((l0.length : Int) + (l1.length : Int)) = (N : Int) := by rw [IntKind.wrap_i64]; omega
  have hmk : ∀ W : World, (Instr.makeSlice 31 (.int .i64 0) (.int .i64 (N : Int))).run Try.prog W = .ok (.slice (some ⟨W.heap.size, 0, none⟩) 0 N) (W.alloc (.cells (nums .i64 (List.replicate N 0)).toArray 3)) := by
    intro W
    obtain ⟨i0, hi0, hz0, hz1, hz2⟩ := info_parts info3
    have := run_make (P := Try.prog) W 31 3 i0 (.int .i64 0) Try.underlying31 hi0 hz0 .i64 .i64 0 (N : Int) (by omega) (by omega) (by rw [hz2]; have := HL.out; omega) (by have := HL.out; omega)
    rw [Int.toNat_natCast, hz1, Nat.mul_one] at this
    rw [this, ← made_cap]
    rfl
  have HNN := Aside0.mk hN
  clear hr0 hr1 hc0 hc1 hl hr hN
  go_enter Try.func67, Try.ntmps67
  go_wp2
  have HR0 := Aside0.mk (cap_row (base := w.heap.size) (heap_new w (Obj.cells (nums .i64 (List.replicate N 0)).toArray 3)) (Nat.le_refl _) (by have := HL.out; omega))
  have HB0 := Aside0.mk (below_alloc (Below.refl w.heap.size w) (Obj.cells (nums .i64 (List.replicate N 0)).toArray 3))
  have HM0' := HM0
  go_loopg [0, 1, 5] (N + 1) (fun kq v0 v1 v5 w' => ∃ (A : Option Addr) (c : Nat) (a : List Int) (B : Option Addr) (d : Nat) (b out : List Int) (m : Nat), v0 = .slice A a.length c ∧ v1 = .slice B b.length d ∧ Aside0 (kq = m + 1) ∧ Aside0 (MrgOK w N m r A c a B d b out) ∧ Aside0 (Kd.R (Kd.int .i64) 3 w' w.heap.size (fun _ => True) v5 out) ∧ Aside0 (Below w.heap.size w w'))
  case atStart => exact ⟨_, _, _, _, _, _, [], N, rfl, rfl, ⟨rfl⟩, HM0, HR0, HB0⟩
  case round =>
    clear HM0 HR0 HB0 HM0' hmk hsum
    obtain ⟨A, c, a, B, d, b, out, m, rfl, rfl, HK, HM, HR, HB⟩ := hrel
    have HCA := Aside0.mk (Kd.C_below HM.out.ra HB.out)
    have HCB := Aside0.mk (Kd.C_below HM.out.rb HB.out)
    have HE := Aside0.mk (show a = [] ∨ b = [] → out ++ a ++ b = r by
      have := HM.out.eq
      rintro (e | e)
      · subst e; rw [mergeF_nil] at this; simpa using this
      · subst e; rw [mergeF_nil'] at this; simpa using this)
    obtain ⟨A5, c5, e5⟩ := Kd.R_slice HR.out
    by_cases ha : 0 < a.length
    case neg =>
      have q1 : decide (0 < a.length) = false := decide_eq_false ha
      have q1' : decide ((a.length : Int) > 0) = false := decide_eq_false (by omega)
      have ha0 := Aside0.mk (show a = [] ∨ b = [] from .inl (List.length_eq_zero_iff.1 (by omega)))
      subst e5
      clear ha
      go_wp2_with (first | (at_builtin; refine Kd.R_append_rows (Kd.int .i64) (w0 := w) w.heap.size rfl (.tmp 37) (.tmp 38) 31 3 (.int .i64 0) 8 rfl Try.underlying31 info3 rfl (by decide) (by omega) (.slice A5 out.length c5) out a _ _ _ (fun _ => True) (fun _ => False) rfl rfl ?aO ?aR (fun _ _ h => h) (fun _ h => h.elim) ?aF ?aB ?aS ?aL ?_; (case aO => exact HR.out); (case aR => exact HCA.out); (case aF => exact (fun _ _ => trivial)); (case aB => exact HB.out); (case aS => exact HB.out.size); (case aL => have := HM.out.tot; have := HL.out; omega); intro v6 w6 ho hb hg hat; obtain ⟨o6, ho6⟩ : ∃ o6, o6 = out ++ a := ⟨_, rfl⟩; rw [← ho6] at ho; have HQ6 := Aside0.mk ho6; have HO6 := Aside0.mk ho; have HB6 := Aside0.mk hb; obtain ⟨A6, c6, e6⟩ := Kd.R_slice ho; subst e6; clear ho hb hg hat ho6) | (at_builtin; refine Kd.R_append_rows (Kd.int .i64) (w0 := w) w.heap.size rfl (.tmp 39) (.tmp 40) 31 3 (.int .i64 0) 8 rfl Try.underlying31 info3 rfl (by decide) (by omega) (.slice A6 o6.length c6) o6 b _ _ _ (fun _ => True) (fun _ => False) rfl rfl ?aO ?aR (fun _ _ h => h) (fun _ h => h.elim) ?aF ?aB ?aS ?aL ?_; (case aO => exact HO6.out); (case aR => exact Kd.C_below HM.out.rb HB6.out); (case aF => exact (fun _ _ => trivial)); (case aB => exact HB6.out); (case aS => exact HB6.out.size); (case aL => have := HM.out.tot; have := HL.out; rw [HQ6.out, List.length_append]; omega); intro v7 w7 ho hb hg hat; have HO7 := Aside0.mk ho; have HB7 := Aside0.mk hb; clear ho hb hg hat))
      go_ret
      exact ⟨_, rfl, by rw [← HE.out ha0.out, ← HQ6.out]; exact HO7.out, HB7.out⟩
    by_cases hb : 0 < b.length
    case neg =>
      have p1 : decide (0 < a.length) = true := decide_eq_true ha
      have p1' : decide ((a.length : Int) > 0) = true := decide_eq_true (by omega)
      have q1 : decide (0 < b.length) = false := decide_eq_false hb
      have q1' : decide ((b.length : Int) > 0) = false := decide_eq_false (by omega)
      have ha0 := Aside0.mk (show a = [] ∨ b = [] from .inr (List.length_eq_zero_iff.1 (by omega)))
      subst e5
      clear ha hb
      go_wp2_with (first | (at_builtin; refine Kd.R_append_rows (Kd.int .i64) (w0 := w) w.heap.size rfl (.tmp 37) (.tmp 38) 31 3 (.int .i64 0) 8 rfl Try.underlying31 info3 rfl (by decide) (by omega) (.slice A5 out.length c5) out a _ _ _ (fun _ => True) (fun _ => False) rfl rfl ?aO ?aR (fun _ _ h => h) (fun _ h => h.elim) ?aF ?aB ?aS ?aL ?_; (case aO => exact HR.out); (case aR => exact HCA.out); (case aF => exact (fun _ _ => trivial)); (case aB => exact HB.out); (case aS => exact HB.out.size); (case aL => have := HM.out.tot; have := HL.out; omega); intro v6 w6 ho hb hg hat; obtain ⟨o6, ho6⟩ : ∃ o6, o6 = out ++ a := ⟨_, rfl⟩; rw [← ho6] at ho; have HQ6 := Aside0.mk ho6; have HO6 := Aside0.mk ho; have HB6 := Aside0.mk hb; obtain ⟨A6, c6, e6⟩ := Kd.R_slice ho; subst e6; clear ho hb hg hat ho6) | (at_builtin; refine Kd.R_append_rows (Kd.int .i64) (w0 := w) w.heap.size rfl (.tmp 39) (.tmp 40) 31 3 (.int .i64 0) 8 rfl Try.underlying31 info3 rfl (by decide) (by omega) (.slice A6 o6.length c6) o6 b _ _ _ (fun _ => True) (fun _ => False) rfl rfl ?aO ?aR (fun _ _ h => h) (fun _ h => h.elim) ?aF ?aB ?aS ?aL ?_; (case aO => exact HO6.out); (case aR => exact Kd.C_below HM.out.rb HB6.out); (case aF => exact (fun _ _ => trivial)); (case aB => exact HB6.out); (case aS => exact HB6.out.size); (case aL => have := HM.out.tot; have := HL.out; rw [HQ6.out, List.length_append]; omega); intro v7 w7 ho hb hg hat; have HO7 := Aside0.mk ho; have HB7 := Aside0.mk hb; clear ho hb hg hat))
      go_ret
      exact ⟨_, rfl, by rw [← HE.out ha0.out, ← HQ6.out]; exact HO7.out, HB7.out⟩
    have p1 : decide (0 < a.length) = true := decide_eq_true ha
    have p1' : decide ((a.length : Int) > 0) = true := decide_eq_true (by omega)
    have q1 : decide (0 < b.length) = true := decide_eq_true hb
    have q1' : decide ((b.length : Int) > 0) = true := decide_eq_true (by omega)
    have pn : (0 < a.length) = True := eq_true ha
    have qn : (0 < b.length) = True := eq_true hb
    obtain ⟨adA, eA, kA⟩ := Kd.at_int HCA.out 0 (by omega) (by omega)
    obtain ⟨adB, eB, kB⟩ := Kd.at_int HCB.out 0 (by omega) (by omega)
    subst eA
    subst eB
    subst e5
    have za : ∀ ad : Addr, ad.add ((0 : Int).toNat) = ad := fun ad => by simp [Addr.add]
    rw [za] at kA kB
    have zb : ∀ ad : Addr, ad.add 0 = ad := fun ad => by simp [Addr.add]
    have HLA := Aside0.mk (show 0 < a.length ∧ 0 < b.length from ⟨ha, hb⟩)
    clear za
    by_cases hxy : rd a 0 > rd b 0
    · have hOK := HM.out.swap' ha hb hxy
      have q3 : decide (rd a 0 > rd b 0) = true := decide_eq_true hxy
      obtain ⟨Lq, hLq⟩ : ∃ Lq, Lq = (if d = 1 then some adB else (some adB).map (·.add (1 * 1))) := ⟨_, rfl⟩
      rw [← hLq] at hOK
      have hcut : ∀ W : World, (Instr.slice 31 (.slice (some adB) b.length d) (some (.int .i64 1)) none none).run Try.prog W = .ok (.slice Lq (b.length - 1) (d - 1)) W := by
        rw [hLq]
        obtain ⟨i0, hi0, hz0, hz1, hz2⟩ := info_parts info3
        exact cut_from (P := Try.prog) 31 3 .i64 Try.underlying31 hi0 1 hz1 (some adB) b.length d 1 (by omega) (by omega)
      have HOK := Aside0.mk hOK
      clear hxy hOK hLq ha hb
      go_upto_region 3 with fail
      go_quiet (fail)
      have HRR := Aside0.mk (Kd.R_drewN HR.out nq)
      have HBB := Aside0.mk (pw_below_drewN HB.out nq)
      go_upto_region 6 with (first | (at_builtin; refine Kd.R_append (Kd.int .i64) w.heap.size rfl (.tmp 29) (.tmp 33) 31 3 (.int .i64 0) 8 rfl Try.underlying31 info3 rfl (by decide) (by decide) (.slice A5 out.length c5) out (rd b 0) [.int .i64 (rd b 0)] (fun _ => True) (fun _ => False) rfl rfl ?aP (fun _ h => h.elim) (fun _ _ => trivial) ?aO (Below.refl _ _) ?aB ?aL ?_; (case aP => rfl); (case aO => exact HRR.out); (case aB => exact HBB.out.size); (case aL => have := HM.out.tot; have := HL.out; omega); intro v2 w2 ho hb hg hat; have HR2 := Aside0.mk ho; have HB2 := Aside0.mk (HBB.out.trans hb); clear ho hb hg hat))
      go_wp2
      go_roundg m
      case measure => have := HK.out; omega
      case rel => exact ⟨Lq, d - 1, b.drop 1, some adA, c, a, out ++ [rd b 0], m - 1, by rw [List.length_drop], rfl, ⟨by have := HM.out.fu; have := HLA.out; omega⟩, HOK, HR2, HB2⟩
    · have hOK := HM.out.keep' ha hb hxy
      have q3 : decide (rd a 0 > rd b 0) = false := decide_eq_false hxy
      obtain ⟨Lq, hLq⟩ : ∃ Lq, Lq = (if c = 1 then some adA else (some adA).map (·.add (1 * 1))) := ⟨_, rfl⟩
      rw [← hLq] at hOK
      have hcut : ∀ W : World, (Instr.slice 31 (.slice (some adA) a.length c) (some (.int .i64 1)) none none).run Try.prog W = .ok (.slice Lq (a.length - 1) (c - 1)) W := by
        rw [hLq]
        obtain ⟨i0, hi0, hz0, hz1, hz2⟩ := info_parts info3
        exact cut_from (P := Try.prog) 31 3 .i64 Try.underlying31 hi0 1 hz1 (some adA) a.length c 1 (by omega) (by omega)
      have HOK := Aside0.mk hOK
      clear hxy hOK hLq ha hb
      go_upto_region 3 with fail
      go_quiet (fail)
      have HRR := Aside0.mk (Kd.R_drewN HR.out nq)
      have HBB := Aside0.mk (pw_below_drewN HB.out nq)
      go_upto_region 6 with (first | (at_builtin; refine Kd.R_append (Kd.int .i64) w.heap.size rfl (.tmp 29) (.tmp 33) 31 3 (.int .i64 0) 8 rfl Try.underlying31 info3 rfl (by decide) (by decide) (.slice A5 out.length c5) out (rd a 0) [.int .i64 (rd a 0)] (fun _ => True) (fun _ => False) rfl rfl ?aP (fun _ h => h.elim) (fun _ _ => trivial) ?aO (Below.refl _ _) ?aB ?aL ?_; (case aP => rfl); (case aO => exact HRR.out); (case aB => exact HBB.out.size); (case aL => have := HM.out.tot; have := HL.out; omega); intro v2 w2 ho hb hg hat; have HR2 := Aside0.mk ho; have HB2 := Aside0.mk (HBB.out.trans hb); clear ho hb hg hat))
      go_wp2
      go_roundg m
      case measure => have := HK.out; omega
      case rel => exact ⟨Lq, c - 1, a.drop 1, some adB, d, b, out ++ [rd a 0], m - 1, by rw [List.length_drop], rfl, ⟨by have := HM.out.fu; have := HLA.out; omega⟩, HOK, HR2, HB2⟩
end
end Go.Proofs.Ytkakmghadhafjaa.R
