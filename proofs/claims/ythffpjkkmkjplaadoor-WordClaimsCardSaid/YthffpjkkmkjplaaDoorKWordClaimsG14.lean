import Derived.Test.YthffpjkkmkjplaaDoorKWordClaimsG7
import Derived.Test.YthffpjkkmkjplaaDoorKWordClaimsG13
-- Cut by a program of this session (wip/prune.py) from a longer text: declarations that the law does not need are left out.
namespace Go.Proofs.YthffpjkkmkjplaaDoor.Q
open Go.RowKit Go.Proofs.YthffpjkkmkjplaaDoorW.PrintWords Go.Proofs.YthffpjkkmkjplaaDoorW.PrintLast Go.Proofs.YthffpjkkmkjplaaDoorW.PrintMore
attribute [local go_sem] max2_int min2_int max_two min_two max_three min_three max_four min_four
set_option linter.unusedVariables false
set_option linter.unusedSimpArgs false
section
open Go.Proofs.YthffpjkkmkjplaaDoor.Hand
def wordS (st lp : List (List Bool)) (n : Int) : Int := if n < 0 ∨ 6 < n then 2 else if 12 < st.length ∨ lp.length < 1 ∨ 12 < lp.length then 1 else if (st ++ lp).all (fun x => decide ((x.length : Int) = n)) then 0 else 3
def word_Check.f (l0_0 l0_1 : List (List Bool)) (a1 : Int) : Option Int := some (wordS l0_0 l0_1 a1)
set_option maxHeartbeats 1000000 in
theorem word_Check.calls (A0_0 : Option Addr) (c0_0 : Nat) (l0_0 : List (List Bool)) (A0_1 : Option Addr) (c0_1 : Nat) (l0_1 : List (List Bool)) (a1 : Int) (r : Int) (w : World) (hr0_0 : Kd.C (Kd.slice 4 Kd.bool) w A0_0 l0_0.length l0_0) (hc0_0 : l0_0.length ≤ c0_0) (hr0_1 : Kd.C (Kd.slice 4 Kd.bool) w A0_1 l0_1.length l0_1) (hc0_1 : l0_1.length ≤ c0_1) (h : word_Check.f l0_0 l0_1 a1 = some r) :
    Calls Tryd.prog 42 #[.agg #[.slice A0_0 l0_0.length c0_0, .slice A0_1 l0_1.length c0_1], .int .i64 a1] w fun e w' => e = .returned (.int .i64 r) ∧ Below w.heap.size w w' := by
  have h := Option.some.inj h
  have HR0 := Aside0.mk hr0_0
  have HR1 := Aside0.mk hr0_1
  have hu24 := Tryd.underlying25
  unfold wordS at h
  clear hr0_0 hr0_1 hc0_0 hc0_1
  by_cases g1 : a1 < 0
  · have q1 : decide (a1 < 0) = true := decide_eq_true g1
    rw [if_pos (.inl g1)] at h
    subst h
    go_enter Tryd.func42, Tryd.ntmps42
    go_wp2_with (first | ((with_reducible refine gate_dst (N := 2) rfl ?_); refine box_event ?hg (N := 2) ?hd (cs := #[.slice A0_0 l0_0.length c0_0, .slice A0_1 l0_1.length c0_1]) (t := 25) ?hr ?_; (case hd => rfl); (case hg => rfl); (case hr => first | (go_simp; done) | (go_simp; rfl)); intro gb hg w1 hbox hb; have HB := Aside0.mk hb; have k0 : w1.cell? ⟨gb, 0, none⟩ = some (.slice A0_0 l0_0.length c0_0) := blk_cell hbox 0; have k1 : w1.cell? ⟨gb, 1, none⟩ = some (.slice A0_1 l0_1.length c0_1) := blk_cell hbox 1; clear hb hbox hg))
    go_ret
    exact ⟨rfl, HB.out⟩
  have q1 : decide (a1 < 0) = false := decide_eq_false g1
  by_cases g2 : a1 > 6
  · have q2 : decide (a1 > 6) = true := decide_eq_true g2
    rw [if_pos (.inr g2)] at h
    subst h
    go_enter Tryd.func42, Tryd.ntmps42
    go_wp2_with (first | ((with_reducible refine gate_dst (N := 2) rfl ?_); refine box_event ?hg (N := 2) ?hd (cs := #[.slice A0_0 l0_0.length c0_0, .slice A0_1 l0_1.length c0_1]) (t := 25) ?hr ?_; (case hd => rfl); (case hg => rfl); (case hr => first | (go_simp; done) | (go_simp; rfl)); intro gb hg w1 hbox hb; have HB := Aside0.mk hb; have k0 : w1.cell? ⟨gb, 0, none⟩ = some (.slice A0_0 l0_0.length c0_0) := blk_cell hbox 0; have k1 : w1.cell? ⟨gb, 1, none⟩ = some (.slice A0_1 l0_1.length c0_1) := blk_cell hbox 1; clear hb hbox hg))
    go_ret
    exact ⟨rfl, HB.out⟩
  have q2 : decide (a1 > 6) = false := decide_eq_false g2
  rw [if_neg (by omega)] at h
  by_cases g3 : 12 < l0_0.length
  · have q3 : decide ((l0_0.length : Int) > 12) = true := decide_eq_true (by omega)
    rw [if_pos (.inl g3)] at h
    subst h
    go_enter Tryd.func42, Tryd.ntmps42
    go_wp2_with (first | ((with_reducible refine gate_dst (N := 2) rfl ?_); refine box_event ?hg (N := 2) ?hd (cs := #[.slice A0_0 l0_0.length c0_0, .slice A0_1 l0_1.length c0_1]) (t := 25) ?hr ?_; (case hd => rfl); (case hg => rfl); (case hr => first | (go_simp; done) | (go_simp; rfl)); intro gb hg w1 hbox hb; have HB := Aside0.mk hb; have k0 : w1.cell? ⟨gb, 0, none⟩ = some (.slice A0_0 l0_0.length c0_0) := blk_cell hbox 0; have k1 : w1.cell? ⟨gb, 1, none⟩ = some (.slice A0_1 l0_1.length c0_1) := blk_cell hbox 1; clear hb hbox hg))
    go_ret
    exact ⟨rfl, HB.out⟩
  have q3 : decide ((l0_0.length : Int) > 12) = false := decide_eq_false (by omega)
  by_cases g4 : l0_1.length < 1
  · have q4 : decide ((l0_1.length : Int) < 1) = true := decide_eq_true (by omega)
    rw [if_pos (.inr (.inl g4))] at h
    subst h
    go_enter Tryd.func42, Tryd.ntmps42
    go_wp2_with (first | ((with_reducible refine gate_dst (N := 2) rfl ?_); refine box_event ?hg (N := 2) ?hd (cs := #[.slice A0_0 l0_0.length c0_0, .slice A0_1 l0_1.length c0_1]) (t := 25) ?hr ?_; (case hd => rfl); (case hg => rfl); (case hr => first | (go_simp; done) | (go_simp; rfl)); intro gb hg w1 hbox hb; have HB := Aside0.mk hb; have k0 : w1.cell? ⟨gb, 0, none⟩ = some (.slice A0_0 l0_0.length c0_0) := blk_cell hbox 0; have k1 : w1.cell? ⟨gb, 1, none⟩ = some (.slice A0_1 l0_1.length c0_1) := blk_cell hbox 1; clear hb hbox hg))
    go_ret
    exact ⟨rfl, HB.out⟩
  have q4 : decide ((l0_1.length : Int) < 1) = false := decide_eq_false (by omega)
  by_cases g5 : 12 < l0_1.length
  · have q5 : decide ((l0_1.length : Int) > 12) = true := decide_eq_true (by omega)
    rw [if_pos (.inr (.inr g5))] at h
    subst h
    go_enter Tryd.func42, Tryd.ntmps42
    go_wp2_with (first | ((with_reducible refine gate_dst (N := 2) rfl ?_); refine box_event ?hg (N := 2) ?hd (cs := #[.slice A0_0 l0_0.length c0_0, .slice A0_1 l0_1.length c0_1]) (t := 25) ?hr ?_; (case hd => rfl); (case hg => rfl); (case hr => first | (go_simp; done) | (go_simp; rfl)); intro gb hg w1 hbox hb; have HB := Aside0.mk hb; have k0 : w1.cell? ⟨gb, 0, none⟩ = some (.slice A0_0 l0_0.length c0_0) := blk_cell hbox 0; have k1 : w1.cell? ⟨gb, 1, none⟩ = some (.slice A0_1 l0_1.length c0_1) := blk_cell hbox 1; clear hb hbox hg))
    go_ret
    exact ⟨rfl, HB.out⟩
  have q5 : decide ((l0_1.length : Int) > 12) = false := decide_eq_false (by omega)
  rw [if_neg (by omega)] at h
  have HH := Aside0.mk h
  clear h
  go_enter Tryd.func42, Tryd.ntmps42
  go_wp2_with (first | ((with_reducible refine gate_dst (N := 2) rfl ?_); refine box_event ?hg (N := 2) ?hd (cs := #[.slice A0_0 l0_0.length c0_0, .slice A0_1 l0_1.length c0_1]) (t := 25) ?hr ?_; (case hd => rfl); (case hg => rfl); (case hr => first | (go_simp; done) | (go_simp; rfl)); intro gb hg w1 hbox hb; have HB := Aside0.mk hb; have k0 : w1.cell? ⟨gb, 0, none⟩ = some (.slice A0_0 l0_0.length c0_0) := blk_cell hbox 0; have k1 : w1.cell? ⟨gb, 1, none⟩ = some (.slice A0_1 l0_1.length c0_1) := blk_cell hbox 1; clear hb hbox hg))
  obtain ⟨w2, hw2⟩ : ∃ w2, w2 = w1.alloc (Obj.cells #[Value.slice A0_0 l0_0.length c0_0, Value.slice A0_1 l0_1.length c0_1] 23) := ⟨_, rfl⟩
  have hB2 : Below w.heap.size w w2 := by rw [hw2]; exact below_alloc HB.out _
  have hb2 : w2.heap[w1.heap.size]? = some (.cells #[Value.slice A0_0 l0_0.length c0_0, Value.slice A0_1 l0_1.length c0_1] 23 (0, 0)) := by rw [hw2]; exact heap_new _ _
  obtain ⟨xs, hx1, hx2⟩ := cells_of (Kd.C_below HR0.out hB2)
  obtain ⟨ys, hy1, hy2⟩ := cells_of (Kd.C_below HR1.out hB2)
  rw [← hw2]
  refine (concatG w1.heap.size A0_0 A0_1 l0_0.length c0_0 l0_1.length c0_1 xs ys w2 hb2 hx1 hy1 (by omega)).mono ?_
  rintro e w3 ⟨v, rfl, ho, hb3⟩
  have hB3 := below_step hB2 hb3
  have hcell : ∀ j, (hj : j < (l0_0 ++ l0_1).length) → ∃ Aj cj, (xs ++ ys)[j]? = some (Value.slice Aj (l0_0 ++ l0_1)[j].length cj) := by
    intro j hj
    rcases Nat.lt_or_ge j l0_0.length with hlt | hge
    · obtain ⟨Aj, cj, e⟩ := hx2 j _ (List.getElem?_eq_getElem hlt)
      exact ⟨Aj, cj, by rw [List.getElem?_append_left (by rw [hx1.1]; exact hlt), e, List.getElem_append_left hlt]⟩
    · have hlt : j - l0_0.length < l0_1.length := by rw [List.length_append] at hj; omega
      obtain ⟨Aj, cj, e⟩ := hy2 (j - l0_0.length) _ (List.getElem?_eq_getElem hlt)
      exact ⟨Aj, cj, by rw [List.getElem?_append_right (by rw [hx1.1]; exact hge), hx1.1, e, List.getElem_append_right hge]⟩
  obtain ⟨L, hL⟩ : ∃ L, L = l0_0 ++ l0_1 := ⟨_, rfl⟩
  have hLl : l0_0.length + l0_1.length = L.length := by rw [hL, List.length_append]
  rw [← hL] at hcell
  rw [hLl] at ho
  have hL25 : 1 ≤ L.length ∧ L.length ≤ 24 := by omega
  obtain ⟨g, cap, rfl⟩ : ∃ g cap, v = .slice (some ⟨g, 0, none⟩) L.length cap := by
    rcases ho.2 with ⟨_, h0⟩ | ⟨g, cap, cur, rfl, _⟩
    · omega
    · exact ⟨g, cap, rfl⟩
  have hread : ∀ j, (hj : j < L.length) → ∃ Aj cj, w3.cell? ⟨g, j, none⟩ = some (Value.slice Aj L[j].length cj) := by
    intro j hj
    obtain ⟨Aj, cj, e⟩ := hcell j hj
    exact ⟨Aj, cj, by rw [ho.cellAt j (by omega), e]⟩
  have HRd := Aside0.mk hread
  have HB3 := Aside0.mk hB3
  have hr := HH.out
  rw [← hL] at hr
  have HHL := Aside0.mk hr
  clear hw2 hB2 hb2 hx1 hx2 hy1 hy2 ho hb3 hB3 hcell hL hLl hread HH HB HR0 HR1 hr k0 k1 q3 q4 q5 g3 g4 g5
  go_wp2_with fail
  go_loop [36] (fun t36 => ∃ j : Nat, t36 = .int .i64 (j : Int) ∧ Aside0 (j ≤ L.length ∧ (L.take j).all (fun x => decide ((x.length : Int) = a1)) = true)) (fun t36 => L.length - (intOf t36).toNat)
  case atStart => exact ⟨0, rfl, ⟨Nat.zero_le _, rfl⟩⟩
  case round =>
    obtain ⟨j, rfl, HJ⟩ := hrel
    by_cases hlt : j < L.length
    · have hq : decide ((j : Int) < (L.length : Int)) = true := decide_eq_true (by omega)
      have hq2 : decide (j < L.length) = true := decide_eq_true hlt
      obtain ⟨Aj, cj, y⟩ := HRd.out j hlt
      obtain ⟨m, hm⟩ : ∃ m, m = L[j].length := ⟨_, rfl⟩
      rw [← hm] at y
      have HM := Aside0.mk hm
      clear hm
      have e1 : IntKind.i64.wrap ((j : Int) + 1) = (j : Int) + 1 := by rw [IntKind.wrap_i64]; omega
      by_cases g : (m : Int) = a1
      · have q6 : ((m : Int) != a1) = false := by rw [g]; simp
        have HG := Aside0.mk g
        clear g
        go_wp2
        go_round
        case rel =>
          refine ⟨j + 1, by go_num, ⟨by omega, ?_⟩⟩
          rw [List.take_succ_eq_append_getElem hlt, List.all_append, HJ.out.2]
          simp only [List.all_cons, List.all_nil, Bool.and_true, Bool.true_and]
          rw [← HM.out]
          exact decide_eq_true HG.out
        case measure => simp [intOf]; omega
      · have q6 : ((m : Int) != a1) = true := by rw [bne_iff_ne]; exact g
        have hr := HHL.out
        rw [if_neg (by
          rw [List.all_eq_true]
          intro hc
          have := of_decide_eq_true (hc L[j] (List.getElem_mem hlt))
          rw [← HM.out] at this
          exact g this)] at hr
        subst hr
        clear g
        go_wp2
        go_ret
        exact ⟨rfl, HB3.out⟩
    · have hq : decide ((j : Int) < (L.length : Int)) = false := decide_eq_false (by omega)
      have hj : j = L.length := by have := HJ.out.1; omega
      have hall := HJ.out.2
      rw [hj, List.take_of_length_le (Nat.le_refl _)] at hall
      have hr := HHL.out
      rw [if_pos hall] at hr
      subst hr
      clear hall hj
      go_wp2
      go_ret
      exact ⟨rfl, HB3.out⟩
end
end Go.Proofs.YthffpjkkmkjplaaDoor.Q
