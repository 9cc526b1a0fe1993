import Derived.Test.YthffpjkkmkjplaaDoorKWordClaimsG7
import Derived.Test.YthffpjkkmkjplaaDoorKWordClaimsG16
import Derived.Deep.RegionHeld3
import Derived.Test.YthffpjkkmkjplaaDoorKWordClaimsG19
-- Cut by a program of this session (wip/prune.py) from a longer text: declarations that the law does not need are left out.
namespace Go.Proofs.YthffpjkkmkjplaaDoor.Q
open Go.RowKit Go.Proofs.YthffpjkkmkjplaaDoorW.PrintWords Go.Proofs.YthffpjkkmkjplaaDoorW.PrintLast Go.Proofs.YthffpjkkmkjplaaDoorW.PrintMore
attribute [local go_sem] max2_int min2_int max_two min_two max_three min_three max_four min_four
set_option linter.unusedVariables false
set_option linter.unusedSimpArgs false
section
open Go.Proofs.YthffpjkkmkjplaaDoor.Hand
open Go.Proofs.YthffpjkkmkjplaaDoor.Pure (rowS oneS pS pS_in pS_lt behS behS_pS uE uE_succ uRow_get rowS_get)
def saidB (l : List S65) (st lp rows : List (List Bool)) (a i : Int) : Bool :=
  (match scan l 1 with | .ok r => r.isEmpty | .error _ => false) && decide (l.length ≤ 60 ∧ st.length ≤ 12 ∧ 0 < lp.length ∧ lp.length ≤ 12 ∧ 0 ≤ a ∧ a < (l.length : Int) ∧ 0 ≤ i ∧ i < ((st ++ lp).length : Int) ∧ rows.length = l.length) && l.all (fun o => decide (Pure.fit (((st ++ lp).getD 0 []).length : Int) o = 0)) && (st ++ lp).all (fun x => decide (x.length = ((st ++ lp).getD 0 []).length)) && (rows.drop (a.toNat + 1)).all (fun x => decide (x.length = (st ++ lp).length))
def saidV (l : List S65) (st lp rows : List (List Bool)) (a i : Int) : Bool :=
  (rowS (st ++ lp).length lp.length (st ++ lp) (rd_T65 l a) (rows.getD (a.toNat + 1) []) (rows.getD (a.toNat + 1 + (endAt (l.drop (a.toNat + 1)) 0).toNat) [])).getD i.toNat false
set_option maxRecDepth 100000 in
set_option maxHeartbeats 4000000 in
theorem said_calls (n c pn : Nat) (A0 : Option Addr) (c0 : Nat) (l : List S65) (A1 : Option Addr) (c1 : Nat) (st : List (List Bool)) (A2 : Option Addr) (c2 : Nat) (lp : List (List Bool)) (A3 : Option Addr) (c3 : Nat) (rows : List (List Bool)) (a i : Nat) (w : World)
    (hr0 : Kd.C k65 w A0 l.length l) (hc0 : l.length ≤ c0) (hr1 : Kd.C (Kd.slice 4 Kd.bool) w A1 st.length st) (hc1 : st.length ≤ c1) (hr2 : Kd.C (Kd.slice 4 Kd.bool) w A2 lp.length lp) (hc2 : lp.length ≤ c2) (hr3 : Kd.C (Kd.slice 4 Kd.bool) w A3 rows.length rows) (hc3 : rows.length ≤ c3)
    (h1 : one l) (h60 : l.length ≤ 60) (hf : ∀ o ∈ l, Pure.fit (pn : Int) o = 0) (hw : ∀ x ∈ st ++ lp, x.length = pn) (hn : n = st.length + lp.length) (hcc : c = lp.length) (hs : st.length ≤ 12) (hp0 : 0 < c) (hl : c ≤ 12) (ha : a < l.length) (hi : i < n) (hrl : rows.length = l.length) (hrow : ∀ j, a < j → j < l.length → (rows.getD j []).length = n) :
    Calls Tryd.prog 48 #[.slice A0 l.length c0, .agg #[.slice A1 st.length c1, .slice A2 lp.length c2], .slice A3 rows.length c3, .int .i64 (a : Int), .int .i64 (i : Int)] w fun e w' => e = .returned (.bool ((rowS n c (st ++ lp) l[a] (rows.getD (a + 1) []) (rows.getD (a + 1 + (endAt (l.drop (a + 1)) 0).toNat) [])).getD i false)) ∧ Below w.heap.size w w' := by
  have hu24 := Tryd.underlying25
  obtain ⟨ad, e0, x0, x1⟩ := at_T65 hr0 (a : Int) (by omega) (by omega)
  subst e0
  obtain ⟨o, ho⟩ : ∃ o, o = l[a] := ⟨_, rfl⟩
  have hg : rd_T65 l (a : Int) = o := by rw [ho]; exact Base.getD_get _ _ _ ha
  rw [hg, Int.toNat_natCast] at x0 x1
  have q1 : decide ((a : Int) < (l.length : Int)) = true := decide_eq_true (by omega)
  have q2 : decide (a < l.length) = true := decide_eq_true ha
  have q3 : ((a : Int) < (l.length : Int)) = True := eq_true (by omega)
  have q4 : (0 ≤ (a : Int)) = True := eq_true (by omega)
  obtain ⟨en, hen⟩ : ∃ en : Nat, en = i + n := ⟨_, rfl⟩
  obtain ⟨a1, ha1⟩ : ∃ a1 : Nat, a1 = a + 1 := ⟨_, rfl⟩
  obtain ⟨i1, hi1⟩ : ∃ i1 : Nat, i1 = i + 1 := ⟨_, rfl⟩
  have e1 : IntKind.i64.wrap ((i : Int) + (st.length : Int)) = (i : Int) + (st.length : Int) := by rw [IntKind.wrap_i64]; omega
  have e2 : IntKind.i64.wrap ((i : Int) + (st.length : Int) + (lp.length : Int)) = (en : Int) := by rw [IntKind.wrap_i64]; omega
  have e3 : IntKind.i64.wrap ((a : Int) + 1) = (a1 : Int) := by rw [IntKind.wrap_i64]; omega
  have e4 : IntKind.i64.wrap ((i : Int) + 1) = (i1 : Int) := by rw [IntKind.wrap_i64]; omega
  have hkind := Pure.kind_of h1 a ha (hf _ (List.getElem_mem ha))
  have HFirst := Aside0.mk (fun m hq => Pure.first_at h1 a ha m hq)
  have HSecond := Aside0.mk (fun hq => Pure.second_at h1 a ha hq)
  have HSec := Aside0.mk (fun hq => Pure.secondAt_ev h1 h60 a ha hq)
  have HMo := Aside0.mk (Pure.momentOf_ev st lp n c hn hcc hs hp0 hl)
  have HLe := Aside0.mk (Pure.letterAt_small st lp i (by omega) (by omega) (by omega))
  have HHw := Aside0.mk hw
  have HNL := Aside0.mk (show (st ++ lp).length = n by rw [List.length_append]; omega)
  have HRow := Aside0.mk hrow
  have HCn := Aside0.mk (show c ≤ n ∧ n ≤ 24 by omega)
  have HR0 := Aside0.mk hr0
  have HC0 := Aside0.mk hc0
  have HR1 := Aside0.mk hr1
  have HC1 := Aside0.mk hc1
  have HR2 := Aside0.mk hr2
  have HC2 := Aside0.mk hc2
  have HR3 := Aside0.mk hr3
  have HRL := Aside0.mk hrl
  have HP0 := Aside0.mk hp0
  rw [← ho] at hkind HFirst HSecond HSec ⊢
  obtain ⟨r, hr⟩ : ∃ r, r = (rowS n c (st ++ lp) o (rows.getD (a + 1) []) (rows.getD (a + 1 + (endAt (l.drop (a + 1)) 0).toNat) [])).getD i false := ⟨_, rfl⟩
  rw [← hr]
  have HI := Aside0.mk hi
  have HEN := Aside0.mk (And.intro hen (And.intro ha1 hi1))
  have HA := Aside0.mk ha
  have H60 := Aside0.mk h60
  clear hr0 hc0 hr1 hc1 hr2 hc2 hr3 h1 hf hw hn hs hrow hrl ho hg hcc hp0 hl ha h60 hi hen ha1 hi1
  rcases hkind with ⟨e, f1, f2⟩ | e | e | ⟨e, hq⟩ | ⟨e, hq⟩ | ⟨e, hq⟩ | ⟨f1, f2⟩
  · obtain ⟨fv, hfv⟩ : ∃ fv : Nat, o.f1 = (fv : Int) := ⟨o.f1.toNat, by omega⟩
    have hr1 : r = ((st ++ lp).getD i []).getD fv false := by rw [hr, rowS_get (o := o) (by omega) HI.out]; unfold oneS; rw [if_pos e, hfv, Int.toNat_natCast]
    have hll : ((st ++ lp).getD i []).length = pn := by rw [List.getD_eq_getElem?_getD, List.getElem?_eq_getElem (by rw [HNL.out]; exact HI.out)]; exact HHw.out _ (List.getElem_mem _)
    subst hr1
    rw [e] at x0
    rw [hfv] at x1
    obtain ⟨L, hL⟩ : ∃ L, L = (st ++ lp).getD i [] := ⟨_, rfl⟩
    rw [← hL] at hll HLe ⊢
    have d1 : decide ((fv : Int) < (L.length : Int)) = true := decide_eq_true (by omega)
    have d2 : decide (fv < L.length) = true := decide_eq_true (by omega)
    have d3 : ((fv : Int) < (L.length : Int)) = True := eq_true (by omega)
    have d4 : (0 ≤ (fv : Int)) = True := eq_true (by omega)
    have HFV := Aside0.mk (show fv < L.length by omega)
    obtain ⟨K, hK⟩ := HLe.out
    have HK := Aside0.mk (hK K (Nat.le_refl _))
    clear hr hK hL hll HLe f1 f2 hfv
    go_enter Tryd.func48, Tryd.ntmps48
    go_wp2_with (first | ((with_reducible refine gate_dst (N := 6) rfl ?_); refine box_event ?hg (N := 6) ?hd (cs := #[.slice A1 st.length c1, .slice A2 lp.length c2]) (t := 25) ?hr ?_; (case hd => rfl); (case hg => rfl); (case hr => first | (go_simp; done) | (go_simp; rfl)); intro gb hg w1 hbox hb; have HB := Aside0.mk hb; have HX := Aside0.mk hbox; have k0 : w1.cell? ⟨gb, 0, none⟩ = some (.slice A1 st.length c1) := blk_cell hbox 0; have k1 : w1.cell? ⟨gb, 1, none⟩ = some (.slice A2 lp.length c2) := blk_cell hbox 1; replace x0 := (hb.cell (World.block_lt_of_cell? w _ x0)).trans x0; replace x1 := (hb.cell (World.block_lt_of_cell? w _ x1)).trans x1; clear hb hbox hg))
    go_region_with (first | (go_at_call 75; refine (foretellref_letterAt.calls K (fun k_ => k_ < w.heap.size) _ _ st (fun k_ => k_ < w.heap.size) _ _ lp _ _ _ ?hca ?hcb HK.out).mono ?_; (case hca => exact Kd.V_mk HC1.out (Kd.F_below (Kd.C_F (Kd.heap_slice 4 Kd.heap_bool) HR1.out) HB.out.drew)); (case hcb => exact Kd.V_mk HC2.out (Kd.F_below (Kd.C_F (Kd.heap_slice 4 Kd.heap_bool) HR2.out) HB.out.drew)); rintro e w5 ⟨v5, rfl, ho, hb⟩; obtain ⟨Av, cv, rfl⟩ := Kd.V_slice ho; obtain ⟨adv, ev, xv⟩ := Kd.at_bool (Kd.V_reads' ho).2.2 (fv : Int) (by omega) (by have := HFV.out; omega); subst ev; rw [Int.toNat_natCast] at xv; have HB5 := Aside0.mk (below_step HB.out.drew hb); have u0 : w5.cell? ⟨gb, 0, none⟩ = some (.slice A1 st.length c1) := blk_cell (blk_below (blk_drew HX.out) hb) 0; have u1 : w5.cell? ⟨gb, 1, none⟩ = some (.slice A2 lp.length c2) := blk_cell (blk_below (blk_drew HX.out) hb) 1; have u2 := (hb.cell (World.block_lt_of_cell? _ _ x1)).trans x1; clear ho hb))
    all_goals (go_wp2_with fail; go_ret; exact ⟨by simp [List.getD_eq_getElem?_getD] <;> rfl, HB5.out⟩)
  · have hr1 : r = true := by rw [hr, rowS_get (o := o) (by omega) HI.out]; unfold oneS; rw [if_neg (by omega), if_pos e]
    subst hr1
    rw [e] at x0
    clear hr x1
    go_enter Tryd.func48, Tryd.ntmps48
    go_wp2_with (first | ((with_reducible refine gate_dst (N := 6) rfl ?_); refine box_event ?hg (N := 6) ?hd (cs := #[.slice A1 st.length c1, .slice A2 lp.length c2]) (t := 25) ?hr ?_; (case hd => rfl); (case hg => rfl); (case hr => first | (go_simp; done) | (go_simp; rfl)); intro gb hg w1 hbox hb; have HB := Aside0.mk hb; have HX := Aside0.mk hbox; have k0 : w1.cell? ⟨gb, 0, none⟩ = some (.slice A1 st.length c1) := blk_cell hbox 0; have k1 : w1.cell? ⟨gb, 1, none⟩ = some (.slice A2 lp.length c2) := blk_cell hbox 1; replace x0 := (hb.cell (World.block_lt_of_cell? w _ x0)).trans x0; clear hb hbox hg))
    go_ret
    exact ⟨rfl, HB.out⟩
  · have hr1 : r = false := by rw [hr, rowS_get (o := o) (by omega) HI.out]; unfold oneS; rw [if_neg (by omega), if_neg (by omega), if_neg (by omega), if_neg (by omega), if_neg (by omega), if_neg (by omega)]
    subst hr1
    rw [e] at x0
    clear hr x1
    go_enter Tryd.func48, Tryd.ntmps48
    go_wp2_with (first | ((with_reducible refine gate_dst (N := 6) rfl ?_); refine box_event ?hg (N := 6) ?hd (cs := #[.slice A1 st.length c1, .slice A2 lp.length c2]) (t := 25) ?hr ?_; (case hd => rfl); (case hg => rfl); (case hr => first | (go_simp; done) | (go_simp; rfl)); intro gb hg w1 hbox hb; have HB := Aside0.mk hb; have HX := Aside0.mk hbox; have k0 : w1.cell? ⟨gb, 0, none⟩ = some (.slice A1 st.length c1) := blk_cell hbox 0; have k1 : w1.cell? ⟨gb, 1, none⟩ = some (.slice A2 lp.length c2) := blk_cell hbox 1; replace x0 := (hb.cell (World.block_lt_of_cell? w _ x0)).trans x0; clear hb hbox hg))
    go_ret
    exact ⟨rfl, HB.out⟩
  · have s1 := HFirst.out 0 hq
    obtain ⟨g1, g2, g3⟩ := HEN.out
    rw [← g2] at s1 hr
    have HS1 := Aside0.mk s1
    obtain ⟨RA, hRA⟩ : ∃ RA, RA = rows.getD a1 [] := ⟨_, rfl⟩
    obtain ⟨adA, AA, cA, eA, yA, lA, kA⟩ := at_L3 HR3.out (a1 : Int) (by omega) (by rw [HRL.out]; exact_mod_cast HS1.out)
    have nA : RA.length = n := by rw [hRA]; exact HRow.out a1 (by omega) (by exact_mod_cast HS1.out)
    rw [show rd_L3 rows (a1 : Int) = RA by rw [hRA]; rfl] at yA lA kA
    rw [nA, Int.toNat_natCast] at yA
    have NA := Aside0.mk nA
    have KA := Aside0.mk kA
    subst eA
    obtain ⟨azA, fzA, zA⟩ := Kd.at_bool KA.out (i : Int) (by omega) (by rw [NA.out]; exact_mod_cast HI.out)
    cases fzA
    rw [Int.toNat_natCast, Pure.rdN] at zA
    obtain ⟨bzA, hbzA⟩ : ∃ b, b = RA.getD i false := ⟨_, rfl⟩
    rw [← hbzA] at zA
    have hr1 : r = !bzA := by rw [hr, rowS_get (o := o) (by omega) HI.out]; unfold oneS; rw [if_neg (by omega), if_neg (by omega), if_pos e, ← hRA, ← hbzA]
    subst hr1
    rw [e] at x0
    have p1 : decide ((a1 : Int) < (rows.length : Int)) = true := decide_eq_true (by have := HRL.out; omega)
    have p2 : decide (a1 < rows.length) = true := decide_eq_true (by have := HRL.out; omega)
    have p3 : ((a1 : Int) < (rows.length : Int)) = True := eq_true (by have := HRL.out; omega)
    have p4 : (0 ≤ (a1 : Int)) = True := eq_true (by omega)
    have u1 : decide ((i : Int) < (n : Int)) = true := decide_eq_true (by have := HI.out; omega)
    have u2 : decide (i < n) = true := decide_eq_true (by have := HI.out; omega)
    have u3 : ((i : Int) < (n : Int)) = True := eq_true (by have := HI.out; omega)
    have u4 : (0 ≤ (i : Int)) = True := eq_true (by omega)
    clear hr x1 hRA hbzA lA kA nA s1 g1 g2 g3
    go_enter Tryd.func48, Tryd.ntmps48
    go_wp2_with (first | ((with_reducible refine gate_dst (N := 6) rfl ?_); refine box_event ?hg (N := 6) ?hd (cs := #[.slice A1 st.length c1, .slice A2 lp.length c2]) (t := 25) ?hr ?_; (case hd => rfl); (case hg => rfl); (case hr => first | (go_simp; done) | (go_simp; rfl)); intro gb hg w1 hbox hb; have HB := Aside0.mk hb; have HX := Aside0.mk hbox; have k0 : w1.cell? ⟨gb, 0, none⟩ = some (.slice A1 st.length c1) := blk_cell hbox 0; have k1 : w1.cell? ⟨gb, 1, none⟩ = some (.slice A2 lp.length c2) := blk_cell hbox 1; replace x0 := (hb.cell (World.block_lt_of_cell? w _ x0)).trans x0; replace yA := (hb.cell (World.block_lt_of_cell? w _ yA)).trans yA; replace zA := (hb.cell (World.block_lt_of_cell? w _ zA)).trans zA; clear hb hbox hg))
    go_ret
    exact ⟨rfl, HB.out⟩
  · have hk8 : True := trivial
    obtain ⟨s1, s2, s3, s4⟩ := HSecond.out hq
    obtain ⟨K, hK⟩ := HSec.out hq
    have HK := Aside0.mk (hK K (Nat.le_refl _))
    obtain ⟨g1, g2, g3⟩ := HEN.out
    obtain ⟨s, hs⟩ : ∃ s, s = a + 1 + (endAt (l.drop (a + 1)) 0).toNat := ⟨_, rfl⟩
    rw [← hs] at HK hr
    rw [← g2] at hr
    have HS1 := Aside0.mk (show a1 < l.length by omega)
    have HS2 := Aside0.mk (show s < l.length ∧ a < s by omega)
    obtain ⟨RA, hRA⟩ : ∃ RA, RA = rows.getD a1 [] := ⟨_, rfl⟩
    obtain ⟨adA, AA, cA, eA, yA, lA, kA⟩ := at_L3 HR3.out (a1 : Int) (by omega) (by rw [HRL.out]; exact_mod_cast HS1.out)
    have nA : RA.length = n := by rw [hRA]; exact HRow.out a1 (by omega) (by exact_mod_cast HS1.out)
    rw [show rd_L3 rows (a1 : Int) = RA by rw [hRA]; rfl] at yA lA kA
    rw [nA, Int.toNat_natCast] at yA
    have NA := Aside0.mk nA
    have KA := Aside0.mk kA
    obtain ⟨RB, hRB⟩ : ∃ RB, RB = rows.getD s [] := ⟨_, rfl⟩
    obtain ⟨adB, AB, cB, eB, yB, lB, kB⟩ := at_L3 HR3.out (s : Int) (by omega) (by rw [HRL.out]; exact_mod_cast HS2.out.1)
    have nB : RB.length = n := by rw [hRB]; exact HRow.out s (by exact HS2.out.2) (by exact_mod_cast HS2.out.1)
    rw [show rd_L3 rows (s : Int) = RB by rw [hRB]; rfl] at yB lB kB
    rw [nB, Int.toNat_natCast] at yB
    have NB := Aside0.mk nB
    have KB := Aside0.mk kB
    subst eA
    obtain rfl : adA = adB := by injection eB
    have p1 : decide ((a1 : Int) < (rows.length : Int)) = true := decide_eq_true (by have := HRL.out; have := HS1.out; omega)
    have p2 : decide (a1 < rows.length) = true := decide_eq_true (by have := HRL.out; have := HS1.out; omega)
    have p3 : ((a1 : Int) < (rows.length : Int)) = True := eq_true (by have := HRL.out; have := HS1.out; omega)
    have p4 : (0 ≤ (a1 : Int)) = True := eq_true (by omega)
    have v1 : decide ((s : Int) < (rows.length : Int)) = true := decide_eq_true (by have := HRL.out; have := HS2.out; omega)
    have v2 : decide (s < rows.length) = true := decide_eq_true (by have := HRL.out; have := HS2.out; omega)
    have v3 : ((s : Int) < (rows.length : Int)) = True := eq_true (by have := HRL.out; have := HS2.out; omega)
    have v4 : (0 ≤ (s : Int)) = True := eq_true (by omega)
    obtain ⟨azA, fzA, zA⟩ := Kd.at_bool KA.out (i : Int) (by omega) (by rw [NA.out]; exact_mod_cast HI.out)
    cases fzA
    rw [Int.toNat_natCast, Pure.rdN] at zA
    obtain ⟨bzA, hbzA⟩ : ∃ b, b = RA.getD i false := ⟨_, rfl⟩
    rw [← hbzA] at zA
    obtain ⟨azB, fzB, zB⟩ := Kd.at_bool KB.out (i : Int) (by omega) (by rw [NB.out]; exact_mod_cast HI.out)
    cases fzB
    rw [Int.toNat_natCast, Pure.rdN] at zB
    obtain ⟨bzB, hbzB⟩ : ∃ b, b = RB.getD i false := ⟨_, rfl⟩
    rw [← hbzB] at zB
    have hr1 : r = (bzA && bzB) := by rw [hr, rowS_get (o := o) (by omega) HI.out, Pure.oneS_8 e, ← hRA, ← hRB, ← hbzA, ← hbzB]
    subst hr1
    rw [e] at x0
    have u1 : decide ((i : Int) < (n : Int)) = true := decide_eq_true (by have := HI.out; omega)
    have u2 : decide (i < n) = true := decide_eq_true (by have := HI.out; omega)
    have u3 : ((i : Int) < (n : Int)) = True := eq_true (by have := HI.out; omega)
    have u4 : (0 ≤ (i : Int)) = True := eq_true (by omega)
    clear hr x1 hRA hbzA lA kA nA s1 hRB hbzB lB kB nB s2 s3 s4 hK hs g1 g2 g3 hk8
    cases bzA <;> cases bzB
    all_goals (go_enter Tryd.func48, Tryd.ntmps48; go_wp2_with (first | ((with_reducible refine gate_dst (N := 6) rfl ?_); refine box_event ?hg (N := 6) ?hd (cs := #[.slice A1 st.length c1, .slice A2 lp.length c2]) (t := 25) ?hr ?_; (case hd => rfl); (case hg => rfl); (case hr => first | (go_simp; done) | (go_simp; rfl)); intro gb hg w1 hbox hb; have HB := Aside0.mk hb; have HX := Aside0.mk hbox; have k0 : w1.cell? ⟨gb, 0, none⟩ = some (.slice A1 st.length c1) := blk_cell hbox 0; have k1 : w1.cell? ⟨gb, 1, none⟩ = some (.slice A2 lp.length c2) := blk_cell hbox 1; replace x0 := (hb.cell (World.block_lt_of_cell? w _ x0)).trans x0; replace yA := (hb.cell (World.block_lt_of_cell? w _ yA)).trans yA; replace yB := (hb.cell (World.block_lt_of_cell? w _ yB)).trans yB; replace zA := (hb.cell (World.block_lt_of_cell? w _ zA)).trans zA; replace zB := (hb.cell (World.block_lt_of_cell? w _ zB)).trans zB; clear hb hbox hg) | (go_at_call 77; refine (foretellref_secondAt.calls K _ _ l _ _ _ (Kd.C_below HR0.out HB.out) HC0.out HK.out).mono ?_; rintro e w5 ⟨rfl, ⟨nd, rfl⟩⟩)); go_ret; exact ⟨rfl, pw_below_drewN HB.out nd⟩)
  · have hk8 : True := trivial
    obtain ⟨s1, s2, s3, s4⟩ := HSecond.out hq
    obtain ⟨K, hK⟩ := HSec.out hq
    have HK := Aside0.mk (hK K (Nat.le_refl _))
    obtain ⟨g1, g2, g3⟩ := HEN.out
    obtain ⟨s, hs⟩ : ∃ s, s = a + 1 + (endAt (l.drop (a + 1)) 0).toNat := ⟨_, rfl⟩
    rw [← hs] at HK hr
    rw [← g2] at hr
    have HS1 := Aside0.mk (show a1 < l.length by omega)
    have HS2 := Aside0.mk (show s < l.length ∧ a < s by omega)
    obtain ⟨RA, hRA⟩ : ∃ RA, RA = rows.getD a1 [] := ⟨_, rfl⟩
    obtain ⟨adA, AA, cA, eA, yA, lA, kA⟩ := at_L3 HR3.out (a1 : Int) (by omega) (by rw [HRL.out]; exact_mod_cast HS1.out)
    have nA : RA.length = n := by rw [hRA]; exact HRow.out a1 (by omega) (by exact_mod_cast HS1.out)
    rw [show rd_L3 rows (a1 : Int) = RA by rw [hRA]; rfl] at yA lA kA
    rw [nA, Int.toNat_natCast] at yA
    have NA := Aside0.mk nA
    have KA := Aside0.mk kA
    obtain ⟨RB, hRB⟩ : ∃ RB, RB = rows.getD s [] := ⟨_, rfl⟩
    obtain ⟨adB, AB, cB, eB, yB, lB, kB⟩ := at_L3 HR3.out (s : Int) (by omega) (by rw [HRL.out]; exact_mod_cast HS2.out.1)
    have nB : RB.length = n := by rw [hRB]; exact HRow.out s (by exact HS2.out.2) (by exact_mod_cast HS2.out.1)
    rw [show rd_L3 rows (s : Int) = RB by rw [hRB]; rfl] at yB lB kB
    rw [nB, Int.toNat_natCast] at yB
    have NB := Aside0.mk nB
    have KB := Aside0.mk kB
    subst eA
    obtain rfl : adA = adB := by injection eB
    have p1 : decide ((a1 : Int) < (rows.length : Int)) = true := decide_eq_true (by have := HRL.out; have := HS1.out; omega)
    have p2 : decide (a1 < rows.length) = true := decide_eq_true (by have := HRL.out; have := HS1.out; omega)
    have p3 : ((a1 : Int) < (rows.length : Int)) = True := eq_true (by have := HRL.out; have := HS1.out; omega)
    have p4 : (0 ≤ (a1 : Int)) = True := eq_true (by omega)
    have v1 : decide ((s : Int) < (rows.length : Int)) = true := decide_eq_true (by have := HRL.out; have := HS2.out; omega)
    have v2 : decide (s < rows.length) = true := decide_eq_true (by have := HRL.out; have := HS2.out; omega)
    have v3 : ((s : Int) < (rows.length : Int)) = True := eq_true (by have := HRL.out; have := HS2.out; omega)
    have v4 : (0 ≤ (s : Int)) = True := eq_true (by omega)
    obtain ⟨azA, fzA, zA⟩ := Kd.at_bool KA.out (i : Int) (by omega) (by rw [NA.out]; exact_mod_cast HI.out)
    cases fzA
    rw [Int.toNat_natCast, Pure.rdN] at zA
    obtain ⟨bzA, hbzA⟩ : ∃ b, b = RA.getD i false := ⟨_, rfl⟩
    rw [← hbzA] at zA
    obtain ⟨azB, fzB, zB⟩ := Kd.at_bool KB.out (i : Int) (by omega) (by rw [NB.out]; exact_mod_cast HI.out)
    cases fzB
    rw [Int.toNat_natCast, Pure.rdN] at zB
    obtain ⟨bzB, hbzB⟩ : ∃ b, b = RB.getD i false := ⟨_, rfl⟩
    rw [← hbzB] at zB
    have hr1 : r = (bzA || bzB) := by rw [hr, rowS_get (o := o) (by omega) HI.out, Pure.oneS_9 e, ← hRA, ← hRB, ← hbzA, ← hbzB]
    subst hr1
    rw [e] at x0
    have u1 : decide ((i : Int) < (n : Int)) = true := decide_eq_true (by have := HI.out; omega)
    have u2 : decide (i < n) = true := decide_eq_true (by have := HI.out; omega)
    have u3 : ((i : Int) < (n : Int)) = True := eq_true (by have := HI.out; omega)
    have u4 : (0 ≤ (i : Int)) = True := eq_true (by omega)
    clear hr x1 hRA hbzA lA kA nA s1 hRB hbzB lB kB nB s2 s3 s4 hK hs g1 g2 g3 hk8
    cases bzA <;> cases bzB
    all_goals (go_enter Tryd.func48, Tryd.ntmps48; go_wp2_with (first | ((with_reducible refine gate_dst (N := 6) rfl ?_); refine box_event ?hg (N := 6) ?hd (cs := #[.slice A1 st.length c1, .slice A2 lp.length c2]) (t := 25) ?hr ?_; (case hd => rfl); (case hg => rfl); (case hr => first | (go_simp; done) | (go_simp; rfl)); intro gb hg w1 hbox hb; have HB := Aside0.mk hb; have HX := Aside0.mk hbox; have k0 : w1.cell? ⟨gb, 0, none⟩ = some (.slice A1 st.length c1) := blk_cell hbox 0; have k1 : w1.cell? ⟨gb, 1, none⟩ = some (.slice A2 lp.length c2) := blk_cell hbox 1; replace x0 := (hb.cell (World.block_lt_of_cell? w _ x0)).trans x0; replace yA := (hb.cell (World.block_lt_of_cell? w _ yA)).trans yA; replace yB := (hb.cell (World.block_lt_of_cell? w _ yB)).trans yB; replace zA := (hb.cell (World.block_lt_of_cell? w _ zA)).trans zA; replace zB := (hb.cell (World.block_lt_of_cell? w _ zB)).trans zB; clear hb hbox hg) | (go_at_call 77; refine (foretellref_secondAt.calls K _ _ l _ _ _ (Kd.C_below HR0.out HB.out) HC0.out HK.out).mono ?_; rintro e w5 ⟨rfl, ⟨nd, rfl⟩⟩)); go_ret; exact ⟨rfl, pw_below_drewN HB.out nd⟩)
  · have hk : o.f0 = 14 ∨ o.f0 = 15 ∨ o.f0 = 16 ∨ o.f0 = 17 ∨ o.f0 = 18 := by omega
    clear f1 f2
    rcases hk with e | e | e | e | e
    · have s1 := HFirst.out 0 (show arIs o 1 by unfold arIs; rw [e]; decide)
      obtain ⟨g1, g2, g3⟩ := HEN.out
      rw [← g2] at s1 hr
      have HS1 := Aside0.mk s1
      obtain ⟨RA, hRA⟩ : ∃ RA, RA = rows.getD a1 [] := ⟨_, rfl⟩
      obtain ⟨adA, AA, cA, eA, yA, lA, kA⟩ := at_L3 HR3.out (a1 : Int) (by omega) (by rw [HRL.out]; exact_mod_cast HS1.out)
      have nA : RA.length = n := by rw [hRA]; exact HRow.out a1 (by omega) (by exact_mod_cast HS1.out)
      rw [show rd_L3 rows (a1 : Int) = RA by rw [hRA]; rfl] at yA lA kA
      rw [nA, Int.toNat_natCast] at yA
      have NA := Aside0.mk nA
      have KA := Aside0.mk kA
      subst eA
      have hq := behS_pS (n := n) (c := c) HP0.out HCn.out.1 i
      rw [pS_lt HI.out] at hq
      obtain ⟨q, hqq⟩ : ∃ q, q = behS n (n - c) i := ⟨_, rfl⟩
      have hqn : q < n := by rw [hqq, hq]; exact pS_in HP0.out HCn.out.1 _
      have HQ := Aside0.mk hqn
      obtain ⟨KM, hKM⟩ := HMo.out (i + 1) (by have := HI.out; have := HCn.out; omega)
      have HKM := Aside0.mk (hKM KM (Nat.le_refl _))
      rw [← hq, ← hqq, ← g3] at HKM
      obtain ⟨azA, fzA, zA⟩ := Kd.at_bool KA.out (q : Int) (by omega) (by rw [NA.out]; exact_mod_cast HQ.out)
      cases fzA
      rw [Int.toNat_natCast, Pure.rdN] at zA
      obtain ⟨bzA, hbzA⟩ : ∃ b, b = RA.getD q false := ⟨_, rfl⟩
      rw [← hbzA] at zA
      have hr1 : r = bzA := by rw [hr, rowS_get (o := o) (by omega) HI.out]; unfold oneS; rw [if_neg (by omega), if_neg (by omega), if_neg (by omega), if_neg (by omega), if_neg (by omega), if_pos e, ← hRA, ← hqq, ← hbzA]
      rw [hr1]
      rw [e] at x0
      have p1 : decide ((a1 : Int) < (rows.length : Int)) = true := decide_eq_true (by have := HRL.out; omega)
      have p2 : decide (a1 < rows.length) = true := decide_eq_true (by have := HRL.out; omega)
      have p3 : ((a1 : Int) < (rows.length : Int)) = True := eq_true (by have := HRL.out; omega)
      have p4 : (0 ≤ (a1 : Int)) = True := eq_true (by omega)
      have u1 : decide ((q : Int) < (n : Int)) = true := decide_eq_true (by have := HQ.out; omega)
      have u2 : decide (q < n) = true := decide_eq_true (by have := HQ.out; omega)
      have u3 : ((q : Int) < (n : Int)) = True := eq_true (by have := HQ.out; omega)
      have u4 : (0 ≤ (q : Int)) = True := eq_true (by omega)
      clear hr hr1 x1 hRA hbzA lA kA nA s1 hq hqq hqn hKM g1 g2 g3
      go_enter Tryd.func48, Tryd.ntmps48
      go_wp2_with (first | ((with_reducible refine gate_dst (N := 6) rfl ?_); refine box_event ?hg (N := 6) ?hd (cs := #[.slice A1 st.length c1, .slice A2 lp.length c2]) (t := 25) ?hr ?_; (case hd => rfl); (case hg => rfl); (case hr => first | (go_simp; done) | (go_simp; rfl)); intro gb hg w1 hbox hb; have HB := Aside0.mk hb; have HX := Aside0.mk hbox; have k0 : w1.cell? ⟨gb, 0, none⟩ = some (.slice A1 st.length c1) := blk_cell hbox 0; have k1 : w1.cell? ⟨gb, 1, none⟩ = some (.slice A2 lp.length c2) := blk_cell hbox 1; replace x0 := (hb.cell (World.block_lt_of_cell? w _ x0)).trans x0; replace yA := (hb.cell (World.block_lt_of_cell? w _ yA)).trans yA; replace zA := (hb.cell (World.block_lt_of_cell? w _ zA)).trans zA; clear hb hbox hg))
      go_region_held3 (fun w' => w'.cell? ⟨gb, 0, none⟩ = some (.slice A1 st.length c1) ∧ w'.cell? ⟨gb, 1, none⟩ = some (.slice A2 lp.length c2) ∧ w'.cell? (adA.add a1) = some (.slice (some azA) n cA) ∧ w'.cell? (azA.add q) = some (.bool bzA)) (go_keep) (first | (go_at_call 76; refine (foretellref_momentOf.calls KM _ _ st _ _ lp _ _ _ (Kd.C_below HR1.out (HB.out.drew)) HC1.out (Kd.C_below HR2.out (HB.out.drew)) HC2.out HKM.out).mono ?_; rintro e w5 ⟨rfl, hb⟩; have HB5 := Aside0.mk (below_step (HB.out.drew) hb); have HX5 := Aside0.mk (blk_below (blk_drew HX.out) hb); have u0 : w5.cell? ⟨gb, 0, none⟩ = some (.slice A1 st.length c1) := blk_cell HX5.out 0; have u1 : w5.cell? ⟨gb, 1, none⟩ = some (.slice A2 lp.length c2) := blk_cell HX5.out 1; have u2 := (hb.cell (World.block_lt_of_cell? _ _ yA)).trans yA; have u3 := (hb.cell (World.block_lt_of_cell? _ _ zA)).trans zA; clear hb))
      all_goals (go_wp2_with fail; go_ret; exact ⟨rfl, HB5.out⟩)
    · have hq : arIs o 2 := by unfold arIs; rw [e]; decide
      obtain ⟨s1, s2, s3, s4⟩ := HSecond.out hq
      obtain ⟨K, hK⟩ := HSec.out hq
      have HK := Aside0.mk (hK K (Nat.le_refl _))
      obtain ⟨g1, g2, g3⟩ := HEN.out
      obtain ⟨s, hs⟩ : ∃ s, s = a + 1 + (endAt (l.drop (a + 1)) 0).toNat := ⟨_, rfl⟩
      rw [← hs] at HK hr
      rw [← g2] at hr
      have HS1 := Aside0.mk (show a1 < l.length by omega)
      have HS2 := Aside0.mk (show s < l.length ∧ a < s by omega)
      obtain ⟨RA, hRA⟩ : ∃ RA, RA = rows.getD a1 [] := ⟨_, rfl⟩
      obtain ⟨adA, AA, cA, eA, yA, lA, kA⟩ := at_L3 HR3.out (a1 : Int) (by omega) (by rw [HRL.out]; exact_mod_cast HS1.out)
      have nA : RA.length = n := by rw [hRA]; exact HRow.out a1 (by omega) (by exact_mod_cast HS1.out)
      rw [show rd_L3 rows (a1 : Int) = RA by rw [hRA]; rfl] at yA lA kA
      rw [nA, Int.toNat_natCast] at yA
      have NA := Aside0.mk nA
      have KA := Aside0.mk kA
      obtain ⟨RB, hRB⟩ : ∃ RB, RB = rows.getD s [] := ⟨_, rfl⟩
      obtain ⟨adB, AB, cB, eB, yB, lB, kB⟩ := at_L3 HR3.out (s : Int) (by omega) (by rw [HRL.out]; exact_mod_cast HS2.out.1)
      have nB : RB.length = n := by rw [hRB]; exact HRow.out s (by exact HS2.out.2) (by exact_mod_cast HS2.out.1)
      rw [show rd_L3 rows (s : Int) = RB by rw [hRB]; rfl] at yB lB kB
      rw [nB, Int.toNat_natCast] at yB
      have NB := Aside0.mk nB
      have KB := Aside0.mk kB
      subst eA
      obtain rfl : adA = adB := by injection eB
      have p1 : decide ((a1 : Int) < (rows.length : Int)) = true := decide_eq_true (by have := HRL.out; have := HS1.out; omega)
      have p2 : decide (a1 < rows.length) = true := decide_eq_true (by have := HRL.out; have := HS1.out; omega)
      have p3 : ((a1 : Int) < (rows.length : Int)) = True := eq_true (by have := HRL.out; have := HS1.out; omega)
      have p4 : (0 ≤ (a1 : Int)) = True := eq_true (by omega)
      have v1 : decide ((s : Int) < (rows.length : Int)) = true := decide_eq_true (by have := HRL.out; have := HS2.out; omega)
      have v2 : decide (s < rows.length) = true := decide_eq_true (by have := HRL.out; have := HS2.out; omega)
      have v3 : ((s : Int) < (rows.length : Int)) = True := eq_true (by have := HRL.out; have := HS2.out; omega)
      have v4 : (0 ≤ (s : Int)) = True := eq_true (by omega)
      have hr1 : r = (uE n c (fun q => RA.getD q false) (fun q => RB.getD q false) (n + 1) i) := by
        rw [hr]
        unfold rowS
        rw [if_neg (by omega), if_neg (by omega), if_pos e, uRow_get _ _ _ _ _ _ HI.out, ← hRA, ← hRB]
        rw [Bool.false_xor]; rfl
      have HR1' := Aside0.mk hr1
      rw [e] at x0
      clear hr hr1 x1 lA kA nA s1 hRA hRB lB kB nB s2 s3 s4 hK hs g1 g2 g3 hq
      go_enter Tryd.func48, Tryd.ntmps48
      go_wp2_with (first | ((with_reducible refine gate_dst (N := 6) rfl ?_); refine box_event ?hg (N := 6) ?hd (cs := #[.slice A1 st.length c1, .slice A2 lp.length c2]) (t := 25) ?hr ?_; (case hd => rfl); (case hg => rfl); (case hr => first | (go_simp; done) | (go_simp; rfl)); intro gb hg w1 hbox hb; have HB := Aside0.mk hb; have HX := Aside0.mk hbox; have k0 : w1.cell? ⟨gb, 0, none⟩ = some (.slice A1 st.length c1) := blk_cell hbox 0; have k1 : w1.cell? ⟨gb, 1, none⟩ = some (.slice A2 lp.length c2) := blk_cell hbox 1; replace x0 := (hb.cell (World.block_lt_of_cell? w _ x0)).trans x0; replace yA := (hb.cell (World.block_lt_of_cell? w _ yA)).trans yA; replace yB := (hb.cell (World.block_lt_of_cell? w _ yB)).trans yB; clear hb hbox hg) | (go_at_call 77; refine (foretellref_secondAt.calls K _ _ l _ _ _ (Kd.C_below HR0.out HB.out) HC0.out HK.out).mono ?_; rintro e w5 ⟨rfl, ⟨nd, rfl⟩⟩))
      have HXn := Aside0.mk (blk_drewN HX.out nd)
      have HBn := Aside0.mk (pw_below_drewN HB.out nd)
      clear k0 k1 yA yB x0 p1 p2 p3 p4 v1 v2 v3 v4 q1 q2 q3 q4 e1 e2 e3 e4 HB HX
      go_loopg [16] (en + 2 - i) (fun kq v16 w' => ∃ j : Nat, v16 = .int .i64 (j : Int) ∧ Aside0 (kq + j = en + 2 ∧ j ≤ en + 1) ∧ Aside0 (r = (uE n c (fun q => RA.getD q false) (fun q => RB.getD q false) (en + 1 - j) j)) ∧ Aside0 (Below w.heap.size w w') ∧ Aside0 (w'.heap[gb]? = some (.cells #[.slice A1 st.length c1, .slice A2 lp.length c2] 25 (0, 0))))
      case atStart => exact ⟨i, rfl, ⟨by have := HEN.out.1; omega, by have := HEN.out.1; omega⟩, ⟨by rw [HR1'.out, show en + 1 - i = n + 1 by have := HEN.out.1; omega]⟩, HBn, HXn⟩
      case round =>
        clear HBn HXn HR1'
        obtain ⟨j, rfl, HJ, HV, HB, HX⟩ := hrel
        have hJ := HJ.out
        cases gk with
        | zero => exact absurd hJ (by omega)
        | succ kk =>
        by_cases hj : j ≤ en
        · obtain ⟨KM, hKM⟩ := HMo.out j (by have := HEN.out.1; have := HI.out; have := HCn.out; omega)
          have HKM := Aside0.mk (hKM KM (Nat.le_refl _))
          have hval := HV.out
          rw [show en + 1 - j = (en - j) + 1 by omega, uE_succ] at hval
          have hpn := pS_in (n := n) (c := c) HP0.out HCn.out.1 j
          generalize pS n c j = p at HKM hval hpn
          have HP := Aside0.mk hpn
          obtain ⟨azA, fzA, zA⟩ := Kd.at_bool KA.out (p : Int) (by omega) (by rw [NA.out]; exact_mod_cast HP.out)
          cases fzA
          rw [Int.toNat_natCast, Pure.rdN] at zA
          obtain ⟨bzA, hbzA⟩ : ∃ b, b = RA.getD p false := ⟨_, rfl⟩
          rw [← hbzA] at zA
          obtain ⟨azB, fzB, zB⟩ := Kd.at_bool KB.out (p : Int) (by omega) (by rw [NB.out]; exact_mod_cast HP.out)
          cases fzB
          rw [Int.toNat_natCast, Pure.rdN] at zB
          obtain ⟨bzB, hbzB⟩ : ∃ b, b = RB.getD p false := ⟨_, rfl⟩
          rw [← hbzB] at zB
          simp only [← hbzA, ← hbzB] at hval
          have HVal := Aside0.mk hval
          replace zA := (HB.out.cell (World.block_lt_of_cell? w _ zA)).trans zA
          replace zB := (HB.out.cell (World.block_lt_of_cell? w _ zB)).trans zB
          have k0 : wr.cell? ⟨gb, 0, none⟩ = some (.slice A1 st.length c1) := blk_cell HX.out 0
          have k1 : wr.cell? ⟨gb, 1, none⟩ = some (.slice A2 lp.length c2) := blk_cell HX.out 1
          have c1' : decide ((j : Int) ≤ (en : Int)) = true := decide_eq_true (by omega)
          have c2' : decide (j ≤ en) = true := decide_eq_true (by omega)
          have c3' : ((j : Int) ≤ (en : Int)) = True := eq_true (by omega)
          have c4' : IntKind.i64.wrap ((j : Int) + 1) = ((j + 1 : Nat) : Int) := by rw [IntKind.wrap_i64]; have := HEN.out.1; have := HI.out; have := HCn.out; omega
          have u1 : decide ((p : Int) < (n : Int)) = true := decide_eq_true (by have := HP.out; omega)
          have u2 : decide (p < n) = true := decide_eq_true (by have := HP.out; omega)
          have u3 : ((p : Int) < (n : Int)) = True := eq_true (by have := HP.out; omega)
          have u4 : (0 ≤ (p : Int)) = True := eq_true (by omega)
          have HJ2 := Aside0.mk (show kk + (j + 1) = en + 2 ∧ j + 1 ≤ en + 1 by omega)
          have HE2 := Aside0.mk (show en + 1 - (j + 1) = en - j by omega)
          clear hJ hj hval hKM hbzA hbzB hpn HJ HV
          cases bzB <;> cases bzA
          · go_wp2_with (first | (go_at_call 76; refine (foretellref_momentOf.calls KM _ _ st _ _ lp _ _ _ (Kd.C_below HR1.out (HB.out)) HC1.out (Kd.C_below HR2.out (HB.out)) HC2.out HKM.out).mono ?_; rintro e w5 ⟨rfl, hb⟩; have HB5 := Aside0.mk (below_step (HB.out) hb); have HX5 := Aside0.mk (blk_below (HX.out) hb); have u0 : w5.cell? ⟨gb, 0, none⟩ = some (.slice A1 st.length c1) := blk_cell HX5.out 0; have u1 : w5.cell? ⟨gb, 1, none⟩ = some (.slice A2 lp.length c2) := blk_cell HX5.out 1; have u2 := (hb.cell (World.block_lt_of_cell? _ _ zA)).trans zA; have u3 := (hb.cell (World.block_lt_of_cell? _ _ zB)).trans zB; clear hb))
            (go_ret; exact ⟨by rw [HVal.out]; rfl, HB5.out⟩)
          · go_wp2_with (first | (go_at_call 76; refine (foretellref_momentOf.calls KM _ _ st _ _ lp _ _ _ (Kd.C_below HR1.out (HB.out)) HC1.out (Kd.C_below HR2.out (HB.out)) HC2.out HKM.out).mono ?_; rintro e w5 ⟨rfl, hb⟩; have HB5 := Aside0.mk (below_step (HB.out) hb); have HX5 := Aside0.mk (blk_below (HX.out) hb); have u0 : w5.cell? ⟨gb, 0, none⟩ = some (.slice A1 st.length c1) := blk_cell HX5.out 0; have u1 : w5.cell? ⟨gb, 1, none⟩ = some (.slice A2 lp.length c2) := blk_cell HX5.out 1; have u2 := (hb.cell (World.block_lt_of_cell? _ _ zA)).trans zA; have u3 := (hb.cell (World.block_lt_of_cell? _ _ zB)).trans zB; clear hb))
            (go_roundg kk; (case measure => have := HJ2.out; omega); (case rel => exact ⟨j + 1, rfl, HJ2, ⟨by rw [HVal.out, HE2.out]; rfl⟩, HB5, HX5⟩))
          · go_wp2_with (first | (go_at_call 76; refine (foretellref_momentOf.calls KM _ _ st _ _ lp _ _ _ (Kd.C_below HR1.out (HB.out)) HC1.out (Kd.C_below HR2.out (HB.out)) HC2.out HKM.out).mono ?_; rintro e w5 ⟨rfl, hb⟩; have HB5 := Aside0.mk (below_step (HB.out) hb); have HX5 := Aside0.mk (blk_below (HX.out) hb); have u0 : w5.cell? ⟨gb, 0, none⟩ = some (.slice A1 st.length c1) := blk_cell HX5.out 0; have u1 : w5.cell? ⟨gb, 1, none⟩ = some (.slice A2 lp.length c2) := blk_cell HX5.out 1; have u2 := (hb.cell (World.block_lt_of_cell? _ _ zA)).trans zA; have u3 := (hb.cell (World.block_lt_of_cell? _ _ zB)).trans zB; clear hb))
            (go_ret; exact ⟨by rw [HVal.out]; rfl, HB5.out⟩)
          · go_wp2_with (first | (go_at_call 76; refine (foretellref_momentOf.calls KM _ _ st _ _ lp _ _ _ (Kd.C_below HR1.out (HB.out)) HC1.out (Kd.C_below HR2.out (HB.out)) HC2.out HKM.out).mono ?_; rintro e w5 ⟨rfl, hb⟩; have HB5 := Aside0.mk (below_step (HB.out) hb); have HX5 := Aside0.mk (blk_below (HX.out) hb); have u0 : w5.cell? ⟨gb, 0, none⟩ = some (.slice A1 st.length c1) := blk_cell HX5.out 0; have u1 : w5.cell? ⟨gb, 1, none⟩ = some (.slice A2 lp.length c2) := blk_cell HX5.out 1; have u2 := (hb.cell (World.block_lt_of_cell? _ _ zA)).trans zA; have u3 := (hb.cell (World.block_lt_of_cell? _ _ zB)).trans zB; clear hb))
            (go_ret; exact ⟨by rw [HVal.out]; rfl, HB5.out⟩)
        · have hval := HV.out
          rw [show en + 1 - j = 0 by omega] at hval
          have HVal := Aside0.mk hval
          have c1' : decide ((j : Int) ≤ (en : Int)) = false := decide_eq_false (by omega)
          have c2' : decide (j ≤ en) = false := decide_eq_false (by omega)
          clear hJ hj hval HJ HV
          go_wp2_with fail
          go_ret
          exact ⟨by rw [HVal.out]; rfl, HB.out⟩
    · have hq : arIs o 2 := by unfold arIs; rw [e]; decide
      obtain ⟨s1, s2, s3, s4⟩ := HSecond.out hq
      obtain ⟨K, hK⟩ := HSec.out hq
      have HK := Aside0.mk (hK K (Nat.le_refl _))
      obtain ⟨g1, g2, g3⟩ := HEN.out
      obtain ⟨s, hs⟩ : ∃ s, s = a + 1 + (endAt (l.drop (a + 1)) 0).toNat := ⟨_, rfl⟩
      rw [← hs] at HK hr
      rw [← g2] at hr
      have HS1 := Aside0.mk (show a1 < l.length by omega)
      have HS2 := Aside0.mk (show s < l.length ∧ a < s by omega)
      obtain ⟨RA, hRA⟩ : ∃ RA, RA = rows.getD a1 [] := ⟨_, rfl⟩
      obtain ⟨adA, AA, cA, eA, yA, lA, kA⟩ := at_L3 HR3.out (a1 : Int) (by omega) (by rw [HRL.out]; exact_mod_cast HS1.out)
      have nA : RA.length = n := by rw [hRA]; exact HRow.out a1 (by omega) (by exact_mod_cast HS1.out)
      rw [show rd_L3 rows (a1 : Int) = RA by rw [hRA]; rfl] at yA lA kA
      rw [nA, Int.toNat_natCast] at yA
      have NA := Aside0.mk nA
      have KA := Aside0.mk kA
      obtain ⟨RB, hRB⟩ : ∃ RB, RB = rows.getD s [] := ⟨_, rfl⟩
      obtain ⟨adB, AB, cB, eB, yB, lB, kB⟩ := at_L3 HR3.out (s : Int) (by omega) (by rw [HRL.out]; exact_mod_cast HS2.out.1)
      have nB : RB.length = n := by rw [hRB]; exact HRow.out s (by exact HS2.out.2) (by exact_mod_cast HS2.out.1)
      rw [show rd_L3 rows (s : Int) = RB by rw [hRB]; rfl] at yB lB kB
      rw [nB, Int.toNat_natCast] at yB
      have NB := Aside0.mk nB
      have KB := Aside0.mk kB
      subst eA
      obtain rfl : adA = adB := by injection eB
      have p1 : decide ((a1 : Int) < (rows.length : Int)) = true := decide_eq_true (by have := HRL.out; have := HS1.out; omega)
      have p2 : decide (a1 < rows.length) = true := decide_eq_true (by have := HRL.out; have := HS1.out; omega)
      have p3 : ((a1 : Int) < (rows.length : Int)) = True := eq_true (by have := HRL.out; have := HS1.out; omega)
      have p4 : (0 ≤ (a1 : Int)) = True := eq_true (by omega)
      have v1 : decide ((s : Int) < (rows.length : Int)) = true := decide_eq_true (by have := HRL.out; have := HS2.out; omega)
      have v2 : decide (s < rows.length) = true := decide_eq_true (by have := HRL.out; have := HS2.out; omega)
      have v3 : ((s : Int) < (rows.length : Int)) = True := eq_true (by have := HRL.out; have := HS2.out; omega)
      have v4 : (0 ≤ (s : Int)) = True := eq_true (by omega)
      have hr1 : r = (true ^^ uE n c (fun q => !(RA.getD q false)) (fun q => !(RB.getD q false)) (n + 1) i) := by
        rw [hr]
        unfold rowS
        rw [if_neg (by omega), if_neg (by omega), if_neg (by omega), if_pos e, uRow_get _ _ _ _ _ _ HI.out, ← hRA, ← hRB]
        rfl
      have HR1' := Aside0.mk hr1
      rw [e] at x0
      clear hr hr1 x1 lA kA nA s1 hRA hRB lB kB nB s2 s3 s4 hK hs g1 g2 g3 hq
      go_enter Tryd.func48, Tryd.ntmps48
      go_wp2_with (first | ((with_reducible refine gate_dst (N := 6) rfl ?_); refine box_event ?hg (N := 6) ?hd (cs := #[.slice A1 st.length c1, .slice A2 lp.length c2]) (t := 25) ?hr ?_; (case hd => rfl); (case hg => rfl); (case hr => first | (go_simp; done) | (go_simp; rfl)); intro gb hg w1 hbox hb; have HB := Aside0.mk hb; have HX := Aside0.mk hbox; have k0 : w1.cell? ⟨gb, 0, none⟩ = some (.slice A1 st.length c1) := blk_cell hbox 0; have k1 : w1.cell? ⟨gb, 1, none⟩ = some (.slice A2 lp.length c2) := blk_cell hbox 1; replace x0 := (hb.cell (World.block_lt_of_cell? w _ x0)).trans x0; replace yA := (hb.cell (World.block_lt_of_cell? w _ yA)).trans yA; replace yB := (hb.cell (World.block_lt_of_cell? w _ yB)).trans yB; clear hb hbox hg) | (go_at_call 77; refine (foretellref_secondAt.calls K _ _ l _ _ _ (Kd.C_below HR0.out HB.out) HC0.out HK.out).mono ?_; rintro e w5 ⟨rfl, ⟨nd, rfl⟩⟩))
      have HXn := Aside0.mk (blk_drewN HX.out nd)
      have HBn := Aside0.mk (pw_below_drewN HB.out nd)
      clear k0 k1 yA yB x0 p1 p2 p3 p4 v1 v2 v3 v4 q1 q2 q3 q4 e1 e2 e3 e4 HB HX
      go_loopg [16] (en + 2 - i) (fun kq v16 w' => ∃ j : Nat, v16 = .int .i64 (j : Int) ∧ Aside0 (kq + j = en + 2 ∧ j ≤ en + 1) ∧ Aside0 (r = (true ^^ uE n c (fun q => !(RA.getD q false)) (fun q => !(RB.getD q false)) (en + 1 - j) j)) ∧ Aside0 (Below w.heap.size w w') ∧ Aside0 (w'.heap[gb]? = some (.cells #[.slice A1 st.length c1, .slice A2 lp.length c2] 25 (0, 0))))
      case atStart => exact ⟨i, rfl, ⟨by have := HEN.out.1; omega, by have := HEN.out.1; omega⟩, ⟨by rw [HR1'.out, show en + 1 - i = n + 1 by have := HEN.out.1; omega]⟩, HBn, HXn⟩
      case round =>
        clear HBn HXn HR1'
        obtain ⟨j, rfl, HJ, HV, HB, HX⟩ := hrel
        have hJ := HJ.out
        cases gk with
        | zero => exact absurd hJ (by omega)
        | succ kk =>
        by_cases hj : j ≤ en
        · obtain ⟨KM, hKM⟩ := HMo.out j (by have := HEN.out.1; have := HI.out; have := HCn.out; omega)
          have HKM := Aside0.mk (hKM KM (Nat.le_refl _))
          have hval := HV.out
          rw [show en + 1 - j = (en - j) + 1 by omega, uE_succ] at hval
          have hpn := pS_in (n := n) (c := c) HP0.out HCn.out.1 j
          generalize pS n c j = p at HKM hval hpn
          have HP := Aside0.mk hpn
          obtain ⟨azA, fzA, zA⟩ := Kd.at_bool KA.out (p : Int) (by omega) (by rw [NA.out]; exact_mod_cast HP.out)
          cases fzA
          rw [Int.toNat_natCast, Pure.rdN] at zA
          obtain ⟨bzA, hbzA⟩ : ∃ b, b = RA.getD p false := ⟨_, rfl⟩
          rw [← hbzA] at zA
          obtain ⟨azB, fzB, zB⟩ := Kd.at_bool KB.out (p : Int) (by omega) (by rw [NB.out]; exact_mod_cast HP.out)
          cases fzB
          rw [Int.toNat_natCast, Pure.rdN] at zB
          obtain ⟨bzB, hbzB⟩ : ∃ b, b = RB.getD p false := ⟨_, rfl⟩
          rw [← hbzB] at zB
          simp only [← hbzA, ← hbzB] at hval
          have HVal := Aside0.mk hval
          replace zA := (HB.out.cell (World.block_lt_of_cell? w _ zA)).trans zA
          replace zB := (HB.out.cell (World.block_lt_of_cell? w _ zB)).trans zB
          have k0 : wr.cell? ⟨gb, 0, none⟩ = some (.slice A1 st.length c1) := blk_cell HX.out 0
          have k1 : wr.cell? ⟨gb, 1, none⟩ = some (.slice A2 lp.length c2) := blk_cell HX.out 1
          have c1' : decide ((j : Int) ≤ (en : Int)) = true := decide_eq_true (by omega)
          have c2' : decide (j ≤ en) = true := decide_eq_true (by omega)
          have c3' : ((j : Int) ≤ (en : Int)) = True := eq_true (by omega)
          have c4' : IntKind.i64.wrap ((j : Int) + 1) = ((j + 1 : Nat) : Int) := by rw [IntKind.wrap_i64]; have := HEN.out.1; have := HI.out; have := HCn.out; omega
          have u1 : decide ((p : Int) < (n : Int)) = true := decide_eq_true (by have := HP.out; omega)
          have u2 : decide (p < n) = true := decide_eq_true (by have := HP.out; omega)
          have u3 : ((p : Int) < (n : Int)) = True := eq_true (by have := HP.out; omega)
          have u4 : (0 ≤ (p : Int)) = True := eq_true (by omega)
          have HJ2 := Aside0.mk (show kk + (j + 1) = en + 2 ∧ j + 1 ≤ en + 1 by omega)
          have HE2 := Aside0.mk (show en + 1 - (j + 1) = en - j by omega)
          clear hJ hj hval hKM hbzA hbzB hpn HJ HV
          cases bzB <;> cases bzA
          · go_wp2_with (first | (go_at_call 76; refine (foretellref_momentOf.calls KM _ _ st _ _ lp _ _ _ (Kd.C_below HR1.out (HB.out)) HC1.out (Kd.C_below HR2.out (HB.out)) HC2.out HKM.out).mono ?_; rintro e w5 ⟨rfl, hb⟩; have HB5 := Aside0.mk (below_step (HB.out) hb); have HX5 := Aside0.mk (blk_below (HX.out) hb); have u0 : w5.cell? ⟨gb, 0, none⟩ = some (.slice A1 st.length c1) := blk_cell HX5.out 0; have u1 : w5.cell? ⟨gb, 1, none⟩ = some (.slice A2 lp.length c2) := blk_cell HX5.out 1; have u2 := (hb.cell (World.block_lt_of_cell? _ _ zA)).trans zA; have u3 := (hb.cell (World.block_lt_of_cell? _ _ zB)).trans zB; clear hb))
            (go_ret; exact ⟨by rw [HVal.out]; rfl, HB5.out⟩)
          · go_wp2_with (first | (go_at_call 76; refine (foretellref_momentOf.calls KM _ _ st _ _ lp _ _ _ (Kd.C_below HR1.out (HB.out)) HC1.out (Kd.C_below HR2.out (HB.out)) HC2.out HKM.out).mono ?_; rintro e w5 ⟨rfl, hb⟩; have HB5 := Aside0.mk (below_step (HB.out) hb); have HX5 := Aside0.mk (blk_below (HX.out) hb); have u0 : w5.cell? ⟨gb, 0, none⟩ = some (.slice A1 st.length c1) := blk_cell HX5.out 0; have u1 : w5.cell? ⟨gb, 1, none⟩ = some (.slice A2 lp.length c2) := blk_cell HX5.out 1; have u2 := (hb.cell (World.block_lt_of_cell? _ _ zA)).trans zA; have u3 := (hb.cell (World.block_lt_of_cell? _ _ zB)).trans zB; clear hb))
            (go_ret; exact ⟨by rw [HVal.out]; rfl, HB5.out⟩)
          · go_wp2_with (first | (go_at_call 76; refine (foretellref_momentOf.calls KM _ _ st _ _ lp _ _ _ (Kd.C_below HR1.out (HB.out)) HC1.out (Kd.C_below HR2.out (HB.out)) HC2.out HKM.out).mono ?_; rintro e w5 ⟨rfl, hb⟩; have HB5 := Aside0.mk (below_step (HB.out) hb); have HX5 := Aside0.mk (blk_below (HX.out) hb); have u0 : w5.cell? ⟨gb, 0, none⟩ = some (.slice A1 st.length c1) := blk_cell HX5.out 0; have u1 : w5.cell? ⟨gb, 1, none⟩ = some (.slice A2 lp.length c2) := blk_cell HX5.out 1; have u2 := (hb.cell (World.block_lt_of_cell? _ _ zA)).trans zA; have u3 := (hb.cell (World.block_lt_of_cell? _ _ zB)).trans zB; clear hb))
            (go_roundg kk; (case measure => have := HJ2.out; omega); (case rel => exact ⟨j + 1, rfl, HJ2, ⟨by rw [HVal.out, HE2.out]; rfl⟩, HB5, HX5⟩))
          · go_wp2_with (first | (go_at_call 76; refine (foretellref_momentOf.calls KM _ _ st _ _ lp _ _ _ (Kd.C_below HR1.out (HB.out)) HC1.out (Kd.C_below HR2.out (HB.out)) HC2.out HKM.out).mono ?_; rintro e w5 ⟨rfl, hb⟩; have HB5 := Aside0.mk (below_step (HB.out) hb); have HX5 := Aside0.mk (blk_below (HX.out) hb); have u0 : w5.cell? ⟨gb, 0, none⟩ = some (.slice A1 st.length c1) := blk_cell HX5.out 0; have u1 : w5.cell? ⟨gb, 1, none⟩ = some (.slice A2 lp.length c2) := blk_cell HX5.out 1; have u2 := (hb.cell (World.block_lt_of_cell? _ _ zA)).trans zA; have u3 := (hb.cell (World.block_lt_of_cell? _ _ zB)).trans zB; clear hb))
            (go_ret; exact ⟨by rw [HVal.out]; rfl, HB5.out⟩)
        · have hval := HV.out
          rw [show en + 1 - j = 0 by omega] at hval
          have HVal := Aside0.mk hval
          have c1' : decide ((j : Int) ≤ (en : Int)) = false := decide_eq_false (by omega)
          have c2' : decide (j ≤ en) = false := decide_eq_false (by omega)
          clear hJ hj hval HJ HV
          go_wp2_with fail
          go_ret
          exact ⟨by rw [HVal.out]; rfl, HB.out⟩
    · have s1 := HFirst.out 0 (show arIs o 1 by unfold arIs; rw [e]; decide)
      obtain ⟨g1, g2, g3⟩ := HEN.out
      rw [← g2] at s1 hr
      have HS1 := Aside0.mk s1
      obtain ⟨RA, hRA⟩ : ∃ RA, RA = rows.getD a1 [] := ⟨_, rfl⟩
      obtain ⟨adA, AA, cA, eA, yA, lA, kA⟩ := at_L3 HR3.out (a1 : Int) (by omega) (by rw [HRL.out]; exact_mod_cast HS1.out)
      have nA : RA.length = n := by rw [hRA]; exact HRow.out a1 (by omega) (by exact_mod_cast HS1.out)
      rw [show rd_L3 rows (a1 : Int) = RA by rw [hRA]; rfl] at yA lA kA
      rw [nA, Int.toNat_natCast] at yA
      have NA := Aside0.mk nA
      have KA := Aside0.mk kA
      subst eA
      have hr1 : r = (false ^^ uE n c (fun _ => true) (fun q => false ^^ RA.getD q false) (n + 1) i) := by
        rw [hr]
        unfold rowS
        rw [if_pos e, uRow_get _ _ _ _ _ _ HI.out, ← hRA]
        simp [uE]
      have HR1' := Aside0.mk hr1
      rw [e] at x0
      have p1 : decide ((a1 : Int) < (rows.length : Int)) = true := decide_eq_true (by have := HRL.out; omega)
      have p2 : decide (a1 < rows.length) = true := decide_eq_true (by have := HRL.out; omega)
      have p3 : ((a1 : Int) < (rows.length : Int)) = True := eq_true (by have := HRL.out; omega)
      have p4 : (0 ≤ (a1 : Int)) = True := eq_true (by omega)
      have HyA := Aside0.mk yA
      clear hr hr1 x1 lA kA nA s1 hRA g1 g2 g3
      go_enter Tryd.func48, Tryd.ntmps48
      go_wp2_with (first | ((with_reducible refine gate_dst (N := 6) rfl ?_); refine box_event ?hg (N := 6) ?hd (cs := #[.slice A1 st.length c1, .slice A2 lp.length c2]) (t := 25) ?hr ?_; (case hd => rfl); (case hg => rfl); (case hr => first | (go_simp; done) | (go_simp; rfl)); intro gb hg w1 hbox hb; have HB := Aside0.mk hb; have HX := Aside0.mk hbox; have k0 : w1.cell? ⟨gb, 0, none⟩ = some (.slice A1 st.length c1) := blk_cell hbox 0; have k1 : w1.cell? ⟨gb, 1, none⟩ = some (.slice A2 lp.length c2) := blk_cell hbox 1; replace x0 := (hb.cell (World.block_lt_of_cell? w _ x0)).trans x0; replace yA := (hb.cell (World.block_lt_of_cell? w _ yA)).trans yA; clear hb hbox hg))
      clear k0 k1 yA x0 q1 q2 q3 q4 e1 e2 e4
      go_loopg [13] (en + 2 - i) (fun kq v13 w' => ∃ j : Nat, v13 = .int .i64 (j : Int) ∧ Aside0 (kq + j = en + 2 ∧ j ≤ en + 1) ∧ Aside0 (r = (false ^^ uE n c (fun _ => true) (fun q => false ^^ RA.getD q false) (en + 1 - j) j)) ∧ Aside0 (Below w.heap.size w w') ∧ Aside0 (w'.heap[gb]? = some (.cells #[.slice A1 st.length c1, .slice A2 lp.length c2] 25 (0, 0))))
      case atStart => exact ⟨i, rfl, ⟨by have := HEN.out.1; omega, by have := HEN.out.1; omega⟩, ⟨by rw [HR1'.out, show en + 1 - i = n + 1 by have := HEN.out.1; omega]⟩, HB, HX⟩
      case round =>
        clear HB HX HR1'
        obtain ⟨j, rfl, HJ, HV, HB, HX⟩ := hrel
        have hJ := HJ.out
        cases gk with
        | zero => exact absurd hJ (by omega)
        | succ kk =>
        by_cases hj : j ≤ en
        · obtain ⟨KM, hKM⟩ := HMo.out j (by have := HEN.out.1; have := HI.out; have := HCn.out; omega)
          have HKM := Aside0.mk (hKM KM (Nat.le_refl _))
          have hval := HV.out
          rw [show en + 1 - j = (en - j) + 1 by omega, uE_succ] at hval
          have hpn := pS_in (n := n) (c := c) HP0.out HCn.out.1 j
          generalize pS n c j = p at HKM hval hpn
          have HP := Aside0.mk hpn
          obtain ⟨azA, fzA, zA⟩ := Kd.at_bool KA.out (p : Int) (by omega) (by rw [NA.out]; exact_mod_cast HP.out)
          cases fzA
          rw [Int.toNat_natCast, Pure.rdN] at zA
          obtain ⟨bzA, hbzA⟩ : ∃ b, b = RA.getD p false := ⟨_, rfl⟩
          rw [← hbzA] at zA
          simp only [← hbzA] at hval
          have HVal := Aside0.mk hval
          replace zA := (HB.out.cell (World.block_lt_of_cell? w _ zA)).trans zA
          have yA := (HB.out.cell (World.block_lt_of_cell? w _ HyA.out)).trans HyA.out
          have k0 : wr.cell? ⟨gb, 0, none⟩ = some (.slice A1 st.length c1) := blk_cell HX.out 0
          have k1 : wr.cell? ⟨gb, 1, none⟩ = some (.slice A2 lp.length c2) := blk_cell HX.out 1
          have c1' : decide ((j : Int) ≤ (en : Int)) = true := decide_eq_true (by omega)
          have c2' : decide (j ≤ en) = true := decide_eq_true (by omega)
          have c3' : ((j : Int) ≤ (en : Int)) = True := eq_true (by omega)
          have c4' : IntKind.i64.wrap ((j : Int) + 1) = ((j + 1 : Nat) : Int) := by rw [IntKind.wrap_i64]; have := HEN.out.1; have := HI.out; have := HCn.out; omega
          have u1 : decide ((p : Int) < (n : Int)) = true := decide_eq_true (by have := HP.out; omega)
          have u2 : decide (p < n) = true := decide_eq_true (by have := HP.out; omega)
          have u3 : ((p : Int) < (n : Int)) = True := eq_true (by have := HP.out; omega)
          have u4 : (0 ≤ (p : Int)) = True := eq_true (by omega)
          have HJ2 := Aside0.mk (show kk + (j + 1) = en + 2 ∧ j + 1 ≤ en + 1 by omega)
          have HE2 := Aside0.mk (show en + 1 - (j + 1) = en - j by omega)
          clear hJ hj hval hKM hbzA hpn HJ HV
          cases bzA
          · go_wp2_with fail
            go_region_held3 (fun w' => w'.cell? ⟨gb, 0, none⟩ = some (.slice A1 st.length c1) ∧ w'.cell? ⟨gb, 1, none⟩ = some (.slice A2 lp.length c2) ∧ w'.cell? (adA.add a1) = some (.slice (some azA) n cA) ∧ w'.cell? (azA.add p) = some (.bool false)) (go_keep) (first | (go_at_call 76; refine (foretellref_momentOf.calls KM _ _ st _ _ lp _ _ _ (Kd.C_below HR1.out (HB.out.drew)) HC1.out (Kd.C_below HR2.out (HB.out.drew)) HC2.out HKM.out).mono ?_; rintro e w5 ⟨rfl, hb⟩; have HB5 := Aside0.mk (below_step (HB.out.drew) hb); have HX5 := Aside0.mk (blk_below (blk_drew HX.out) hb); have u0 : w5.cell? ⟨gb, 0, none⟩ = some (.slice A1 st.length c1) := blk_cell HX5.out 0; have u1 : w5.cell? ⟨gb, 1, none⟩ = some (.slice A2 lp.length c2) := blk_cell HX5.out 1; have u2 := (hb.cell (World.block_lt_of_cell? _ _ yA)).trans yA; have u3 := (hb.cell (World.block_lt_of_cell? _ _ zA)).trans zA; clear hb))
            all_goals (go_wp2_with fail; (go_roundg kk; (case measure => have := HJ2.out; omega); (case rel => exact ⟨j + 1, rfl, HJ2, ⟨by rw [HVal.out, HE2.out]; rfl⟩, HB5, HX5⟩)))
          · go_wp2_with fail
            go_region_held3 (fun w' => w'.cell? ⟨gb, 0, none⟩ = some (.slice A1 st.length c1) ∧ w'.cell? ⟨gb, 1, none⟩ = some (.slice A2 lp.length c2) ∧ w'.cell? (adA.add a1) = some (.slice (some azA) n cA) ∧ w'.cell? (azA.add p) = some (.bool true)) (go_keep) (first | (go_at_call 76; refine (foretellref_momentOf.calls KM _ _ st _ _ lp _ _ _ (Kd.C_below HR1.out (HB.out.drew)) HC1.out (Kd.C_below HR2.out (HB.out.drew)) HC2.out HKM.out).mono ?_; rintro e w5 ⟨rfl, hb⟩; have HB5 := Aside0.mk (below_step (HB.out.drew) hb); have HX5 := Aside0.mk (blk_below (blk_drew HX.out) hb); have u0 : w5.cell? ⟨gb, 0, none⟩ = some (.slice A1 st.length c1) := blk_cell HX5.out 0; have u1 : w5.cell? ⟨gb, 1, none⟩ = some (.slice A2 lp.length c2) := blk_cell HX5.out 1; have u2 := (hb.cell (World.block_lt_of_cell? _ _ yA)).trans yA; have u3 := (hb.cell (World.block_lt_of_cell? _ _ zA)).trans zA; clear hb))
            all_goals (go_wp2_with fail; (go_ret; exact ⟨by rw [HVal.out]; rfl, HB5.out⟩))
        · have hval := HV.out
          rw [show en + 1 - j = 0 by omega] at hval
          have HVal := Aside0.mk hval
          have c1' : decide ((j : Int) ≤ (en : Int)) = false := decide_eq_false (by omega)
          have c2' : decide (j ≤ en) = false := decide_eq_false (by omega)
          clear hJ hj hval HJ HV
          go_wp2_with fail
          go_ret
          exact ⟨by rw [HVal.out]; rfl, HB.out⟩
    · have s1 := HFirst.out 0 (show arIs o 1 by unfold arIs; rw [e]; decide)
      obtain ⟨g1, g2, g3⟩ := HEN.out
      rw [← g2] at s1 hr
      have HS1 := Aside0.mk s1
      obtain ⟨RA, hRA⟩ : ∃ RA, RA = rows.getD a1 [] := ⟨_, rfl⟩
      obtain ⟨adA, AA, cA, eA, yA, lA, kA⟩ := at_L3 HR3.out (a1 : Int) (by omega) (by rw [HRL.out]; exact_mod_cast HS1.out)
      have nA : RA.length = n := by rw [hRA]; exact HRow.out a1 (by omega) (by exact_mod_cast HS1.out)
      rw [show rd_L3 rows (a1 : Int) = RA by rw [hRA]; rfl] at yA lA kA
      rw [nA, Int.toNat_natCast] at yA
      have NA := Aside0.mk nA
      have KA := Aside0.mk kA
      subst eA
      have hr1 : r = (true ^^ uE n c (fun _ => true) (fun q => true ^^ RA.getD q false) (n + 1) i) := by
        rw [hr]
        unfold rowS
        rw [if_neg (by omega), if_pos e, uRow_get _ _ _ _ _ _ HI.out, ← hRA]
        simp [uE]
      have HR1' := Aside0.mk hr1
      rw [e] at x0
      have p1 : decide ((a1 : Int) < (rows.length : Int)) = true := decide_eq_true (by have := HRL.out; omega)
      have p2 : decide (a1 < rows.length) = true := decide_eq_true (by have := HRL.out; omega)
      have p3 : ((a1 : Int) < (rows.length : Int)) = True := eq_true (by have := HRL.out; omega)
      have p4 : (0 ≤ (a1 : Int)) = True := eq_true (by omega)
      have HyA := Aside0.mk yA
      clear hr hr1 x1 lA kA nA s1 hRA g1 g2 g3
      go_enter Tryd.func48, Tryd.ntmps48
      go_wp2_with (first | ((with_reducible refine gate_dst (N := 6) rfl ?_); refine box_event ?hg (N := 6) ?hd (cs := #[.slice A1 st.length c1, .slice A2 lp.length c2]) (t := 25) ?hr ?_; (case hd => rfl); (case hg => rfl); (case hr => first | (go_simp; done) | (go_simp; rfl)); intro gb hg w1 hbox hb; have HB := Aside0.mk hb; have HX := Aside0.mk hbox; have k0 : w1.cell? ⟨gb, 0, none⟩ = some (.slice A1 st.length c1) := blk_cell hbox 0; have k1 : w1.cell? ⟨gb, 1, none⟩ = some (.slice A2 lp.length c2) := blk_cell hbox 1; replace x0 := (hb.cell (World.block_lt_of_cell? w _ x0)).trans x0; replace yA := (hb.cell (World.block_lt_of_cell? w _ yA)).trans yA; clear hb hbox hg))
      clear k0 k1 yA x0 q1 q2 q3 q4 e1 e2 e4
      go_loopg [13] (en + 2 - i) (fun kq v13 w' => ∃ j : Nat, v13 = .int .i64 (j : Int) ∧ Aside0 (kq + j = en + 2 ∧ j ≤ en + 1) ∧ Aside0 (r = (true ^^ uE n c (fun _ => true) (fun q => true ^^ RA.getD q false) (en + 1 - j) j)) ∧ Aside0 (Below w.heap.size w w') ∧ Aside0 (w'.heap[gb]? = some (.cells #[.slice A1 st.length c1, .slice A2 lp.length c2] 25 (0, 0))))
      case atStart => exact ⟨i, rfl, ⟨by have := HEN.out.1; omega, by have := HEN.out.1; omega⟩, ⟨by rw [HR1'.out, show en + 1 - i = n + 1 by have := HEN.out.1; omega]⟩, HB, HX⟩
      case round =>
        clear HB HX HR1'
        obtain ⟨j, rfl, HJ, HV, HB, HX⟩ := hrel
        have hJ := HJ.out
        cases gk with
        | zero => exact absurd hJ (by omega)
        | succ kk =>
        by_cases hj : j ≤ en
        · obtain ⟨KM, hKM⟩ := HMo.out j (by have := HEN.out.1; have := HI.out; have := HCn.out; omega)
          have HKM := Aside0.mk (hKM KM (Nat.le_refl _))
          have hval := HV.out
          rw [show en + 1 - j = (en - j) + 1 by omega, uE_succ] at hval
          have hpn := pS_in (n := n) (c := c) HP0.out HCn.out.1 j
          generalize pS n c j = p at HKM hval hpn
          have HP := Aside0.mk hpn
          obtain ⟨azA, fzA, zA⟩ := Kd.at_bool KA.out (p : Int) (by omega) (by rw [NA.out]; exact_mod_cast HP.out)
          cases fzA
          rw [Int.toNat_natCast, Pure.rdN] at zA
          obtain ⟨bzA, hbzA⟩ : ∃ b, b = RA.getD p false := ⟨_, rfl⟩
          rw [← hbzA] at zA
          simp only [← hbzA] at hval
          have HVal := Aside0.mk hval
          replace zA := (HB.out.cell (World.block_lt_of_cell? w _ zA)).trans zA
          have yA := (HB.out.cell (World.block_lt_of_cell? w _ HyA.out)).trans HyA.out
          have k0 : wr.cell? ⟨gb, 0, none⟩ = some (.slice A1 st.length c1) := blk_cell HX.out 0
          have k1 : wr.cell? ⟨gb, 1, none⟩ = some (.slice A2 lp.length c2) := blk_cell HX.out 1
          have c1' : decide ((j : Int) ≤ (en : Int)) = true := decide_eq_true (by omega)
          have c2' : decide (j ≤ en) = true := decide_eq_true (by omega)
          have c3' : ((j : Int) ≤ (en : Int)) = True := eq_true (by omega)
          have c4' : IntKind.i64.wrap ((j : Int) + 1) = ((j + 1 : Nat) : Int) := by rw [IntKind.wrap_i64]; have := HEN.out.1; have := HI.out; have := HCn.out; omega
          have u1 : decide ((p : Int) < (n : Int)) = true := decide_eq_true (by have := HP.out; omega)
          have u2 : decide (p < n) = true := decide_eq_true (by have := HP.out; omega)
          have u3 : ((p : Int) < (n : Int)) = True := eq_true (by have := HP.out; omega)
          have u4 : (0 ≤ (p : Int)) = True := eq_true (by omega)
          have HJ2 := Aside0.mk (show kk + (j + 1) = en + 2 ∧ j + 1 ≤ en + 1 by omega)
          have HE2 := Aside0.mk (show en + 1 - (j + 1) = en - j by omega)
          clear hJ hj hval hKM hbzA hpn HJ HV
          cases bzA
          · go_wp2_with fail
            go_region_held3 (fun w' => w'.cell? ⟨gb, 0, none⟩ = some (.slice A1 st.length c1) ∧ w'.cell? ⟨gb, 1, none⟩ = some (.slice A2 lp.length c2) ∧ w'.cell? (adA.add a1) = some (.slice (some azA) n cA) ∧ w'.cell? (azA.add p) = some (.bool false)) (go_keep) (first | (go_at_call 76; refine (foretellref_momentOf.calls KM _ _ st _ _ lp _ _ _ (Kd.C_below HR1.out (HB.out.drew)) HC1.out (Kd.C_below HR2.out (HB.out.drew)) HC2.out HKM.out).mono ?_; rintro e w5 ⟨rfl, hb⟩; have HB5 := Aside0.mk (below_step (HB.out.drew) hb); have HX5 := Aside0.mk (blk_below (blk_drew HX.out) hb); have u0 : w5.cell? ⟨gb, 0, none⟩ = some (.slice A1 st.length c1) := blk_cell HX5.out 0; have u1 : w5.cell? ⟨gb, 1, none⟩ = some (.slice A2 lp.length c2) := blk_cell HX5.out 1; have u2 := (hb.cell (World.block_lt_of_cell? _ _ yA)).trans yA; have u3 := (hb.cell (World.block_lt_of_cell? _ _ zA)).trans zA; clear hb))
            all_goals (go_wp2_with fail; (go_ret; exact ⟨by rw [HVal.out]; rfl, HB5.out⟩))
          · go_wp2_with fail
            go_region_held3 (fun w' => w'.cell? ⟨gb, 0, none⟩ = some (.slice A1 st.length c1) ∧ w'.cell? ⟨gb, 1, none⟩ = some (.slice A2 lp.length c2) ∧ w'.cell? (adA.add a1) = some (.slice (some azA) n cA) ∧ w'.cell? (azA.add p) = some (.bool true)) (go_keep) (first | (go_at_call 76; refine (foretellref_momentOf.calls KM _ _ st _ _ lp _ _ _ (Kd.C_below HR1.out (HB.out.drew)) HC1.out (Kd.C_below HR2.out (HB.out.drew)) HC2.out HKM.out).mono ?_; rintro e w5 ⟨rfl, hb⟩; have HB5 := Aside0.mk (below_step (HB.out.drew) hb); have HX5 := Aside0.mk (blk_below (blk_drew HX.out) hb); have u0 : w5.cell? ⟨gb, 0, none⟩ = some (.slice A1 st.length c1) := blk_cell HX5.out 0; have u1 : w5.cell? ⟨gb, 1, none⟩ = some (.slice A2 lp.length c2) := blk_cell HX5.out 1; have u2 := (hb.cell (World.block_lt_of_cell? _ _ yA)).trans yA; have u3 := (hb.cell (World.block_lt_of_cell? _ _ zA)).trans zA; clear hb))
            all_goals (go_wp2_with fail; (go_roundg kk; (case measure => have := HJ2.out; omega); (case rel => exact ⟨j + 1, rfl, HJ2, ⟨by rw [HVal.out, HE2.out]; rfl⟩, HB5, HX5⟩)))
        · have hval := HV.out
          rw [show en + 1 - j = 0 by omega] at hval
          have HVal := Aside0.mk hval
          have c1' : decide ((j : Int) ≤ (en : Int)) = false := decide_eq_false (by omega)
          have c2' : decide (j ≤ en) = false := decide_eq_false (by omega)
          clear hJ hj hval HJ HV
          go_wp2_with fail
          go_ret
          exact ⟨by rw [HVal.out]; rfl, HB.out⟩
def foretellref_said.f (l0 : List S65) (l1_0 l1_1 : List (List Bool)) (l2 : List (List Bool)) (a3 a4 : Int) : Option Bool := if saidB l0 l1_0 l1_1 l2 a3 a4 = true then some (saidV l0 l1_0 l1_1 l2 a3 a4) else none
theorem foretellref_said.calls (A0 : Option Addr) (c0 : Nat) (l0 : List S65) (A1_0 : Option Addr) (c1_0 : Nat) (l1_0 : List (List Bool)) (A1_1 : Option Addr) (c1_1 : Nat) (l1_1 : List (List Bool)) (A2 : Option Addr) (c2 : Nat) (l2 : List (List Bool)) (a3 : Int) (a4 : Int) (r : Bool) (w : World) (hr0 : Kd.C k65 w A0 l0.length l0) (hc0 : l0.length ≤ c0) (hr1_0 : Kd.C (Kd.slice 4 Kd.bool) w A1_0 l1_0.length l1_0) (hc1_0 : l1_0.length ≤ c1_0) (hr1_1 : Kd.C (Kd.slice 4 Kd.bool) w A1_1 l1_1.length l1_1) (hc1_1 : l1_1.length ≤ c1_1) (hr2 : Kd.C (Kd.slice 4 Kd.bool) w A2 l2.length l2) (hc2 : l2.length ≤ c2) (h : foretellref_said.f l0 l1_0 l1_1 l2 a3 a4 = some r) :
    Calls Tryd.prog 48 #[.slice A0 l0.length c0, .agg #[.slice A1_0 l1_0.length c1_0, .slice A1_1 l1_1.length c1_1], .slice A2 l2.length c2, .int .i64 a3, .int .i64 a4] w fun e w' => e = .returned (.bool r) ∧ Below w.heap.size w w' := by
  unfold foretellref_said.f at h
  by_cases hB : saidB l0 l1_0 l1_1 l2 a3 a4 = true
  · rw [if_pos hB] at h
    obtain rfl := Option.some.inj h
    simp only [saidB, Bool.and_eq_true, decide_eq_true_eq, List.all_eq_true] at hB
    obtain ⟨⟨⟨⟨b1, b2, b3, b4, b5, b6, b7, b8, b9, b10⟩, b11⟩, b12⟩, b13⟩ := hB
    obtain ⟨a, rfl⟩ := Int.eq_ofNat_of_zero_le b6
    obtain ⟨i, rfl⟩ := Int.eq_ofNat_of_zero_le b8
    have h1 : one l0 := by
      unfold one
      cases hs : scan l0 1 with
      | ok q => rw [hs] at b1; rw [List.isEmpty_iff.1 b1]
      | error q => rw [hs] at b1; cases b1
    have ha : a < l0.length := by omega
    have := said_calls (l1_0 ++ l1_1).length l1_1.length ((l1_0 ++ l1_1).getD 0 []).length A0 c0 l0 A1_0 c1_0 l1_0 A1_1 c1_1 l1_1 A2 c2 l2 a i w hr0 hc0 hr1_0 hc1_0 hr1_1 hc1_1 hr2 hc2 h1 b2 b11 b12 List.length_append rfl b3 b4 b5 ha (by omega) b10 (fun j h2 h3 => by
      have hd : l2.getD j [] ∈ l2.drop (a + 1) := by
        have hj : j < l2.length := by omega
        rw [List.getD_eq_getElem?_getD, List.getElem?_eq_getElem hj]
        refine List.mem_iff_getElem.2 ⟨j - (a + 1), by rw [List.length_drop]; omega, ?_⟩
        rw [List.getElem_drop]
        simp only [show a + 1 + (j - (a + 1)) = j by omega]
        rfl
      exact b13 _ hd)
    have hg : rd_T65 l0 (a : Int) = l0[a] := Base.getD_get _ _ _ ha
    unfold saidV
    rw [hg]
    exact this
  · rw [if_neg hB] at h
    cases h
end
end Go.Proofs.YthffpjkkmkjplaaDoor.Q
