import Derived.Test.YthffpjkkmkjplaaDoorKWordClaimsG7
import Derived.Test.YthffpjkkmkjplaaDoorKWordClaimsG10
import Derived.Test.YthffpjkkmkjplaaDoorKWordClaimsG12
import Derived.Test.YthffpjkkmkjplaaDoorKWordClaimsG15
import Derived.Test.YthffpjkkmkjplaaDoorKWordClaimsG11
-- Cut by a program of this session (wip/prune.py) from a longer text: declarations that the law does not need are left out.
namespace Go.Proofs.YthffpjkkmkjplaaDoor.Q
open Go.RowKit Go.Proofs.YthffpjkkmkjplaaDoorW.PrintWords Go.Proofs.YthffpjkkmkjplaaDoorW.PrintLast Go.Proofs.YthffpjkkmkjplaaDoorW.PrintMore
attribute [local go_sem] max2_int min2_int max_two min_two max_three min_three max_four min_four
set_option linter.unusedVariables false
set_option linter.unusedSimpArgs false
section
open Go.Proofs.YthffpjkkmkjplaaDoor.Hand
open Go.Proofs.YthffpjkkmkjplaaDoor.Pure (bitAt cIn cIn_bd midS midS_len midS_zero midS_end midS_at midS_set midS_skip outS outS_len outS_zero aheadL pw or_pw)
theorem put_nums (xs : List Int) (i : Nat) (v : Int) : (nums .i64 xs).toArray.setIfInBounds i (.int .i64 v) = (nums .i64 (xs.set i v)).toArray := by
  simp [nums, List.map_set]
theorem at_nums {w : World} {g : Nat} {xs : List Int} (h : w.heap[g]? = some (.cells (nums .i64 xs).toArray 3 (0, 0))) (i : Nat) (h1 : i < xs.length) : w.cell? ⟨g, i, none⟩ = some (.int .i64 (rd xs (i : Int))) := by
  rw [blk_cell h]
  simp [nums, rd, h1]
theorem shl_small (j : Nat) (h : j ≤ 5) : wrap64 (2 ^ min j 64) = shl .i64 1 (j : Int) := by
  have : j = 0 ∨ j = 1 ∨ j = 2 ∨ j = 3 ∨ j = 4 ∨ j = 5 := by omega
  rcases this with rfl | rfl | rfl | rfl | rfl | rfl <;> decide +kernel
def claimsS (l : List S65) (st lp : List (List Bool)) (pn : Int) : List Int × Int := if openE l st lp pn = 0 then (outS (Pure.rowsS (st ++ lp).length lp.length (st ++ lp) l) (aheadL l 0) (st ++ lp).length (aheadL l 0).length, 0) else ([], openE l st lp pn)
structure ClaimS (gt gr gO n : Nat) (l : List S65) (ps : List Int) (RW : List (List Bool)) (Ap : Option Addr) (cp : Nat) (wA : World) : Prop where
  t : wA.cell? ⟨gt, 4, none⟩ = some (.slice (some ⟨gr, 0, none⟩) l.length l.length)
  tl : gt < wA.heap.size
  rows : ∀ k, k < l.length → gr < wA.heap.size ∧ ∃ g, wA.cell? ⟨gr, k, none⟩ = some (.slice (some ⟨g, 0, none⟩) n n) ∧ wA.heap[g]? = some (.cells (bools (RW.getD k [])).toArray 4 (0, 0)) ∧ (RW.getD k []).length = n
  pC : Kd.C (Kd.int .i64) wA Ap ps.length ps
  pb : ∀ j, j < ps.length → 0 ≤ ps.getD j 0 ∧ ps.getD j 0 < (l.length : Int)
  pl : ps.length ≤ 6
  gO : gO = wA.heap.size
structure ClaimD (gO : Nat) (xs : List Int) (wA w : World) : Prop where
  b : Below wA.heap.size wA w
  o : w.heap[gO]? = some (.cells (nums .i64 xs).toArray 3 (0, 0))
theorem ClaimD.set {gO : Nat} {xs : List Int} {wA w : World} (h : ClaimD gO xs wA w) (hg : wA.heap.size ≤ gO) (i : Nat) (v : Int) : ClaimD gO (xs.set i v) wA (w.setCell ⟨gO, i, none⟩ (.int .i64 v)) :=
  ⟨h.b.grown (grownBy_set (World.grownBy.refl w (some gO)) i _) h.b.size (fun k hk => by injection hk with hk; omega), by rw [blk_set h.o, put_nums]⟩
theorem ClaimD.drewN {gO : Nat} {xs : List Int} {wA w : World} (h : ClaimD gO xs wA w) (k : Nat) : ClaimD gO xs wA (w.drewN k) := ⟨⟨h.b.os, h.b.tape, h.b.output, h.b.size, h.b.block⟩, h.o⟩
set_option maxRecDepth 100000 in
set_option maxHeartbeats 4000000 in
theorem claims_calls (k : Nat) (A0 : Option Addr) (c0 : Nat) (l : List S65) (A1 : Option Addr) (c1 : Nat) (st : List (List Bool)) (A2 : Option Addr) (c2 : Nat) (lp : List (List Bool)) (pn : Int) (r1 : List Int) (r2 : Int) (w : World)
    (hr0 : Kd.C k65 w A0 l.length l) (hc0 : l.length ≤ c0) (hr1 : Kd.C (Kd.slice 4 Kd.bool) w A1 st.length st) (hc1 : st.length ≤ c1) (hr2 : Kd.C (Kd.slice 4 Kd.bool) w A2 lp.length lp) (hc2 : lp.length ≤ c2) (hL : LaidG w)
    (hck : logic_Check.f k l pn = some (Pure.checkS l pn)) (hah : logic_Ahead.f k l pn = some (Pure.aheadS l pn)) (h : claimsS l st lp pn = (r1, r2)) :
    Calls Tryd.prog 15 #[.slice A0 l.length c0, .agg #[.slice A1 st.length c1, .slice A2 lp.length c2], .int .i64 pn] w fun e w' => ∃ v0_ : Value, e = .returned (.tuple #[v0_, .int .i64 r2]) ∧ Kd.R (Kd.int .i64) 3 w' w.heap.size (fun _ => True) v0_ r1 ∧ Below w.heap.size w w' := by
  have HR0 := Aside0.mk hr0
  have HC0 := Aside0.mk hc0
  have HR1 := Aside0.mk hr1
  have HC1 := Aside0.mk hc1
  have HR2 := Aside0.mk hr2
  have HC2 := Aside0.mk hc2
  have HLd := Aside0.mk hL
  have HCK := Aside0.mk hck
  have hu24 := Tryd.underlying25
  unfold claimsS at h
  have HH := Aside0.mk h
  clear hr0 hc0 hr1 hc1 hr2 hc2 hL hck h
  by_cases g1 : openE l st lp pn = 0
  case neg =>
    have q1 : (openE l st lp pn != 0) = true := bne_iff_ne.2 g1
    have h := HH.out
    rw [if_neg g1] at h
    obtain ⟨rfl, rfl⟩ := Prod.mk.inj h
    have HG := Aside0.mk g1
    clear g1 h HH hah
    go_enter Tryd.func15, Tryd.ntmps15
    go_wp2_with (first | ((with_reducible refine gate_dst (N := 4) rfl ?_); refine box_event ?hg (N := 4) ?hd (cs := #[.slice A1 st.length c1, .slice A2 lp.length c2]) (t := 25) ?hr ?_; (case hd => rfl); (case hg => rfl); (case hr => first | (go_simp; done) | (go_simp; rfl)); intro gb hg w1 hbox hb; have HB := Aside0.mk hb; have k0 : w1.cell? ⟨gb, 0, none⟩ = some (.slice A1 st.length c1) := blk_cell hbox 0; have k1 : w1.cell? ⟨gb, 1, none⟩ = some (.slice A2 lp.length c2) := blk_cell hbox 1; clear hb hbox hg) | (go_at_call 23; refine (open_calls k _ _ l _ _ st _ _ lp _ _ (Kd.C_below HR0.out HB.out) HC0.out (Kd.C_below HR1.out HB.out) HC1.out (Kd.C_below HR2.out HB.out) HC2.out (HLd.out.below HB.out) HCK.out).mono ?_; rintro e w2 ⟨hb, he⟩; rw [if_neg HG.out] at he; obtain rfl := he; have HB2 := Aside0.mk (below_step HB.out hb); clear hb k0 k1))
    go_ret2
    exact ⟨_, rfl, Kd.R_nil _ _ _ _ _, HB2.out⟩
  have h := HH.out
  rw [if_pos g1] at h
  obtain ⟨hr1, hr2⟩ := Prod.mk.inj h
  subst hr2
  have hck0 : Pure.checkS l pn = 0 := by
    unfold openE at g1
    by_cases hc : Pure.checkS l pn = 0
    · exact hc
    · rw [if_neg hc] at g1; exact absurd g1 hc
  have hal : Pure.aheadS l pn = (aheadL l 0, 0) := by unfold Pure.aheadS; rw [if_pos hck0]
  rw [hal] at hah
  have HAH := Aside0.mk hah
  have HPB := Aside0.mk (show ∀ j, j < (aheadL l 0).length → 0 ≤ (aheadL l 0).getD j 0 ∧ (aheadL l 0).getD j 0 < (l.length : Int) from fun j hj => by
    have hm : (aheadL l 0).getD j 0 ∈ aheadL l 0 := by rw [List.getD_eq_getElem?_getD, List.getElem?_eq_getElem hj]; exact List.getElem_mem hj
    have := Pure.aheadL_bd l 0 _ hm
    omega)
  have HPL := Aside0.mk (show (aheadL l 0).length ≤ 6 from by rw [Pure.aheadL_cA]; exact (Pure.checkS_fit hck0).1)
  have HG := Aside0.mk g1
  obtain ⟨n, hn⟩ : ∃ n, n = (st ++ lp).length := ⟨_, rfl⟩
  rw [← hn] at hr1
  obtain ⟨RW, hRW⟩ : ∃ RW, RW = Pure.rowsS n lp.length (st ++ lp) l := ⟨_, rfl⟩
  have HN := Aside0.mk (show n ≤ 24 from by
    have := wordS_ok (st := st) (lp := lp) (n := pn) (by unfold openE at g1; rw [if_pos hck0] at g1; exact g1)
    rw [hn, List.length_append]; omega)
  rw [← hRW] at hr1
  have HRW := Aside0.mk hRW
  have Hn := Aside0.mk hn
  obtain ⟨ps, hps⟩ : ∃ ps, ps = aheadL l 0 := ⟨_, rfl⟩
  rw [← hps] at hr1 HAH HPB HPL
  have HE := Aside0.mk hr1
  clear hr1 h HH hah hck0 hal g1 hRW hn hps
  have hmk := print_make_of (P := Tryd.prog) 37 3 (.int .i64 0) 8 Tryd.underlying37 info3 rfl (by omega) n (by have := HN.out; omega)
  rw [made_nums] at hmk
  go_enter Tryd.func15, Tryd.ntmps15
  go_wp2_with (first | ((with_reducible refine gate_dst (N := 4) rfl ?_); refine box_event ?hg (N := 4) ?hd (cs := #[.slice A1 st.length c1, .slice A2 lp.length c2]) (t := 25) ?hr ?_; (case hd => rfl); (case hg => rfl); (case hr => first | (go_simp; done) | (go_simp; rfl)); intro gb hg w1 hbox hb; have HB := Aside0.mk hb; have k0 : w1.cell? ⟨gb, 0, none⟩ = some (.slice A1 st.length c1) := blk_cell hbox 0; have k1 : w1.cell? ⟨gb, 1, none⟩ = some (.slice A2 lp.length c2) := blk_cell hbox 1; clear hb hbox hg) | (go_at_call 23; refine (open_calls k _ _ l _ _ st _ _ lp _ _ (Kd.C_below HR0.out HB.out) HC0.out (Kd.C_below HR1.out HB.out) HC1.out (Kd.C_below HR2.out HB.out) HC2.out (HLd.out.below HB.out) HCK.out).mono ?_; rintro e w2 ⟨hb, he⟩; rw [if_pos HG.out] at he; obtain ⟨gt, gL, gr, cL, gE, cE, vs, w3, rfl, hsz, hT, hD⟩ := he; rw [← Hn.out] at hT hD; rw [← HRW.out] at hD; have HB2 := Aside0.mk (below_step HB.out hb); have HT := Aside0.mk hT; have HD := Aside0.mk hD; clear hb k0 k1 hT hD) | (go_at_call 26; refine (logic_Ahead.calls k _ _ l _ _ _ _ (Kd.C_below HR0.out HB2.out) HC0.out (HLd.out.below HB2.out) HAH.out).mono ?_; rintro e w4 ⟨v0, rfl, hv, hb⟩; obtain ⟨Ap, cp, rfl⟩ := Kd.R_slice hv; have HV := Aside0.mk hv; have HB4 := Aside0.mk (below_step HB2.out hb); obtain ⟨cs1, hr1⟩ := HT.out.r1; have hne : gt ≠ gr := blk_ne HT.out.t hr1 (by decide); have HX := Aside0.mk (blk_below (blk_grown HT.out.t HD.out.gb (fun e => hne (Option.some.inj e))) hb); have HBL := Aside0.mk hb; have k2 : w4.cell? ⟨gt, 2, none⟩ = some (.slice (some ⟨gL, 0, none⟩) n cL) := blk_cell HX.out 2; clear hv hb hr1 hne))
  obtain ⟨W0, hW⟩ : ∃ W0, W0 = w4.alloc (Obj.cells (nums .i64 (List.replicate n 0)).toArray 3) := ⟨_, rfl⟩
  have HS := Aside0.mk (show ClaimS gt gr w4.heap.size n l ps RW Ap cp w4 from ⟨blk_cell HX.out 4, blk_lt HX.out, fun k hk => by
    obtain ⟨g, e1, e2, e3, e4⟩ := HD.out.rows k (Nat.zero_le _) hk
    have h1 := blk_below HD.out.r HBL.out
    refine ⟨blk_lt h1, g, ?_, blk_below e2 HBL.out, e3⟩
    rw [blk_cell h1]; simpa using e1, (Kd.R_reads' HV.out).2.2, HPB.out, HPL.out, rfl⟩)
  have HC0 := Aside0.mk (show ClaimD w4.heap.size (outS RW ps n 0) w4 W0 from ⟨by rw [hW]; exact below_alloc (Below.refl _ _) _, by rw [hW, outS_zero]; exact heap_new _ _⟩)
  rw [← hW]
  clear hW k2 HX HBL hmk HAH HPB HPL HT HD HV hsz
  obtain ⟨gO, hgO⟩ : ∃ gO, gO = w4.heap.size := ⟨_, rfl⟩
  rw [← hgO] at HS HC0 ⊢
  have HgO := Aside0.mk hgO
  clear hgO
  go_loopg [41] (ps.length + 1) (fun kq v41 w' => ∃ j : Nat, v41 = .int .i64 (j : Int) ∧ Aside0 (kq + j = ps.length + 1 ∧ j ≤ ps.length) ∧ Aside0 (ClaimD gO (outS RW ps n j) w4 w'))
  case atStart => exact ⟨0, rfl, ⟨by omega, Nat.zero_le _⟩, HC0⟩
  case round =>
    clear HC0
    obtain ⟨j, rfl, HI, HC⟩ := hrel
    cases gk with
    | zero => exact absurd HI.out (by omega)
    | succ k1 =>
    by_cases hj : j < ps.length
    · have hd : decide ((j : Int) < (ps.length : Int)) = true := decide_eq_true (by omega)
      have hd2 : decide (j < ps.length) = true := decide_eq_true hj
      have hq : ((j : Int) < (ps.length : Int)) = True := eq_true (by omega)
      have hp : (0 ≤ (j : Int)) = True := eq_true (by omega)
      obtain ⟨ad, e, h1⟩ := Kd.at_int (Kd.C_below HS.out.pC HC.out.b) (j : Int) (by omega) (by omega)
      subst e
      have hpb := HS.out.pb j hj
      obtain ⟨p, hpj⟩ : ∃ p : Nat, rd ps (j : Int) = (p : Int) := ⟨(ps.getD j 0).toNat, by show ps.getD (j : Int).toNat 0 = _; rw [Int.toNat_natCast]; omega⟩
      have hpj2 : (ps.getD j 0).toNat = p := by
        have e : ps.getD j 0 = (p : Int) := hpj
        rw [e, Int.toNat_natCast]
      have hpl : p < l.length := by omega
      rw [hpj, Int.toNat_natCast] at h1
      obtain ⟨hgr, g, e1, e2, e3⟩ := HS.out.rows p hpl
      have x4 : wr.cell? ⟨gt, 4, none⟩ = some (.slice (some ⟨gr, 0, none⟩) l.length l.length) := by rw [(bcell HC.out.b).1 _ _ HS.out.tl]; exact HS.out.t
      have x5 : wr.cell? ⟨gr, p, none⟩ = some (.slice (some ⟨g, 0, none⟩) n n) := by rw [(bcell HC.out.b).1 _ _ hgr]; exact e1
      have q2 : decide (p < l.length) = true := decide_eq_true hpl
      have q3 : ((p : Int) < (l.length : Int)) = True := eq_true (by omega)
      have q4 : (0 ≤ (p : Int)) = True := eq_true (by omega)
      have HP := Aside0.mk hpj2
      have HRow := Aside0.mk e2
      have HRl := Aside0.mk e3
      have HJ := Aside0.mk hj
      clear e2 e3 e1 hgr hpj2 hpb hj hpj
      go_wp2_with fail
      clear x4 x5 q2 q3 q4 hd hd2 hq hp h1
      go_loopg [54] (n + 1) (fun kq v54 w' => ∃ t : Nat, v54 = .int .i64 (t : Int) ∧ Aside0 (kq + t = n + 1 ∧ t ≤ n) ∧ Aside0 (ClaimD gO (midS RW ps n j t) w4 w'))
      case atStart => exact ⟨0, rfl, ⟨by omega, Nat.zero_le _⟩, ⟨by rw [midS_zero]; exact HC.out⟩⟩
      case round =>
        clear HC
        obtain ⟨t, rfl, HT, HC⟩ := hrel
        cases gk with
        | zero => exact absurd HT.out (by omega)
        | succ k2 =>
        by_cases ht : t < n
        · have hd : decide ((t : Int) < (n : Int)) = true := decide_eq_true (by omega)
          have hd2 : decide (t < n) = true := decide_eq_true ht
          have hq : ((t : Int) < (n : Int)) = True := eq_true (by omega)
          have hp : (0 ≤ (t : Int)) = True := eq_true (by omega)
          have kr := bools_cell (blk_below HRow.out HC.out.b) t (by rw [HRl.out]; exact ht)
          have ko := at_nums HC.out.o t (by rw [midS_len]; exact ht)
          rw [midS_at RW ps n j t ht] at ko
          have hbd := cIn_bd RW ps t j (by have := HS.out.pl; have := HJ.out; omega)
          have hor := or_pw (b := j) (by have := HS.out.pl; have := HJ.out; omega) hbd.1 hbd.2
          have zo : wr.frozen? ⟨gO, t, none⟩ = false := blk_frozen HC.out.o _
          have e1 : IntKind.i64.wrap ((t : Int) + 1) = ((t + 1 : Nat) : Int) := by rw [IntKind.wrap_i64]; have := HN.out; omega
          have HT2 := Aside0.mk (show k2 + (t + 1) = n + 1 ∧ t + 1 ≤ n by have := HT.out; omega)
          have hj0 : ((j : Int) < 0) = False := eq_false (by omega)
          cases hb : bitAt RW ps t j with
          | false =>
            have hb2 := hb
            unfold bitAt at hb2
            rw [HP.out] at hb2
            rw [hb2] at kr
            have HC2 := Aside0.mk (show ClaimD gO (midS RW ps n j (t + 1)) w4 wr by rw [← midS_skip RW ps n j t hb]; exact HC.out)
            clear HC hb hb2 ko hor hbd zo ht
            go_wp2_with fail
            go_roundg k2
            case measure => have := HT2.out; omega
            case rel => exact ⟨t + 1, rfl, HT2, HC2⟩
          | true =>
            have hb2 := hb
            unfold bitAt at hb2
            rw [HP.out] at hb2
            rw [hb2] at kr
            have HC2 := Aside0.mk (show ClaimD gO (midS RW ps n j (t + 1)) w4 (wr.setCell ⟨gO, t, none⟩ (.int .i64 (bits .or .i64 (cIn RW ps t j) (wrap64 (2 ^ min j 64))))).drew by rw [shl_small j (by have := HS.out.pl; have := HJ.out; omega), hor, ← midS_set RW ps n j t ht hb _ rfl]; exact (HC.out.set (by rw [HS.out.gO]; exact Nat.le_refl _) t _).drewN 1)
            clear HC hb hb2 hbd ht
            go_wp2_with fail
            go_region
            go_wp2_with fail
            go_roundg k2
            case measure => have := HT2.out; omega
            case rel => exact ⟨t + 1, rfl, HT2, HC2⟩
        · have hd : decide ((t : Int) < (n : Int)) = false := decide_eq_false (by omega)
          have hd2 : decide (t < n) = false := decide_eq_false ht
          have hnt : t = n := by have := HT.out; omega
          have HC2 := Aside0.mk (show ClaimD gO (outS RW ps n (j + 1)) w4 wr by have h := HC.out; rw [hnt, midS_end] at h; exact h)
          have e1 : IntKind.i64.wrap ((j : Int) + 1) = ((j + 1 : Nat) : Int) := by rw [IntKind.wrap_i64]; have := HS.out.pl; have := HJ.out; omega
          have HI2 := Aside0.mk (show k1 + (j + 1) = ps.length + 1 ∧ j + 1 ≤ ps.length by have := HI.out; have := HJ.out; omega)
          clear HC ht hnt HT
          go_wp2_with fail
          go_roundg k1
          case measure => have := HI2.out; omega
          case rel => exact ⟨j + 1, rfl, HI2, HC2⟩
    · have hd : decide ((j : Int) < (ps.length : Int)) = false := decide_eq_false (by omega)
      have hd2 : decide (j < ps.length) = false := decide_eq_false hj
      have hjl : j = ps.length := by have := HI.out; omega
      have HR := Aside0.mk (show Kd.R (Kd.int .i64) 3 wr w.heap.size (fun _ => True) (.slice (some ⟨gO, 0, none⟩) n n) r1 from by
        have h := R_of_block (base := w.heap.size) HC.out.o (by rw [HgO.out]; exact HB4.out.size) (by rw [outS_len]; have := HN.out; omega)
        rw [outS_len, hjl, HE.out] at h
        exact h)
      have HBB := Aside0.mk (below_step HB4.out HC.out.b)
      clear HC hj hjl HI
      go_wp2_with fail
      go_ret2
      exact ⟨_, rfl, HR.out, HBB.out⟩
def word_Claims.f (l0 : List S65) (l1_0 l1_1 : List (List Bool)) (a2 : Int) : Option (List Int × Int) := some (claimsS l0 l1_0 l1_1 a2)
theorem word_Claims.calls (A0 : Option Addr) (c0 : Nat) (l0 : List S65) (A1_0 : Option Addr) (c1_0 : Nat) (l1_0 : List (List Bool)) (A1_1 : Option Addr) (c1_1 : Nat) (l1_1 : List (List Bool)) (a2 : Int) (r1 : List Int) (r2 : Int) (w : World) (hr0 : Kd.C k65 w A0 l0.length l0) (hc0 : l0.length ≤ c0) (hr1_0 : Kd.C (Kd.slice 4 Kd.bool) w A1_0 l1_0.length l1_0) (hc1_0 : l1_0.length ≤ c1_0) (hr1_1 : Kd.C (Kd.slice 4 Kd.bool) w A1_1 l1_1.length l1_1) (hc1_1 : l1_1.length ≤ c1_1) (hL : LaidG w) (h : word_Claims.f l0 l1_0 l1_1 a2 = some (r1, r2)) :
    Calls Tryd.prog 15 #[.slice A0 l0.length c0, .agg #[.slice A1_0 l1_0.length c1_0, .slice A1_1 l1_1.length c1_1], .int .i64 a2] w fun e w' => ∃ v0_ : Value, e = .returned (.tuple #[v0_, .int .i64 r2]) ∧ Kd.R (Kd.int .i64) 3 w' w.heap.size (fun _ => True) v0_ r1 ∧ Below w.heap.size w w' := by
  obtain ⟨K1, hK1⟩ := Pure.check_ev l0 a2
  obtain ⟨K2, hK2⟩ := Pure.ahead_ev l0 a2
  exact claims_calls (K1 + K2) A0 c0 l0 A1_0 c1_0 l1_0 A1_1 c1_1 l1_1 a2 r1 r2 w hr0 hc0 hr1_0 hc1_0 hr1_1 hc1_1 hL (hK1 _ (by omega)) (hK2 _ (by omega)) (Option.some.inj h)
end
end Go.Proofs.YthffpjkkmkjplaaDoor.Q
-- Cut by a program of this session (wip/prune.py) from a longer text: declarations that the law does not need are left out.
namespace Go.Proofs.YthffpjkkmkjplaaDoor.Q
open Go.RowKit Go.Proofs.YthffpjkkmkjplaaDoorW.PrintWords Go.Proofs.YthffpjkkmkjplaaDoorW.PrintLast Go.Proofs.YthffpjkkmkjplaaDoorW.PrintMore
attribute [local go_sem] max2_int min2_int max_two min_two max_three min_three max_four min_four
set_option linter.unusedVariables false
set_option linter.unusedSimpArgs false
def foretellref_momentOf.l0 : Nat → Int → List (List Bool) → List (List Bool) → Option (Int)
  | 0, _, _, _ => none
  | k + 1, x1, x158000, x158001 => if x1 ≥ (wrap64 ((x158000.length : Int) + (x158001.length : Int))) then (foretellref_momentOf.l0 k (wrap64 (x1 - (x158001.length : Int))) x158000 x158001) else (some x1)
def foretellref_momentOf.f (k : Nat) (l0_0 : List (List Bool)) (l0_1 : List (List Bool)) (a1 : Int) : Option (Int) := foretellref_momentOf.l0 k a1 l0_0 l0_1
theorem foretellref_momentOf.mono_l : ∀ k, (∀ y0 y1 y2, LeO (foretellref_momentOf.l0 k y0 y1 y2) (foretellref_momentOf.l0 (k + 1) y0 y1 y2))
  | 0 => fun _ _ _ r h => by simp [foretellref_momentOf.l0] at h
  | k + 1 => by
    have ih0 := foretellref_momentOf.mono_l k
    · intro y0 y1 y2
      unfold foretellref_momentOf.l0
      repeat' first
      | (with_reducible exact ih0 _ _ _)
      | (with_reducible exact LeO.refl _)
      | (with_reducible exact LeO.none _)
      | (with_reducible refine LeO.ite ?_ ?_)
      | (with_reducible refine LeO.bind ?_ (fun _ => ?_))
      | exact ih0 _ _ _
      | exact LeO.none _
      | refine LeO.ite ?_ ?_
      | refine LeO.bind ?_ (fun _ => ?_)
theorem foretellref_momentOf.mono : ∀ a0 a1 a2 k, LeO (foretellref_momentOf.f k a0 a1 a2) (foretellref_momentOf.f (k + 1) a0 a1 a2) := by
  intro a0 a1 a2 k
  have ih0 := foretellref_momentOf.mono_l k
  unfold foretellref_momentOf.f
  repeat' first
      | (with_reducible exact ih0 _ _ _)
      | (with_reducible exact LeO.refl _)
      | (with_reducible exact LeO.none _)
      | (with_reducible refine LeO.ite ?_ ?_)
      | (with_reducible refine LeO.bind ?_ (fun _ => ?_))
      | exact ih0 _ _ _
      | exact LeO.none _
      | refine LeO.ite ?_ ?_
      | refine LeO.bind ?_ (fun _ => ?_)
set_option maxHeartbeats 8000000 in
set_option maxRecDepth 100000 in
theorem foretellref_momentOf.calls (k : Nat) (A0_0 : Option Addr) (c0_0 : Nat) (l0_0 : List (List Bool)) (A0_1 : Option Addr) (c0_1 : Nat) (l0_1 : List (List Bool)) (a1 : Int) (r : Int) (w : World) (hr0_0 : Kd.C (Kd.slice 4 Kd.bool) w A0_0 l0_0.length l0_0) (hc0_0 : l0_0.length ≤ c0_0) (hr0_1 : Kd.C (Kd.slice 4 Kd.bool) w A0_1 l0_1.length l0_1) (hc0_1 : l0_1.length ≤ c0_1) (h : foretellref_momentOf.f k l0_0 l0_1 a1 = some r) :
    Calls Tryd.prog 76 #[.agg #[.slice A0_0 l0_0.length c0_0, .slice A0_1 l0_1.length c0_1], .int .i64 a1] w fun e w' => e = .returned (.int .i64 r) ∧ Below w.heap.size w w' := by
  have hu25 := Tryd.underlying25
  have HR0_0 := Aside0.mk hr0_0
  have HC0_0 := Aside0.mk hc0_0
  clear hr0_0 hc0_0
  have HR0_1 := Aside0.mk hr0_1
  have HC0_1 := Aside0.mk hc0_1
  clear hr0_1 hc0_1
  have HB := Aside0.mk (Below.refl w.heap.size w)
  have H : (foretellref_momentOf.l0 k a1 l0_0 l0_1) = some r := h
  clear h
  have H' := Aside0.mk H
  clear H
  go_enter Tryd.func76, Tryd.ntmps76
  go_wp2_with (first | ((with_reducible refine gate_dst (N := 2) rfl ?_); refine box_event ?hg (N := 2) ?hd (cs := #[.slice A0_0 l0_0.length c0_0, .slice A0_1 l0_1.length c0_1]) (t := 25) ?hr ?_; (case hd => rfl); (case hg => rfl); (case hr => first | (go_simp; done) | (go_simp; rfl)); intro gb157 hg w3 hbox hb; have n0_ := Aside0.mk (below_step (by repeat (first | (with_reducible first | exact HB.out | apply below_alloc | apply pw_below_drewN | apply below_drew1) | exact HB.out)) hb); have n1_ := Aside0.mk (hbox); have n2_ := Aside0.mk ((by rw [hg]; exact (below_size (by repeat (first | (with_reducible first | exact HB.out | apply below_alloc | apply pw_below_drewN | apply below_drew1) | exact HB.out))) : w.heap.size ≤ gb157)); have n3_ := Aside0.mk ((by rw [hg]; exact (below_size (by repeat (first | (with_reducible first | exact HB.out | apply below_alloc | apply pw_below_drewN | apply below_drew1) | exact HB.out))) : w.heap.size ≤ gb157)); clear HB; have HB := n0_; have BK157 := n1_; have GW157 := n2_; have GE157 := n3_; clear n0_ n1_ n2_ n3_; clear hb hbox hg))
  go_loopg [1] k (fun kq v1 w' => ∃ (x1_1 : Int), v1 = .int .i64 x1_1 ∧ Aside0 (foretellref_momentOf.l0 kq x1_1 l0_0 l0_1 = some r) ∧ Aside0 (kq ≤ k) ∧ Aside0 (w'.heap[gb157]? = some (.cells #[(.slice A0_0 l0_0.length c0_0), (.slice A0_1 l0_1.length c0_1)] 25 (0, 0))) ∧ Aside0 (Below w.heap.size w w'))
  case atStart => exact ⟨(a1), (by first | rfl | (simp; done) | (simp [*]; done)), H', ⟨Nat.le_refl _⟩, ⟨by (with_reducible repeat (first | refine blk_drewN ?_ _ | refine blk_drew ?_ | refine blk_alloc ?_ _)); exact BK157.out⟩, ⟨by repeat (first | (with_reducible first | exact HB.out | apply below_alloc | apply pw_below_drewN | apply below_drew1 | refine below_set ?_ GE157.out) | exact HB.out)⟩⟩
  case round =>
    clear H'
    try clear p2
    obtain ⟨x1_1, rfl, HA, HK1, BK157, HB⟩ := hrel
    cases gk with
    | zero => exact absurd HA.out (by simp [foretellref_momentOf.l0])
    | succ k1 =>
      have H := HA.out
      clear HA
      simp only [foretellref_momentOf.l0] at H
      by_cases c4 : x1_1 ≥ (wrap64 ((l0_0.length : Int) + (l0_1.length : Int)))
      · rw [if_pos c4] at H
        have c4b0 : decide ((wrap64 ((l0_0.length : Int) + (l0_1.length : Int))) ≤ x1_1) = true := decide_eq_true c4
        clear c4
        have H' := Aside0.mk H
        clear H
        have hcz5_0 : wr.cell? ⟨gb157, 0, none⟩ = some (.slice A0_0 l0_0.length c0_0) := (blk_cell BK157.out 0).trans rfl
        have hcz5_1 : wr.cell? ⟨gb157, 1, none⟩ = some (.slice A0_1 l0_1.length c0_1) := (blk_cell BK157.out 1).trans rfl
        have hfz5_0 := blk_frozen BK157.out 0
        have hfz5_1 := blk_frozen BK157.out 1
        go_wp2
        go_roundg k1
        case measure => have := HK1.out; omega
        case rel => exact ⟨(wrap64 (x1_1 - (l0_1.length : Int))), (by first | rfl | (simp; done) | (simp [*]; done)), H', ⟨by have := HK1.out; omega⟩, ⟨by (with_reducible repeat (first | refine blk_drewN ?_ _ | refine blk_drew ?_ | refine blk_alloc ?_ _)); exact BK157.out⟩, ⟨by repeat (first | (with_reducible first | exact HB.out | apply below_alloc | apply pw_below_drewN | apply below_drew1 | refine below_set ?_ GE157.out) | exact HB.out)⟩⟩
      · rw [if_neg c4] at H
        have c4b0 : decide ((wrap64 ((l0_0.length : Int) + (l0_1.length : Int))) ≤ x1_1) = false := decide_eq_false c4
        clear c4
        obtain rfl := Option.some.inj H
        have hcz6_0 : wr.cell? ⟨gb157, 0, none⟩ = some (.slice A0_0 l0_0.length c0_0) := (blk_cell BK157.out 0).trans rfl
        have hcz6_1 : wr.cell? ⟨gb157, 1, none⟩ = some (.slice A0_1 l0_1.length c0_1) := (blk_cell BK157.out 1).trans rfl
        have hfz6_0 := blk_frozen BK157.out 0
        have hfz6_1 := blk_frozen BK157.out 1
        go_wp2
        go_ret
        exact ⟨by first | rfl | (simp [errW_none, errW_some] <;> rfl) | (simp [*, errW_none, errW_some] <;> rfl), by repeat (first | (with_reducible first | exact HB.out | apply below_alloc | apply pw_below_drewN | apply below_drew1 | refine below_set ?_ GE157.out) | exact HB.out)⟩
end Go.Proofs.YthffpjkkmkjplaaDoor.Q
-- Cut by a program of this session (wip/prune.py) from a longer text: declarations that the law does not need are left out.
namespace Go.Proofs.YthffpjkkmkjplaaDoor.Q
open Go.RowKit Go.Proofs.YthffpjkkmkjplaaDoorW.PrintWords Go.Proofs.YthffpjkkmkjplaaDoorW.PrintLast Go.Proofs.YthffpjkkmkjplaaDoorW.PrintMore
attribute [local go_sem] max2_int min2_int max_two min_two max_three min_three max_four min_four
set_option linter.unusedVariables false
set_option linter.unusedSimpArgs false
def foretellref_letterAt.f (k : Nat) (l0_0 : List (List Bool)) (l0_1 : List (List Bool)) (a1 : Int) : Option (List Bool) := (foretellref_momentOf.f k l0_0 l0_1 a1).bind fun t159 => (if t159 < (l0_0.length : Int) then (if 0 ≤ t159 then (some (rd_L3 l0_0 t159)) else (none)) else (if 0 ≤ (wrap64 (t159 - (l0_0.length : Int))) then (if (wrap64 (t159 - (l0_0.length : Int))) < (l0_1.length : Int) then (some (rd_L3 l0_1 (wrap64 (t159 - (l0_0.length : Int))))) else (none)) else (none)))
theorem foretellref_letterAt.mono : ∀ a0 a1 a2 k, LeO (foretellref_letterAt.f k a0 a1 a2) (foretellref_letterAt.f (k + 1) a0 a1 a2) := by
  intro a0 a1 a2 k
  unfold foretellref_letterAt.f
  repeat' first
      | (with_reducible exact foretellref_momentOf.mono _ _ _ _)
      | (with_reducible exact LeO.refl _)
      | (with_reducible exact LeO.none _)
      | (with_reducible refine LeO.ite ?_ ?_)
      | (with_reducible refine LeO.bind ?_ (fun _ => ?_))
      | exact foretellref_momentOf.mono _ _ _ _
      | exact LeO.none _
      | refine LeO.ite ?_ ?_
      | refine LeO.bind ?_ (fun _ => ?_)
set_option maxHeartbeats 8000000 in
set_option maxRecDepth 100000 in
theorem foretellref_letterAt.calls (k : Nat) (P0_0_ : Nat → Prop) (A0_0 : Option Addr) (c0_0 : Nat) (l0_0 : List (List Bool)) (P0_1_ : Nat → Prop) (A0_1 : Option Addr) (c0_1 : Nat) (l0_1 : List (List Bool)) (a1 : Int) (r : List Bool) (w : World) (hs0_0 : Kd.V (Kd.slice 4 Kd.bool) 27 w w.heap.size (fun k_ => P0_0_ k_) (.slice A0_0 l0_0.length c0_0) l0_0) (hs0_1 : Kd.V (Kd.slice 4 Kd.bool) 27 w w.heap.size (fun k_ => P0_1_ k_) (.slice A0_1 l0_1.length c0_1) l0_1) (h : foretellref_letterAt.f k l0_0 l0_1 a1 = some r) :
    Calls Tryd.prog 75 #[.agg #[.slice A0_0 l0_0.length c0_0, .slice A0_1 l0_1.length c0_1], .int .i64 a1] w fun e w' => ∃ v0_ : Value, e = .returned (v0_) ∧ Kd.V Kd.bool 4 w' w.heap.size (fun k_ => ((P0_0_ k_ ∨ P0_1_ k_) ∨ w.heap.size ≤ k_)) v0_ r ∧ Below w.heap.size w w' := by
  have hu25 := Tryd.underlying25
  have HO0_0 := Aside0.mk (show Kd.V (Kd.slice 4 Kd.bool) 27 w w.heap.size (fun k_ => ((P0_0_ k_ ∨ P0_1_ k_) ∨ w.heap.size ≤ k_)) (.slice A0_0 l0_0.length c0_0) l0_0 from Kd.V_mono hs0_0 (fun k_ hk => .inl (.inl hk)))
  have HO0_1 := Aside0.mk (show Kd.V (Kd.slice 4 Kd.bool) 27 w w.heap.size (fun k_ => ((P0_0_ k_ ∨ P0_1_ k_) ∨ w.heap.size ≤ k_)) (.slice A0_1 l0_1.length c0_1) l0_1 from Kd.V_mono hs0_1 (fun k_ hk => .inl (.inr hk)))
  have HB := Aside0.mk (Below.refl w.heap.size w)
  have H : ((foretellref_momentOf.f k l0_0 l0_1 a1).bind fun t159 => (if t159 < (l0_0.length : Int) then (if 0 ≤ t159 then (some (rd_L3 l0_0 t159)) else (none)) else (if 0 ≤ (wrap64 (t159 - (l0_0.length : Int))) then (if (wrap64 (t159 - (l0_0.length : Int))) < (l0_1.length : Int) then (some (rd_L3 l0_1 (wrap64 (t159 - (l0_0.length : Int))))) else (none)) else (none)))) = some r := h
  clear h
  replace H := Option.bind_eq_some_iff.mp H
  obtain ⟨t159, A30, H⟩ := H
  replace H : (if t159 < (l0_0.length : Int) then (if 0 ≤ t159 then (some (rd_L3 l0_0 t159)) else (none)) else (if 0 ≤ (wrap64 (t159 - (l0_0.length : Int))) then (if (wrap64 (t159 - (l0_0.length : Int))) < (l0_1.length : Int) then (some (rd_L3 l0_1 (wrap64 (t159 - (l0_0.length : Int))))) else (none)) else (none))) = some r := H
  have A3 := Aside0.mk A30
  clear A30
  by_cases c4 : t159 < (l0_0.length : Int)
  · rw [if_pos c4] at H
    have c4b0 : decide (t159 < (l0_0.length : Int)) = true := decide_eq_true c4
    clear c4
    by_cases c5 : 0 ≤ t159
    · rw [if_pos c5] at H
      have c5b0 : decide (0 ≤ t159) = true := decide_eq_true c5
      clear c5
      obtain rfl := Option.some.inj H
      go_enter Tryd.func75, Tryd.ntmps75
      go_wp2_with (first | ((with_reducible refine gate_dst (N := 2) rfl ?_); refine box_event ?hg (N := 2) ?hd (cs := #[.slice A0_0 l0_0.length c0_0, .slice A0_1 l0_1.length c0_1]) (t := 25) ?hr ?_; (case hd => rfl); (case hg => rfl); (case hr => first | (go_simp; done) | (go_simp; rfl)); intro gb158 hg w6 hbox hb; have n0_ := Aside0.mk (Kd.V_below (Kd.V_elderB (by (with_reducible repeat (first | apply Kd.V_alloc | apply Kd.V_drewN | apply Kd.V_drew)); exact HO0_0.out) gb158 (Nat.le_of_eq hg.symm)) hb); have n1_ := Aside0.mk (Kd.V_below (Kd.V_elderB (by (with_reducible repeat (first | apply Kd.V_alloc | apply Kd.V_drewN | apply Kd.V_drew)); exact HO0_1.out) gb158 (Nat.le_of_eq hg.symm)) hb); have n2_ := Aside0.mk (below_step (by repeat (first | (with_reducible first | exact HB.out | apply below_alloc | apply pw_below_drewN | apply below_drew1) | exact HB.out)) hb); have n3_ := Aside0.mk (hbox); have n4_ := Aside0.mk ((by rw [hg]; exact (below_size (by repeat (first | (with_reducible first | exact HB.out | apply below_alloc | apply pw_below_drewN | apply below_drew1) | exact HB.out))) : w.heap.size ≤ gb158)); have n5_ := Aside0.mk ((by rw [hg]; exact (below_size (by repeat (first | (with_reducible first | exact HB.out | apply below_alloc | apply pw_below_drewN | apply below_drew1) | exact HB.out))) : w.heap.size ≤ gb158)); clear HO0_0; clear HO0_1; clear HB; have HO0_0 := n0_; have HO0_1 := n1_; have HB := n2_; have BK158 := n3_; have GW158 := n4_; have GE158 := n5_; clear n0_ n1_ n2_ n3_ n4_ n5_; clear hb hbox hg; have hcz7_0 : w6.cell? ⟨gb158, 0, none⟩ = some (.slice A0_0 l0_0.length c0_0) := (blk_cell BK158.out 0).trans rfl; have hcz7_1 : w6.cell? ⟨gb158, 1, none⟩ = some (.slice A0_1 l0_1.length c0_1) := (blk_cell BK158.out 1).trans rfl; have hfz7_0 := blk_frozen BK158.out 0; have hfz7_1 := blk_frozen BK158.out 1) | ((with_reducible refine gate_callee (f := 76) rfl ?_); refine goesL_ (some 7) rfl rfl Tryd.func76 (by kernel_rfl) rfl #[.agg #[.slice A0_0 l0_0.length c0_0, .slice A0_1 l0_1.length c0_1], .int .i64 a1] rfl (by (try simp only [List.map_toArray, List.map_cons, List.map_nil]); first | done | rfl | (simp only [List.length_drop, List.length_take]; rfl)) ?_; (with_reducible refine (foretellref_momentOf.calls k _ _ l0_0 _ _ l0_1 a1 t159 _ ?side1 ?side2 ?side3 ?side4 A3.out).mono ?_); (case side1 => repeat (first | exact (Kd.V_reads' HO0_0.out).2.2 | (with_reducible refine Kd.C_alloc ?_ _) | (with_reducible refine Kd.C_drewN ?_ _) | (with_reducible refine Kd.C_drew ?_))); (case side2 => exact (Kd.V_reads' HO0_0.out).2.1); (case side3 => repeat (first | exact (Kd.V_reads' HO0_1.out).2.2 | (with_reducible refine Kd.C_alloc ?_ _) | (with_reducible refine Kd.C_drewN ?_ _) | (with_reducible refine Kd.C_drew ?_))); (case side4 => exact (Kd.V_reads' HO0_1.out).2.1); rintro e w8 ⟨rfl, hb⟩; refine ⟨_, rfl, ?_⟩; have n0_ := Aside0.mk (Kd.V_below (by (with_reducible repeat (first | apply Kd.V_alloc | apply Kd.V_drewN | apply Kd.V_drew)); exact HO0_0.out) hb); have n1_ := Aside0.mk (Kd.V_below (by (with_reducible repeat (first | apply Kd.V_alloc | apply Kd.V_drewN | apply Kd.V_drew)); exact HO0_1.out) hb); have n2_ := Aside0.mk (blk_below (g := gb158) (o := .cells #[.slice A0_0 l0_0.length c0_0, .slice A0_1 l0_1.length c0_1] 25 (0, 0)) (by (with_reducible repeat (first | refine blk_drewN ?_ _ | refine blk_drew ?_ | refine blk_alloc ?_ _)); exact BK158.out) hb); have n3_ := Aside0.mk (below_step (by repeat (first | (with_reducible first | exact HB.out | apply below_alloc | apply pw_below_drewN | apply below_drew1 | refine below_set ?_ GE158.out) | exact HB.out)) hb); clear HO0_0; clear HO0_1; clear BK158; clear HB; have HO0_0 := n0_; have HO0_1 := n1_; have BK158 := n2_; have HB := n3_; clear n0_ n1_ n2_ n3_; (try clear hb); (try clear hb2); (try clear hk); (try clear hi); have hcz9_0 : w8.cell? ⟨gb158, 0, none⟩ = some (.slice A0_0 l0_0.length c0_0) := (blk_cell BK158.out 0).trans rfl; have hcz9_1 : w8.cell? ⟨gb158, 1, none⟩ = some (.slice A0_1 l0_1.length c0_1) := (blk_cell BK158.out 1).trans rfl; have hfz9_0 := blk_frozen BK158.out 0; have hfz9_1 := blk_frozen BK158.out 1; have p160 : 0 ≤ (t159 : Int) := of_decide_eq_true (by first | (with_reducible assumption) | assumption); have q160 : t159 < (l0_0.length : Int) := of_decide_eq_true (by first | (with_reducible assumption) | assumption); obtain ⟨ad160, A160_0, c160_0, e160, hx160_0, hl160_0, hi160_0⟩ := at_L3 (Kd.V_reads' HO0_0.out).2.2 t159 p160 q160; cases e160; obtain ⟨ce160, hce160, hMe160, hcc160⟩ := Kd.V_get HO0_0.out [] t159 p160 (by first | exact q160 | exact of_decide_eq_true (by first | (with_reducible assumption) | assumption) | (have e_ := (Kd.V_reads' HO0_0.out).1; omega)); obtain ⟨ua160_0, uc160_0, rfl, ul160_0, ge160_0⟩ := Kd.FK_slice_open hMe160; have hv160_0 := hcc160 0 _ rfl; rw [Nat.add_zero, show ((Kd.slice 4 Kd.bool)).sz = 1 from rfl, Nat.mul_one] at hv160_0; replace hv160_0 := Option.some.inj (hv160_0.symm.trans hx160_0); injection hv160_0 with hva_ hvn_ hvc_; rw [hva_] at ge160_0; rw [hvc_] at ul160_0; have HL160_0 := Aside0.mk (show Kd.V Kd.bool 4 _ w.heap.size _ _ (rd_L3 l0_0 t159) from Kd.V_mk ul160_0 ge160_0); clear hva_ hvn_ hvc_ ge160_0 ul160_0; clear hcc160 hce160; have HR160_0 := Aside0.mk hi160_0; have HC160_0 := Aside0.mk hl160_0; clear hi160_0 hl160_0; replace p160 := eq_true p160; replace q160 := eq_true q160))
      go_ret
      exact ⟨_, by first | rfl | (simp [errW_none, errW_some] <;> rfl) | (simp [*, errW_none, errW_some] <;> rfl), by (with_reducible repeat (first | apply Kd.V_alloc | apply Kd.V_drewN | apply Kd.V_drew)); exact Kd.V_mono HL160_0.out (fun _ hk => hk.1), by repeat (first | (with_reducible first | exact HB.out | apply below_alloc | apply pw_below_drewN | apply below_drew1 | refine below_set ?_ GE158.out) | exact HB.out)⟩
    · rw [if_neg c5] at H
      exact absurd H (by simp)
  · rw [if_neg c4] at H
    have c4b0 : decide (t159 < (l0_0.length : Int)) = false := decide_eq_false c4
    clear c4
    obtain ⟨ji10, hji10⟩ : ∃ j_ : Int, (wrap64 (t159 - (l0_0.length : Int))) = j_ := ⟨_, rfl⟩
    replace H : (if 0 ≤ (ji10) then (if (ji10) < (l0_1.length : Int) then (some (rd_L3 l0_1 (ji10))) else (none)) else (none)) = some r := by first | (rw [hji10] at H; exact H) | (simp only [hji10] at H ⊢; exact H)
    (try rw [hji10] at A3)
    have hji10w : (IntKind.i64.wrap (t159 - (l0_0.length : Int))) = ji10 := (i64_w _).trans hji10
    by_cases c11 : 0 ≤ (ji10)
    · rw [if_pos c11] at H
      have c11b0 : decide (0 ≤ (ji10)) = true := decide_eq_true c11
      clear c11
      by_cases c12 : (ji10) < (l0_1.length : Int)
      · rw [if_pos c12] at H
        have c12b0 : decide ((ji10) < (l0_1.length : Int)) = true := decide_eq_true c12
        clear c12
        obtain rfl := Option.some.inj H
        go_enter Tryd.func75, Tryd.ntmps75
        go_wp2_with (first | ((with_reducible refine gate_dst (N := 2) rfl ?_); refine box_event ?hg (N := 2) ?hd (cs := #[.slice A0_0 l0_0.length c0_0, .slice A0_1 l0_1.length c0_1]) (t := 25) ?hr ?_; (case hd => rfl); (case hg => rfl); (case hr => first | (go_simp; done) | (go_simp; rfl)); intro gb158 hg w13 hbox hb; have n0_ := Aside0.mk (Kd.V_below (Kd.V_elderB (by (with_reducible repeat (first | apply Kd.V_alloc | apply Kd.V_drewN | apply Kd.V_drew)); exact HO0_0.out) gb158 (Nat.le_of_eq hg.symm)) hb); have n1_ := Aside0.mk (Kd.V_below (Kd.V_elderB (by (with_reducible repeat (first | apply Kd.V_alloc | apply Kd.V_drewN | apply Kd.V_drew)); exact HO0_1.out) gb158 (Nat.le_of_eq hg.symm)) hb); have n2_ := Aside0.mk (below_step (by repeat (first | (with_reducible first | exact HB.out | apply below_alloc | apply pw_below_drewN | apply below_drew1) | exact HB.out)) hb); have n3_ := Aside0.mk (hbox); have n4_ := Aside0.mk ((by rw [hg]; exact (below_size (by repeat (first | (with_reducible first | exact HB.out | apply below_alloc | apply pw_below_drewN | apply below_drew1) | exact HB.out))) : w.heap.size ≤ gb158)); have n5_ := Aside0.mk ((by rw [hg]; exact (below_size (by repeat (first | (with_reducible first | exact HB.out | apply below_alloc | apply pw_below_drewN | apply below_drew1) | exact HB.out))) : w.heap.size ≤ gb158)); clear HO0_0; clear HO0_1; clear HB; have HO0_0 := n0_; have HO0_1 := n1_; have HB := n2_; have BK158 := n3_; have GW158 := n4_; have GE158 := n5_; clear n0_ n1_ n2_ n3_ n4_ n5_; clear hb hbox hg; have hcz14_0 : w13.cell? ⟨gb158, 0, none⟩ = some (.slice A0_0 l0_0.length c0_0) := (blk_cell BK158.out 0).trans rfl; have hcz14_1 : w13.cell? ⟨gb158, 1, none⟩ = some (.slice A0_1 l0_1.length c0_1) := (blk_cell BK158.out 1).trans rfl; have hfz14_0 := blk_frozen BK158.out 0; have hfz14_1 := blk_frozen BK158.out 1) | ((with_reducible refine gate_callee (f := 76) rfl ?_); refine goesL_ (some 7) rfl rfl Tryd.func76 (by kernel_rfl) rfl #[.agg #[.slice A0_0 l0_0.length c0_0, .slice A0_1 l0_1.length c0_1], .int .i64 a1] rfl (by (try simp only [List.map_toArray, List.map_cons, List.map_nil]); first | done | rfl | (simp only [List.length_drop, List.length_take]; rfl)) ?_; (with_reducible refine (foretellref_momentOf.calls k _ _ l0_0 _ _ l0_1 a1 t159 _ ?side1 ?side2 ?side3 ?side4 A3.out).mono ?_); (case side1 => repeat (first | exact (Kd.V_reads' HO0_0.out).2.2 | (with_reducible refine Kd.C_alloc ?_ _) | (with_reducible refine Kd.C_drewN ?_ _) | (with_reducible refine Kd.C_drew ?_))); (case side2 => exact (Kd.V_reads' HO0_0.out).2.1); (case side3 => repeat (first | exact (Kd.V_reads' HO0_1.out).2.2 | (with_reducible refine Kd.C_alloc ?_ _) | (with_reducible refine Kd.C_drewN ?_ _) | (with_reducible refine Kd.C_drew ?_))); (case side4 => exact (Kd.V_reads' HO0_1.out).2.1); rintro e w15 ⟨rfl, hb⟩; refine ⟨_, rfl, ?_⟩; have n0_ := Aside0.mk (Kd.V_below (by (with_reducible repeat (first | apply Kd.V_alloc | apply Kd.V_drewN | apply Kd.V_drew)); exact HO0_0.out) hb); have n1_ := Aside0.mk (Kd.V_below (by (with_reducible repeat (first | apply Kd.V_alloc | apply Kd.V_drewN | apply Kd.V_drew)); exact HO0_1.out) hb); have n2_ := Aside0.mk (blk_below (g := gb158) (o := .cells #[.slice A0_0 l0_0.length c0_0, .slice A0_1 l0_1.length c0_1] 25 (0, 0)) (by (with_reducible repeat (first | refine blk_drewN ?_ _ | refine blk_drew ?_ | refine blk_alloc ?_ _)); exact BK158.out) hb); have n3_ := Aside0.mk (below_step (by repeat (first | (with_reducible first | exact HB.out | apply below_alloc | apply pw_below_drewN | apply below_drew1 | refine below_set ?_ GE158.out) | exact HB.out)) hb); clear HO0_0; clear HO0_1; clear BK158; clear HB; have HO0_0 := n0_; have HO0_1 := n1_; have BK158 := n2_; have HB := n3_; clear n0_ n1_ n2_ n3_; (try clear hb); (try clear hb2); (try clear hk); (try clear hi); have hcz16_0 : w15.cell? ⟨gb158, 0, none⟩ = some (.slice A0_0 l0_0.length c0_0) := (blk_cell BK158.out 0).trans rfl; have hcz16_1 : w15.cell? ⟨gb158, 1, none⟩ = some (.slice A0_1 l0_1.length c0_1) := (blk_cell BK158.out 1).trans rfl; have hfz16_0 := blk_frozen BK158.out 0; have hfz16_1 := blk_frozen BK158.out 1; have p161 : 0 ≤ ((ji10) : Int) := of_decide_eq_true (by first | (with_reducible assumption) | assumption); have q161 : (ji10) < (l0_1.length : Int) := of_decide_eq_true (by first | (with_reducible assumption) | assumption); obtain ⟨ad161, A161_0, c161_0, e161, hx161_0, hl161_0, hi161_0⟩ := at_L3 (Kd.V_reads' HO0_1.out).2.2 (ji10) p161 q161; cases e161; obtain ⟨ce161, hce161, hMe161, hcc161⟩ := Kd.V_get HO0_1.out [] (ji10) p161 (by first | exact q161 | exact of_decide_eq_true (by first | (with_reducible assumption) | assumption) | (have e_ := (Kd.V_reads' HO0_1.out).1; omega)); obtain ⟨ua161_0, uc161_0, rfl, ul161_0, ge161_0⟩ := Kd.FK_slice_open hMe161; have hv161_0 := hcc161 0 _ rfl; rw [Nat.add_zero, show ((Kd.slice 4 Kd.bool)).sz = 1 from rfl, Nat.mul_one] at hv161_0; replace hv161_0 := Option.some.inj (hv161_0.symm.trans hx161_0); injection hv161_0 with hva_ hvn_ hvc_; rw [hva_] at ge161_0; rw [hvc_] at ul161_0; have HL161_0 := Aside0.mk (show Kd.V Kd.bool 4 _ w.heap.size _ _ (rd_L3 l0_1 (ji10)) from Kd.V_mk ul161_0 ge161_0); clear hva_ hvn_ hvc_ ge161_0 ul161_0; clear hcc161 hce161; have HR161_0 := Aside0.mk hi161_0; have HC161_0 := Aside0.mk hl161_0; clear hi161_0 hl161_0; replace p161 := eq_true p161; replace q161 := eq_true q161))
        go_ret
        exact ⟨_, by first | rfl | (simp [errW_none, errW_some] <;> rfl) | (simp only [← hji10]; first | rfl | (simp [errW_none, errW_some] <;> rfl)) | (simp [*, errW_none, errW_some] <;> rfl), by (with_reducible repeat (first | apply Kd.V_alloc | apply Kd.V_drewN | apply Kd.V_drew)); exact Kd.V_mono HL161_0.out (fun _ hk => hk.1), by repeat (first | (with_reducible first | exact HB.out | apply below_alloc | apply pw_below_drewN | apply below_drew1 | refine below_set ?_ GE158.out) | exact HB.out)⟩
      · rw [if_neg c12] at H
        exact absurd H (by simp)
    · rw [if_neg c11] at H
      exact absurd H (by simp)
end Go.Proofs.YthffpjkkmkjplaaDoor.Q
-- Cut by a program of this session (wip/prune.py) from a longer text: declarations that the law does not need are left out.
namespace Go.Proofs.YthffpjkkmkjplaaDoor.Q
open Go.RowKit Go.Proofs.YthffpjkkmkjplaaDoorW.PrintWords Go.Proofs.YthffpjkkmkjplaaDoorW.PrintLast Go.Proofs.YthffpjkkmkjplaaDoorW.PrintMore
attribute [local go_sem] max2_int min2_int max_two min_two max_three min_three max_four min_four
set_option linter.unusedVariables false
set_option linter.unusedSimpArgs false
mutual
def foretellref_WordFault.j0 : Nat → Int → Bool → List (List Bool) → List (List Bool) → Option (Int)
  | 0, _, _, _, _ => none
  | k + 1, x1, x19, x163000, x163001 => if x19 = true then (some 1) else (foretellref_WordFault.l0 k x1 0 x163000 x163001)
def foretellref_WordFault.l0 : Nat → Int → Int → List (List Bool) → List (List Bool) → Option (Int)
  | 0, _, _, _, _ => none
  | k + 1, x1, x5, x163000, x163001 => if x5 < (wrap64 ((x163000.length : Int) + (x163001.length : Int))) then ((foretellref_letterAt.f k x163000 x163001 x5).bind fun t165 => (if (t165.length : Int) = x1 then (foretellref_WordFault.l0 k x1 (wrap64 (x5 + 1)) x163000 x163001) else (some 3))) else (some 0)
end
def foretellref_WordFault.f (k : Nat) (l0_0 : List (List Bool)) (l0_1 : List (List Bool)) (a1 : Int) : Option (Int) := (foretellref_In.f a1 0 6).bind fun t163 => (if t163 = true then (if (l0_0.length : Int) > 12 then (foretellref_WordFault.j0 k a1 true l0_0 l0_1) else ((foretellref_In.f (l0_1.length : Int) 1 12).bind fun t164 => (foretellref_WordFault.j0 k a1 (!t164) l0_0 l0_1))) else (some 2))
theorem foretellref_WordFault.mono_l : ∀ k, (∀ y0 y1 y2 y3, LeO (foretellref_WordFault.j0 k y0 y1 y2 y3) (foretellref_WordFault.j0 (k + 1) y0 y1 y2 y3)) ∧ (∀ y0 y1 y2 y3, LeO (foretellref_WordFault.l0 k y0 y1 y2 y3) (foretellref_WordFault.l0 (k + 1) y0 y1 y2 y3))
  | 0 => ⟨fun _ _ _ _ r h => by simp [foretellref_WordFault.j0] at h, fun _ _ _ _ r h => by simp [foretellref_WordFault.l0] at h⟩
  | k + 1 => by
    obtain ⟨ih0, ih1⟩ := foretellref_WordFault.mono_l k
    refine ⟨?_, ?_⟩
    · intro y0 y1 y2 y3
      unfold foretellref_WordFault.j0
      repeat' first
      | (with_reducible exact ih0 _ _ _ _)
      | (with_reducible exact ih1 _ _ _ _)
      | (with_reducible exact foretellref_letterAt.mono _ _ _ _)
      | (with_reducible exact LeO.refl _)
      | (with_reducible exact LeO.none _)
      | (with_reducible refine LeO.ite ?_ ?_)
      | (with_reducible refine LeO.bind ?_ (fun _ => ?_))
      | exact ih0 _ _ _ _
      | exact ih1 _ _ _ _
      | exact foretellref_letterAt.mono _ _ _ _
      | exact LeO.none _
      | refine LeO.ite ?_ ?_
      | refine LeO.bind ?_ (fun _ => ?_)
    · intro y0 y1 y2 y3
      unfold foretellref_WordFault.l0
      repeat' first
      | (with_reducible exact ih0 _ _ _ _)
      | (with_reducible exact ih1 _ _ _ _)
      | (with_reducible exact foretellref_letterAt.mono _ _ _ _)
      | (with_reducible exact LeO.refl _)
      | (with_reducible exact LeO.none _)
      | (with_reducible refine LeO.ite ?_ ?_)
      | (with_reducible refine LeO.bind ?_ (fun _ => ?_))
      | exact ih0 _ _ _ _
      | exact ih1 _ _ _ _
      | exact foretellref_letterAt.mono _ _ _ _
      | exact LeO.none _
      | refine LeO.ite ?_ ?_
      | refine LeO.bind ?_ (fun _ => ?_)
theorem foretellref_WordFault.mono : ∀ a0 a1 a2 k, LeO (foretellref_WordFault.f k a0 a1 a2) (foretellref_WordFault.f (k + 1) a0 a1 a2) := by
  intro a0 a1 a2 k
  obtain ⟨ih0, ih1⟩ := foretellref_WordFault.mono_l k
  unfold foretellref_WordFault.f
  repeat' first
      | (with_reducible exact ih0 _ _ _ _)
      | (with_reducible exact ih1 _ _ _ _)
      | (with_reducible exact foretellref_letterAt.mono _ _ _ _)
      | (with_reducible exact LeO.refl _)
      | (with_reducible exact LeO.none _)
      | (with_reducible refine LeO.ite ?_ ?_)
      | (with_reducible refine LeO.bind ?_ (fun _ => ?_))
      | exact ih0 _ _ _ _
      | exact ih1 _ _ _ _
      | exact foretellref_letterAt.mono _ _ _ _
      | exact LeO.none _
      | refine LeO.ite ?_ ?_
      | refine LeO.bind ?_ (fun _ => ?_)
set_option maxHeartbeats 8000000 in
set_option maxRecDepth 100000 in
theorem foretellref_WordFault.calls (k : Nat) (A0_0 : Option Addr) (c0_0 : Nat) (l0_0 : List (List Bool)) (A0_1 : Option Addr) (c0_1 : Nat) (l0_1 : List (List Bool)) (a1 : Int) (r : Int) (w : World) (hr0_0 : Kd.C (Kd.slice 4 Kd.bool) w A0_0 l0_0.length l0_0) (hc0_0 : l0_0.length ≤ c0_0) (hr0_1 : Kd.C (Kd.slice 4 Kd.bool) w A0_1 l0_1.length l0_1) (hc0_1 : l0_1.length ≤ c0_1) (h : foretellref_WordFault.f k l0_0 l0_1 a1 = some r) :
    Calls Tryd.prog 47 #[.agg #[.slice A0_0 l0_0.length c0_0, .slice A0_1 l0_1.length c0_1], .int .i64 a1] w fun e w' => e = .returned (.int .i64 r) ∧ Below w.heap.size w w' := by
  have hu25 := Tryd.underlying25
  have HR0_0 := Aside0.mk hr0_0
  have HC0_0 := Aside0.mk hc0_0
  clear hr0_0 hc0_0
  have HR0_1 := Aside0.mk hr0_1
  have HC0_1 := Aside0.mk hc0_1
  clear hr0_1 hc0_1
  have HB := Aside0.mk (Below.refl w.heap.size w)
  have H : ((foretellref_In.f a1 0 6).bind fun t163 => (if t163 = true then (if (l0_0.length : Int) > 12 then (foretellref_WordFault.j0 k a1 true l0_0 l0_1) else ((foretellref_In.f (l0_1.length : Int) 1 12).bind fun t164 => (foretellref_WordFault.j0 k a1 (!t164) l0_0 l0_1))) else (some 2))) = some r := h
  clear h
  replace H := Option.bind_eq_some_iff.mp H
  obtain ⟨t163, A30, H⟩ := H
  replace H : (if t163 = true then (if (l0_0.length : Int) > 12 then (foretellref_WordFault.j0 k a1 true l0_0 l0_1) else ((foretellref_In.f (l0_1.length : Int) 1 12).bind fun t164 => (foretellref_WordFault.j0 k a1 (!t164) l0_0 l0_1))) else (some 2)) = some r := H
  have A3 := Aside0.mk A30
  clear A30
  by_cases c4 : t163 = true
  · subst c4
    have H1 : (if (l0_0.length : Int) > 12 then (foretellref_WordFault.j0 k a1 true l0_0 l0_1) else ((foretellref_In.f (l0_1.length : Int) 1 12).bind fun t164 => (foretellref_WordFault.j0 k a1 (!t164) l0_0 l0_1))) = some r := by rw [if_pos rfl] at H; exact H
    clear H
    have H := H1
    clear H1
    have HC5 := Aside0.mk H
    clear H
    go_enter Tryd.func47, Tryd.ntmps47
    go_upto_region 3 with (first | ((with_reducible refine gate_dst (N := 2) rfl ?_); (try (refine gate_guard (by rfl) ?_; dsimp only)); refine box_event ?hg (N := 2) ?hd (cs := #[.slice A0_0 l0_0.length c0_0, .slice A0_1 l0_1.length c0_1]) (t := 25) ?hr ?_; (case hd => rfl); (case hg => rfl); (case hr => first | (go_simp; done) | (go_simp; rfl)); intro gb162 hg w6 hbox hb; have n0_ := Aside0.mk (below_step (by repeat (first | (with_reducible first | exact HB.out | apply below_alloc | apply pw_below_drewN | apply below_drew1) | exact HB.out)) hb); have n1_ := Aside0.mk (hbox); have n2_ := Aside0.mk ((by rw [hg]; exact (below_size (by repeat (first | (with_reducible first | exact HB.out | apply below_alloc | apply pw_below_drewN | apply below_drew1) | exact HB.out))) : w.heap.size ≤ gb162)); have n3_ := Aside0.mk ((by rw [hg]; exact (below_size (by repeat (first | (with_reducible first | exact HB.out | apply below_alloc | apply pw_below_drewN | apply below_drew1) | exact HB.out))) : w.heap.size ≤ gb162)); clear HB; have HB := n0_; have BK162 := n1_; have GW162 := n2_; have GE162 := n3_; clear n0_ n1_ n2_ n3_; clear hb hbox hg) | ((with_reducible refine gate_callee (f := 50) rfl ?_); refine goesL_ (some 7) rfl rfl Tryd.func50 (by kernel_rfl) rfl #[.int .i64 a1, .int .i64 0, .int .i64 6] rfl (by (try simp only [List.map_toArray, List.map_cons, List.map_nil]); first | done | rfl | (simp only [List.length_drop, List.length_take]; rfl)) ?_; (with_reducible refine (foretellref_In.calls a1 0 6 true _ A3.out).mono ?_); rintro e w' ⟨rfl, ⟨nd, rfl⟩⟩; refine ⟨_, rfl, ?_⟩))
    (try simp only [Act.put, List.setIfInBounds_toArray, List.set_cons_zero, List.set_cons_succ])
    go_cut [19] (fun v19 wc => ∃ (kq : Nat) (x19_4 : Bool), v19 = .bool x19_4 ∧ Aside0 (foretellref_WordFault.j0 kq a1 x19_4 l0_0 l0_1 = some r) ∧ Aside0 (kq ≤ k) ∧ Aside0 (wc.heap[gb162]? = some (.cells #[(.slice A0_0 l0_0.length c0_0), (.slice A0_1 l0_1.length c0_1)] 25 (0, 0))) ∧ Aside0 (Below w.heap.size w wc))
    case first =>
      have H := HC5.out
      clear HC5
      by_cases c7 : (l0_0.length : Int) > 12
      · rw [if_pos c7] at H
        have c7b0 : decide (12 < (l0_0.length : Int)) = true := decide_eq_true c7
        have c7b1 : decide (12 < l0_0.length) = true := decide_eq_true (by omega)
        clear c7
        (first | rw [c7b0] | (simp only [i64_w, i32_w]; rw [c7b0]) | skip)
        have H' := Aside0.mk H
        clear H
        have hcz8_0 : w6.cell? ⟨gb162, 0, none⟩ = some (.slice A0_0 l0_0.length c0_0) := (blk_cell BK162.out 0).trans rfl
        have hcz8_1 : w6.cell? ⟨gb162, 1, none⟩ = some (.slice A0_1 l0_1.length c0_1) := (blk_cell BK162.out 1).trans rfl
        have hfz8_0 := blk_frozen BK162.out 0
        have hfz8_1 := blk_frozen BK162.out 1
        go_wp2
        go_meet
        case rel => exact ⟨_, (true), (by first | rfl | (simp; done) | (simp [*]; done)), H', ⟨by first | omega | exact Nat.le_refl _⟩, ⟨by (with_reducible repeat (first | refine blk_drewN ?_ _ | refine blk_drew ?_ | refine blk_alloc ?_ _)); exact BK162.out⟩, ⟨by repeat (first | (with_reducible first | exact HB.out | apply below_alloc | apply pw_below_drewN | apply below_drew1 | refine below_set ?_ GE162.out) | exact HB.out)⟩⟩
      · rw [if_neg c7] at H
        have c7b0 : decide (12 < (l0_0.length : Int)) = false := decide_eq_false c7
        have c7b1 : decide (12 < l0_0.length) = false := decide_eq_false (by omega)
        clear c7
        (first | rw [c7b0] | (simp only [i64_w, i32_w]; rw [c7b0]) | skip)
        replace H := Option.bind_eq_some_iff.mp H
        obtain ⟨t164, A90, H⟩ := H
        replace H : (foretellref_WordFault.j0 k a1 (!t164) l0_0 l0_1) = some r := H
        have A9 := Aside0.mk A90
        clear A90
        have H' := Aside0.mk H
        clear H
        have hcz10_0 : w6.cell? ⟨gb162, 0, none⟩ = some (.slice A0_0 l0_0.length c0_0) := (blk_cell BK162.out 0).trans rfl
        have hcz10_1 : w6.cell? ⟨gb162, 1, none⟩ = some (.slice A0_1 l0_1.length c0_1) := (blk_cell BK162.out 1).trans rfl
        have hfz10_0 := blk_frozen BK162.out 0
        have hfz10_1 := blk_frozen BK162.out 1
        go_wp2_with (first | (go_at_call 50; (with_reducible refine (foretellref_In.calls (l0_1.length : Int) 1 12 t164 _ A9.out).mono ?_); rintro e w' ⟨rfl, ⟨nd, rfl⟩⟩))
        go_meet
        case rel => exact ⟨_, (!t164), (by first | rfl | (simp; done) | (simp [*]; done)), H', ⟨by first | omega | exact Nat.le_refl _⟩, ⟨by (with_reducible repeat (first | refine blk_drewN ?_ _ | refine blk_drew ?_ | refine blk_alloc ?_ _)); exact BK162.out⟩, ⟨by repeat (first | (with_reducible first | exact HB.out | apply below_alloc | apply pw_below_drewN | apply below_drew1 | refine below_set ?_ GE162.out) | exact HB.out)⟩⟩
    case rest =>
      clear HC5
      try clear p2
      try clear c4
      try clear c5
      try clear c7
      try clear c7b0
      try clear c7b1
      try clear hcz10_0
      try clear hcz10_1
      try clear hcz8_0
      try clear hcz8_1
      try clear hfz10_0
      try clear hfz10_1
      try clear hfz8_0
      try clear hfz8_1
      obtain ⟨kq, x19_4, rfl, HA, HJ4, BK162, HB⟩ := hcut
      cases kq with
      | zero => exact absurd HA.out (by simp [foretellref_WordFault.j0])
      | succ kj4 =>
        have H := HA.out
        clear HA
        simp only [foretellref_WordFault.j0] at H
        by_cases c11 : x19_4 = true
        · subst c11
          have H1 : (some 1) = some r := by rw [if_pos rfl] at H; exact H
          clear H
          have H := H1
          clear H1
          obtain rfl := Option.some.inj H
          go_wp2
          go_ret
          exact ⟨by first | rfl | (simp [errW_none, errW_some] <;> rfl) | (simp [*, errW_none, errW_some] <;> rfl), by repeat (first | (with_reducible first | exact HB.out | apply below_alloc | apply pw_below_drewN | apply below_drew1 | refine below_set ?_ GE162.out) | exact HB.out)⟩
        · replace c11 := Bool.eq_false_iff.mpr c11
          subst c11
          have H1 : (foretellref_WordFault.l0 kj4 a1 0 l0_0 l0_1) = some r := by rw [if_neg (show ¬ (false = true) by decide)] at H; exact H
          clear H
          have H := H1
          clear H1
          have H' := Aside0.mk H
          clear H
          go_wp2
          go_loopg [5] kj4 (fun kq v5 w' => ∃ (x5_2 : Int), v5 = .int .i64 x5_2 ∧ Aside0 (foretellref_WordFault.l0 kq a1 x5_2 l0_0 l0_1 = some r) ∧ Aside0 (kq ≤ kj4) ∧ Aside0 (w'.heap[gb162]? = some (.cells #[(.slice A0_0 l0_0.length c0_0), (.slice A0_1 l0_1.length c0_1)] 25 (0, 0))) ∧ Aside0 (Below w.heap.size w w'))
          case atStart => exact ⟨(0), (by first | rfl | (simp; done) | (simp [*]; done)), H', ⟨Nat.le_refl _⟩, ⟨by (with_reducible repeat (first | refine blk_drewN ?_ _ | refine blk_drew ?_ | refine blk_alloc ?_ _)); exact BK162.out⟩, ⟨by repeat (first | (with_reducible first | exact HB.out | apply below_alloc | apply pw_below_drewN | apply below_drew1 | refine below_set ?_ GE162.out) | exact HB.out)⟩⟩
          case round =>
            clear H'
            try clear c1
            try clear p2
            try clear c4
            try clear c5
            try clear c7
            try clear c7b0
            try clear c7b1
            try clear c11
            try clear hcz10_0
            try clear hcz10_1
            try clear hcz8_0
            try clear hcz8_1
            try clear hfz10_0
            try clear hfz10_1
            try clear hfz8_0
            try clear hfz8_1
            try clear p2
            obtain ⟨x5_2, rfl, HA, HK2, BK162, HB⟩ := hrel
            cases gk with
            | zero => exact absurd HA.out (by simp [foretellref_WordFault.l0])
            | succ k2 =>
              have H := HA.out
              clear HA
              simp only [foretellref_WordFault.l0] at H
              by_cases c12 : x5_2 < (wrap64 ((l0_0.length : Int) + (l0_1.length : Int)))
              · rw [if_pos c12] at H
                have c12b0 : decide (x5_2 < (wrap64 ((l0_0.length : Int) + (l0_1.length : Int)))) = true := decide_eq_true c12
                clear c12
                replace H := Option.bind_eq_some_iff.mp H
                obtain ⟨t165, A130, H⟩ := H
                replace H : (if (t165.length : Int) = a1 then (foretellref_WordFault.l0 k2 a1 (wrap64 (x5_2 + 1)) l0_0 l0_1) else (some 3)) = some r := H
                have A13 := Aside0.mk A130
                clear A130
                by_cases c14 : (t165.length : Int) = a1
                · rw [if_pos c14] at H
                  have c14b0 : ((t165.length : Int) == a1) = true := beq_iff_eq.mpr c14
                  have c14b1 : ((t165.length : Int) != a1) = false := bne_eq_false_iff_eq.mpr c14
                  clear c14
                  have H' := Aside0.mk H
                  clear H
                  have hcz15_0 : wr.cell? ⟨gb162, 0, none⟩ = some (.slice A0_0 l0_0.length c0_0) := (blk_cell BK162.out 0).trans rfl
                  have hcz15_1 : wr.cell? ⟨gb162, 1, none⟩ = some (.slice A0_1 l0_1.length c0_1) := (blk_cell BK162.out 1).trans rfl
                  have hfz15_0 := blk_frozen BK162.out 0
                  have hfz15_1 := blk_frozen BK162.out 1
                  go_wp2_with (first | ((with_reducible refine gate_callee (f := 75) rfl ?_); refine goesL_ (some 33) rfl rfl Tryd.func75 (by kernel_rfl) rfl #[.agg #[.slice A0_0 l0_0.length c0_0, .slice A0_1 l0_1.length c0_1], .int .i64 x5_2] rfl (by (try simp only [List.map_toArray, List.map_cons, List.map_nil]); first | done | rfl | (simp only [List.length_drop, List.length_take]; rfl)) ?_; (with_reducible refine (foretellref_letterAt.calls k2 (fun k_ => k_ < w.heap.size) _ _ l0_0 (fun k_ => k_ < w.heap.size) _ _ l0_1 x5_2 t165 _ ?side1 ?side2 A13.out).mono ?_); (case side1 => exact Kd.V_mk HC0_0.out (Kd.F_below (Kd.C_F (Kd.heap_slice 4 Kd.heap_bool) HR0_0.out) (by repeat (first | (with_reducible first | exact HB.out | apply below_alloc | apply pw_below_drewN | apply below_drew1 | refine below_set ?_ GE162.out) | exact HB.out)))); (case side2 => exact Kd.V_mk HC0_1.out (Kd.F_below (Kd.C_F (Kd.heap_slice 4 Kd.heap_bool) HR0_1.out) (by repeat (first | (with_reducible first | exact HB.out | apply below_alloc | apply pw_below_drewN | apply below_drew1 | refine below_set ?_ GE162.out) | exact HB.out)))); rintro e w16 ⟨v166, rfl, ho0, hb⟩; refine ⟨_, rfl, ?_⟩; have n0_ := Aside0.mk (Kd.V_lower (Kd.V_mono (ok' := fun k_ => k_ ≠ gb162) ho0 (fun k_ hk_ => Or.elim hk_ (fun hs_ => Or.elim hs_ (fun hs_ => fun e_ => Nat.not_le.2 hs_ (by rw [e_]; exact GW162.out)) (fun hs_ => fun e_ => Nat.not_le.2 hs_ (by rw [e_]; exact GW162.out))) (fun hn_ => (Kd.freshB (g := gb162) (o := .cells #[.slice A0_0 l0_0.length c0_0, .slice A0_1 l0_1.length c0_1] 25 (0, 0)) (by (with_reducible repeat (first | refine blk_drewN ?_ _ | refine blk_drew ?_ | refine blk_alloc ?_ _)); exact BK162.out) k_ hn_)))) (below_size (by repeat (first | (with_reducible first | exact HB.out | apply below_alloc | apply pw_below_drewN | apply below_drew1 | refine below_set ?_ GE162.out) | exact HB.out)))); have n1_ := Aside0.mk (blk_below (g := gb162) (o := .cells #[.slice A0_0 l0_0.length c0_0, .slice A0_1 l0_1.length c0_1] 25 (0, 0)) (by (with_reducible repeat (first | refine blk_drewN ?_ _ | refine blk_drew ?_ | refine blk_alloc ?_ _)); exact BK162.out) hb); have n2_ := Aside0.mk (below_step (by repeat (first | (with_reducible first | exact HB.out | apply below_alloc | apply pw_below_drewN | apply below_drew1 | refine below_set ?_ GE162.out) | exact HB.out)) hb); clear BK162; clear HB; have HO167 := n0_; have BK162 := n1_; have HB := n2_; clear n0_ n1_ n2_; (try clear hb); (try clear hb2); (try clear hk); (try clear hi); (try clear ho0); obtain ⟨Ao17, co17, eo17⟩ := Kd.V_slice HO167.out; subst eo17))
                  go_roundg k2
                  case measure => have := HJ4.out; have := HK2.out; omega
                  case rel => exact ⟨(wrap64 (x5_2 + 1)), (by first | rfl | (simp; done) | (simp [*]; done)), H', ⟨by have := HJ4.out; have := HK2.out; omega⟩, ⟨by (with_reducible repeat (first | refine blk_drewN ?_ _ | refine blk_drew ?_ | refine blk_alloc ?_ _)); exact BK162.out⟩, ⟨by repeat (first | (with_reducible first | exact HB.out | apply below_alloc | apply pw_below_drewN | apply below_drew1 | refine below_set ?_ GE162.out) | exact HB.out)⟩⟩
                · rw [if_neg c14] at H
                  have c14b0 : ((t165.length : Int) == a1) = false := beq_eq_false_iff_ne.mpr c14
                  have c14b1 : ((t165.length : Int) != a1) = true := bne_iff_ne.mpr c14
                  obtain rfl := Option.some.inj H
                  have hcz18_0 : wr.cell? ⟨gb162, 0, none⟩ = some (.slice A0_0 l0_0.length c0_0) := (blk_cell BK162.out 0).trans rfl
                  have hcz18_1 : wr.cell? ⟨gb162, 1, none⟩ = some (.slice A0_1 l0_1.length c0_1) := (blk_cell BK162.out 1).trans rfl
                  have hfz18_0 := blk_frozen BK162.out 0
                  have hfz18_1 := blk_frozen BK162.out 1
                  go_wp2_with (first | ((with_reducible refine gate_callee (f := 75) rfl ?_); refine goesL_ (some 33) rfl rfl Tryd.func75 (by kernel_rfl) rfl #[.agg #[.slice A0_0 l0_0.length c0_0, .slice A0_1 l0_1.length c0_1], .int .i64 x5_2] rfl (by (try simp only [List.map_toArray, List.map_cons, List.map_nil]); first | done | rfl | (simp only [List.length_drop, List.length_take]; rfl)) ?_; (with_reducible refine (foretellref_letterAt.calls k2 (fun k_ => k_ < w.heap.size) _ _ l0_0 (fun k_ => k_ < w.heap.size) _ _ l0_1 x5_2 t165 _ ?side1 ?side2 A13.out).mono ?_); (case side1 => exact Kd.V_mk HC0_0.out (Kd.F_below (Kd.C_F (Kd.heap_slice 4 Kd.heap_bool) HR0_0.out) (by repeat (first | (with_reducible first | exact HB.out | apply below_alloc | apply pw_below_drewN | apply below_drew1 | refine below_set ?_ GE162.out) | exact HB.out)))); (case side2 => exact Kd.V_mk HC0_1.out (Kd.F_below (Kd.C_F (Kd.heap_slice 4 Kd.heap_bool) HR0_1.out) (by repeat (first | (with_reducible first | exact HB.out | apply below_alloc | apply pw_below_drewN | apply below_drew1 | refine below_set ?_ GE162.out) | exact HB.out)))); rintro e w19 ⟨v166, rfl, ho0, hb⟩; refine ⟨_, rfl, ?_⟩; have n0_ := Aside0.mk (Kd.V_lower (Kd.V_mono (ok' := fun k_ => k_ ≠ gb162) ho0 (fun k_ hk_ => Or.elim hk_ (fun hs_ => Or.elim hs_ (fun hs_ => fun e_ => Nat.not_le.2 hs_ (by rw [e_]; exact GW162.out)) (fun hs_ => fun e_ => Nat.not_le.2 hs_ (by rw [e_]; exact GW162.out))) (fun hn_ => (Kd.freshB (g := gb162) (o := .cells #[.slice A0_0 l0_0.length c0_0, .slice A0_1 l0_1.length c0_1] 25 (0, 0)) (by (with_reducible repeat (first | refine blk_drewN ?_ _ | refine blk_drew ?_ | refine blk_alloc ?_ _)); exact BK162.out) k_ hn_)))) (below_size (by repeat (first | (with_reducible first | exact HB.out | apply below_alloc | apply pw_below_drewN | apply below_drew1 | refine below_set ?_ GE162.out) | exact HB.out)))); have n1_ := Aside0.mk (blk_below (g := gb162) (o := .cells #[.slice A0_0 l0_0.length c0_0, .slice A0_1 l0_1.length c0_1] 25 (0, 0)) (by (with_reducible repeat (first | refine blk_drewN ?_ _ | refine blk_drew ?_ | refine blk_alloc ?_ _)); exact BK162.out) hb); have n2_ := Aside0.mk (below_step (by repeat (first | (with_reducible first | exact HB.out | apply below_alloc | apply pw_below_drewN | apply below_drew1 | refine below_set ?_ GE162.out) | exact HB.out)) hb); clear BK162; clear HB; have HO167 := n0_; have BK162 := n1_; have HB := n2_; clear n0_ n1_ n2_; (try clear hb); (try clear hb2); (try clear hk); (try clear hi); (try clear ho0); obtain ⟨Ao20, co20, eo20⟩ := Kd.V_slice HO167.out; subst eo20))
                  go_ret
                  exact ⟨by first | rfl | (simp [errW_none, errW_some] <;> rfl) | (simp [*, errW_none, errW_some] <;> rfl), by repeat (first | (with_reducible first | exact HB.out | apply below_alloc | apply pw_below_drewN | apply below_drew1 | refine below_set ?_ GE162.out) | exact HB.out)⟩
              · rw [if_neg c12] at H
                have c12b0 : decide (x5_2 < (wrap64 ((l0_0.length : Int) + (l0_1.length : Int)))) = false := decide_eq_false c12
                clear c12
                obtain rfl := Option.some.inj H
                have hcz21_0 : wr.cell? ⟨gb162, 0, none⟩ = some (.slice A0_0 l0_0.length c0_0) := (blk_cell BK162.out 0).trans rfl
                have hcz21_1 : wr.cell? ⟨gb162, 1, none⟩ = some (.slice A0_1 l0_1.length c0_1) := (blk_cell BK162.out 1).trans rfl
                have hfz21_0 := blk_frozen BK162.out 0
                have hfz21_1 := blk_frozen BK162.out 1
                go_wp2
                go_ret
                exact ⟨by first | rfl | (simp [errW_none, errW_some] <;> rfl) | (simp [*, errW_none, errW_some] <;> rfl), by repeat (first | (with_reducible first | exact HB.out | apply below_alloc | apply pw_below_drewN | apply below_drew1 | refine below_set ?_ GE162.out) | exact HB.out)⟩
  · replace c4 := Bool.eq_false_iff.mpr c4
    subst c4
    have H1 : (some 2) = some r := by rw [if_neg (show ¬ (false = true) by decide)] at H; exact H
    clear H
    have H := H1
    clear H1
    obtain rfl := Option.some.inj H
    go_enter Tryd.func47, Tryd.ntmps47
    go_wp2_with (first | ((with_reducible refine gate_dst (N := 2) rfl ?_); (try (refine gate_guard (by rfl) ?_; dsimp only)); refine box_event ?hg (N := 2) ?hd (cs := #[.slice A0_0 l0_0.length c0_0, .slice A0_1 l0_1.length c0_1]) (t := 25) ?hr ?_; (case hd => rfl); (case hg => rfl); (case hr => first | (go_simp; done) | (go_simp; rfl)); intro gb162 hg w22 hbox hb; have n0_ := Aside0.mk (below_step (by repeat (first | (with_reducible first | exact HB.out | apply below_alloc | apply pw_below_drewN | apply below_drew1) | exact HB.out)) hb); have n1_ := Aside0.mk (hbox); have n2_ := Aside0.mk ((by rw [hg]; exact (below_size (by repeat (first | (with_reducible first | exact HB.out | apply below_alloc | apply pw_below_drewN | apply below_drew1) | exact HB.out))) : w.heap.size ≤ gb162)); have n3_ := Aside0.mk ((by rw [hg]; exact (below_size (by repeat (first | (with_reducible first | exact HB.out | apply below_alloc | apply pw_below_drewN | apply below_drew1) | exact HB.out))) : w.heap.size ≤ gb162)); clear HB; have HB := n0_; have BK162 := n1_; have GW162 := n2_; have GE162 := n3_; clear n0_ n1_ n2_ n3_; clear hb hbox hg) | ((with_reducible refine gate_callee (f := 50) rfl ?_); refine goesL_ (some 7) rfl rfl Tryd.func50 (by kernel_rfl) rfl #[.int .i64 a1, .int .i64 0, .int .i64 6] rfl (by (try simp only [List.map_toArray, List.map_cons, List.map_nil]); first | done | rfl | (simp only [List.length_drop, List.length_take]; rfl)) ?_; (with_reducible refine (foretellref_In.calls a1 0 6 false _ A3.out).mono ?_); rintro e w' ⟨rfl, ⟨nd, rfl⟩⟩; refine ⟨_, rfl, ?_⟩))
    go_ret
    exact ⟨by first | rfl | (simp [errW_none, errW_some] <;> rfl) | (simp [*, errW_none, errW_some] <;> rfl), by repeat (first | (with_reducible first | exact HB.out | apply below_alloc | apply pw_below_drewN | apply below_drew1 | refine below_set ?_ GE162.out) | exact HB.out)⟩
end Go.Proofs.YthffpjkkmkjplaaDoor.Q
-- Cut by a program of this session (wip/prune.py) from a longer text: declarations that the law does not need are left out.
namespace Go.Proofs.YthffpjkkmkjplaaDoor.Q
open Go.RowKit Go.Proofs.YthffpjkkmkjplaaDoorW.PrintWords Go.Proofs.YthffpjkkmkjplaaDoorW.PrintLast Go.Proofs.YthffpjkkmkjplaaDoorW.PrintMore
attribute [local go_sem] max2_int min2_int max_two min_two max_three min_three max_four min_four
set_option linter.unusedVariables false
set_option linter.unusedSimpArgs false
def foretellref_formulaAndWord.f (k : Nat) (l0 : List (S65)) (l1_0 : List (List Bool)) (l1_1 : List (List Bool)) (a2 : Int) : Option (Int) := (foretellref_FormulaFault.f k l0 a2).bind fun t169 => (if t169 = 0 then ((foretellref_WordFault.f k l1_0 l1_1 a2).bind fun t170 => (some t170)) else (some t169))
theorem foretellref_formulaAndWord.mono : ∀ a0 a1 a2 a3 k, LeO (foretellref_formulaAndWord.f k a0 a1 a2 a3) (foretellref_formulaAndWord.f (k + 1) a0 a1 a2 a3) := by
  intro a0 a1 a2 a3 k
  unfold foretellref_formulaAndWord.f
  repeat' first
      | (with_reducible exact foretellref_FormulaFault.mono _ _ _)
      | (with_reducible exact foretellref_WordFault.mono _ _ _ _)
      | (with_reducible exact LeO.refl _)
      | (with_reducible exact LeO.none _)
      | (with_reducible refine LeO.ite ?_ ?_)
      | (with_reducible refine LeO.bind ?_ (fun _ => ?_))
      | exact foretellref_FormulaFault.mono _ _ _
      | exact foretellref_WordFault.mono _ _ _ _
      | exact LeO.none _
      | refine LeO.ite ?_ ?_
      | refine LeO.bind ?_ (fun _ => ?_)
set_option maxHeartbeats 8000000 in
set_option maxRecDepth 100000 in
theorem foretellref_formulaAndWord.calls (k : Nat) (A0 : Option Addr) (c0 : Nat) (l0 : List (S65)) (A1_0 : Option Addr) (c1_0 : Nat) (l1_0 : List (List Bool)) (A1_1 : Option Addr) (c1_1 : Nat) (l1_1 : List (List Bool)) (a2 : Int) (r : Int) (w : World) (hr0 : Kd.C k65 w A0 l0.length l0) (hc0 : l0.length ≤ c0) (hr1_0 : Kd.C (Kd.slice 4 Kd.bool) w A1_0 l1_0.length l1_0) (hc1_0 : l1_0.length ≤ c1_0) (hr1_1 : Kd.C (Kd.slice 4 Kd.bool) w A1_1 l1_1.length l1_1) (hc1_1 : l1_1.length ≤ c1_1) (h : foretellref_formulaAndWord.f k l0 l1_0 l1_1 a2 = some r) :
    Calls Tryd.prog 24 #[.slice A0 l0.length c0, .agg #[.slice A1_0 l1_0.length c1_0, .slice A1_1 l1_1.length c1_1], .int .i64 a2] w fun e w' => e = .returned (.int .i64 r) ∧ Below w.heap.size w w' := by
  have hu25 := Tryd.underlying25
  have HR0 := Aside0.mk hr0
  have HC0 := Aside0.mk hc0
  clear hr0 hc0
  have HR1_0 := Aside0.mk hr1_0
  have HC1_0 := Aside0.mk hc1_0
  clear hr1_0 hc1_0
  have HR1_1 := Aside0.mk hr1_1
  have HC1_1 := Aside0.mk hc1_1
  clear hr1_1 hc1_1
  have HB := Aside0.mk (Below.refl w.heap.size w)
  have H : ((foretellref_FormulaFault.f k l0 a2).bind fun t169 => (if t169 = 0 then ((foretellref_WordFault.f k l1_0 l1_1 a2).bind fun t170 => (some t170)) else (some t169))) = some r := h
  clear h
  replace H := Option.bind_eq_some_iff.mp H
  obtain ⟨t169, A40, H⟩ := H
  replace H : (if t169 = 0 then ((foretellref_WordFault.f k l1_0 l1_1 a2).bind fun t170 => (some t170)) else (some t169)) = some r := H
  have A4 := Aside0.mk A40
  clear A40
  by_cases c5 : t169 = 0
  · rw [if_pos c5] at H
    have c5b0 : (t169 == 0) = true := beq_iff_eq.mpr c5
    have c5b1 : (t169 != 0) = false := bne_eq_false_iff_eq.mpr c5
    clear c5
    replace H := Option.bind_eq_some_iff.mp H
    obtain ⟨t170, A60, H⟩ := H
    replace H : (some t170) = some r := H
    have A6 := Aside0.mk A60
    clear A60
    obtain rfl := Option.some.inj H
    go_enter Tryd.func24, Tryd.ntmps24
    go_wp2_with (first | ((with_reducible refine gate_dst (N := 4) rfl ?_); refine box_event ?hg (N := 4) ?hd (cs := #[.slice A1_0 l1_0.length c1_0, .slice A1_1 l1_1.length c1_1]) (t := 25) ?hr ?_; (case hd => rfl); (case hg => rfl); (case hr => first | (go_simp; done) | (go_simp; rfl)); intro gb168 hg w7 hbox hb; have n0_ := Aside0.mk (below_step (by repeat (first | (with_reducible first | exact HB.out | apply below_alloc | apply pw_below_drewN | apply below_drew1) | exact HB.out)) hb); have n1_ := Aside0.mk (hbox); have n2_ := Aside0.mk ((by rw [hg]; exact (below_size (by repeat (first | (with_reducible first | exact HB.out | apply below_alloc | apply pw_below_drewN | apply below_drew1) | exact HB.out))) : w.heap.size ≤ gb168)); have n3_ := Aside0.mk ((by rw [hg]; exact (below_size (by repeat (first | (with_reducible first | exact HB.out | apply below_alloc | apply pw_below_drewN | apply below_drew1) | exact HB.out))) : w.heap.size ≤ gb168)); clear HB; have HB := n0_; have BK168 := n1_; have GW168 := n2_; have GE168 := n3_; clear n0_ n1_ n2_ n3_; clear hb hbox hg) | ((with_reducible refine gate_callee (f := 46) rfl ?_); refine goesL_ (some 10) rfl rfl Tryd.func46 (by kernel_rfl) rfl #[.slice A0 l0.length c0, .int .i64 a2] rfl (by (try simp only [List.map_toArray, List.map_cons, List.map_nil]); first | done | rfl | (simp only [List.length_drop, List.length_take]; rfl)) ?_; (with_reducible refine (foretellref_FormulaFault.calls k _ _ l0 a2 t169 _ ?side1 ?side2 A4.out).mono ?_); (case side1 => repeat (first | exact (Kd.C_below HR0.out HB.out) | (with_reducible refine Kd.C_alloc ?_ _) | (with_reducible refine Kd.C_drewN ?_ _) | (with_reducible refine Kd.C_drew ?_))); (case side2 => exact HC0.out); rintro e w8 ⟨rfl, hb⟩; refine ⟨_, rfl, ?_⟩; have n0_ := Aside0.mk (blk_below (g := gb168) (o := .cells #[.slice A1_0 l1_0.length c1_0, .slice A1_1 l1_1.length c1_1] 25 (0, 0)) (by (with_reducible repeat (first | refine blk_drewN ?_ _ | refine blk_drew ?_ | refine blk_alloc ?_ _)); exact BK168.out) hb); have n1_ := Aside0.mk (below_step (by repeat (first | (with_reducible first | exact HB.out | apply below_alloc | apply pw_below_drewN | apply below_drew1 | refine below_set ?_ GE168.out) | exact HB.out)) hb); clear BK168; clear HB; have BK168 := n0_; have HB := n1_; clear n0_ n1_; (try clear hb); (try clear hb2); (try clear hk); (try clear hi); have hcz9_0 : w8.cell? ⟨gb168, 0, none⟩ = some (.slice A1_0 l1_0.length c1_0) := (blk_cell BK168.out 0).trans rfl; have hcz9_1 : w8.cell? ⟨gb168, 1, none⟩ = some (.slice A1_1 l1_1.length c1_1) := (blk_cell BK168.out 1).trans rfl; have hfz9_0 := blk_frozen BK168.out 0; have hfz9_1 := blk_frozen BK168.out 1) | ((with_reducible refine gate_callee (f := 47) rfl ?_); refine goesL_ (some 15) rfl rfl Tryd.func47 (by kernel_rfl) rfl #[.agg #[.slice A1_0 l1_0.length c1_0, .slice A1_1 l1_1.length c1_1], .int .i64 a2] rfl (by (try simp only [List.map_toArray, List.map_cons, List.map_nil]); first | done | rfl | (simp only [List.length_drop, List.length_take]; rfl)) ?_; (with_reducible refine (foretellref_WordFault.calls k _ _ l1_0 _ _ l1_1 a2 t170 _ ?side1 ?side2 ?side3 ?side4 A6.out).mono ?_); (case side1 => repeat (first | exact (Kd.C_below HR1_0.out HB.out) | (with_reducible refine Kd.C_alloc ?_ _) | (with_reducible refine Kd.C_drewN ?_ _) | (with_reducible refine Kd.C_drew ?_))); (case side2 => exact HC1_0.out); (case side3 => repeat (first | exact (Kd.C_below HR1_1.out HB.out) | (with_reducible refine Kd.C_alloc ?_ _) | (with_reducible refine Kd.C_drewN ?_ _) | (with_reducible refine Kd.C_drew ?_))); (case side4 => exact HC1_1.out); rintro e w10 ⟨rfl, hb⟩; refine ⟨_, rfl, ?_⟩; have n0_ := Aside0.mk (blk_below (g := gb168) (o := .cells #[.slice A1_0 l1_0.length c1_0, .slice A1_1 l1_1.length c1_1] 25 (0, 0)) (by (with_reducible repeat (first | refine blk_drewN ?_ _ | refine blk_drew ?_ | refine blk_alloc ?_ _)); exact BK168.out) hb); have n1_ := Aside0.mk (below_step (by repeat (first | (with_reducible first | exact HB.out | apply below_alloc | apply pw_below_drewN | apply below_drew1 | refine below_set ?_ GE168.out) | exact HB.out)) hb); clear BK168; clear HB; have BK168 := n0_; have HB := n1_; clear n0_ n1_; (try clear hb); (try clear hb2); (try clear hk); (try clear hi)))
    go_ret
    exact ⟨by first | rfl | (simp [errW_none, errW_some] <;> rfl) | (simp [*, errW_none, errW_some] <;> rfl), by repeat (first | (with_reducible first | exact HB.out | apply below_alloc | apply pw_below_drewN | apply below_drew1 | refine below_set ?_ GE168.out) | exact HB.out)⟩
  · rw [if_neg c5] at H
    have c5b0 : (t169 == 0) = false := beq_eq_false_iff_ne.mpr c5
    have c5b1 : (t169 != 0) = true := bne_iff_ne.mpr c5
    obtain rfl := Option.some.inj H
    go_enter Tryd.func24, Tryd.ntmps24
    go_wp2_with (first | ((with_reducible refine gate_dst (N := 4) rfl ?_); refine box_event ?hg (N := 4) ?hd (cs := #[.slice A1_0 l1_0.length c1_0, .slice A1_1 l1_1.length c1_1]) (t := 25) ?hr ?_; (case hd => rfl); (case hg => rfl); (case hr => first | (go_simp; done) | (go_simp; rfl)); intro gb168 hg w11 hbox hb; have n0_ := Aside0.mk (below_step (by repeat (first | (with_reducible first | exact HB.out | apply below_alloc | apply pw_below_drewN | apply below_drew1) | exact HB.out)) hb); have n1_ := Aside0.mk (hbox); have n2_ := Aside0.mk ((by rw [hg]; exact (below_size (by repeat (first | (with_reducible first | exact HB.out | apply below_alloc | apply pw_below_drewN | apply below_drew1) | exact HB.out))) : w.heap.size ≤ gb168)); have n3_ := Aside0.mk ((by rw [hg]; exact (below_size (by repeat (first | (with_reducible first | exact HB.out | apply below_alloc | apply pw_below_drewN | apply below_drew1) | exact HB.out))) : w.heap.size ≤ gb168)); clear HB; have HB := n0_; have BK168 := n1_; have GW168 := n2_; have GE168 := n3_; clear n0_ n1_ n2_ n3_; clear hb hbox hg) | ((with_reducible refine gate_callee (f := 46) rfl ?_); refine goesL_ (some 10) rfl rfl Tryd.func46 (by kernel_rfl) rfl #[.slice A0 l0.length c0, .int .i64 a2] rfl (by (try simp only [List.map_toArray, List.map_cons, List.map_nil]); first | done | rfl | (simp only [List.length_drop, List.length_take]; rfl)) ?_; (with_reducible refine (foretellref_FormulaFault.calls k _ _ l0 a2 t169 _ ?side1 ?side2 A4.out).mono ?_); (case side1 => repeat (first | exact (Kd.C_below HR0.out HB.out) | (with_reducible refine Kd.C_alloc ?_ _) | (with_reducible refine Kd.C_drewN ?_ _) | (with_reducible refine Kd.C_drew ?_))); (case side2 => exact HC0.out); rintro e w12 ⟨rfl, hb⟩; refine ⟨_, rfl, ?_⟩; have n0_ := Aside0.mk (blk_below (g := gb168) (o := .cells #[.slice A1_0 l1_0.length c1_0, .slice A1_1 l1_1.length c1_1] 25 (0, 0)) (by (with_reducible repeat (first | refine blk_drewN ?_ _ | refine blk_drew ?_ | refine blk_alloc ?_ _)); exact BK168.out) hb); have n1_ := Aside0.mk (below_step (by repeat (first | (with_reducible first | exact HB.out | apply below_alloc | apply pw_below_drewN | apply below_drew1 | refine below_set ?_ GE168.out) | exact HB.out)) hb); clear BK168; clear HB; have BK168 := n0_; have HB := n1_; clear n0_ n1_; (try clear hb); (try clear hb2); (try clear hk); (try clear hi)))
    go_ret
    exact ⟨by first | rfl | (simp [errW_none, errW_some] <;> rfl) | (simp [*, errW_none, errW_some] <;> rfl), by repeat (first | (with_reducible first | exact HB.out | apply below_alloc | apply pw_below_drewN | apply below_drew1 | refine below_set ?_ GE168.out) | exact HB.out)⟩
end Go.Proofs.YthffpjkkmkjplaaDoor.Q
-- Cut by a program of this session (wip/prune.py) from a longer text: declarations that the law does not need are left out.
namespace Go.Proofs.YthffpjkkmkjplaaDoor.Q
open Go.RowKit Go.Proofs.YthffpjkkmkjplaaDoorW.PrintWords Go.Proofs.YthffpjkkmkjplaaDoorW.PrintLast Go.Proofs.YthffpjkkmkjplaaDoorW.PrintMore
attribute [local go_sem] max2_int min2_int max_two min_two max_three min_three max_four min_four
set_option linter.unusedVariables false
set_option linter.unusedSimpArgs false
def foretellref_secondAt.f (k : Nat) (l0 : List (S65)) (a1 : Int) : Option (Int) := (foretellref_endOf.f k l0 (wrap64 (a1 + 1))).bind fun bt171 => (some bt171.1)
theorem foretellref_secondAt.mono : ∀ a0 a1 k, LeO (foretellref_secondAt.f k a0 a1) (foretellref_secondAt.f (k + 1) a0 a1) := by
  intro a0 a1 k
  unfold foretellref_secondAt.f
  repeat' first
      | (with_reducible exact foretellref_endOf.mono _ _ _)
      | (with_reducible exact LeO.refl _)
      | (with_reducible exact LeO.none _)
      | (with_reducible refine LeO.ite ?_ ?_)
      | (with_reducible refine LeO.bind ?_ (fun _ => ?_))
      | exact foretellref_endOf.mono _ _ _
      | exact LeO.none _
      | refine LeO.ite ?_ ?_
      | refine LeO.bind ?_ (fun _ => ?_)
set_option maxHeartbeats 8000000 in
set_option maxRecDepth 100000 in
theorem foretellref_secondAt.calls (k : Nat) (A0 : Option Addr) (c0 : Nat) (l0 : List (S65)) (a1 : Int) (r : Int) (w : World) (hr0 : Kd.C k65 w A0 l0.length l0) (hc0 : l0.length ≤ c0) (h : foretellref_secondAt.f k l0 a1 = some r) :
    Calls Tryd.prog 77 #[.slice A0 l0.length c0, .int .i64 a1] w fun e w' => e = .returned (.int .i64 r) ∧ Drawn0 w w' := by
  have HR0 := Aside0.mk hr0
  have HC0 := Aside0.mk hc0
  clear hr0 hc0
  have H : ((foretellref_endOf.f k l0 (wrap64 (a1 + 1))).bind fun bt171 => (some bt171.1)) = some r := h
  clear h
  replace H := Option.bind_eq_some_iff.mp H
  obtain ⟨⟨t171, t172⟩, A30, H⟩ := H
  replace H : (some t171) = some r := H
  have A3 := Aside0.mk A30
  clear A30
  obtain rfl := Option.some.inj H
  go_enter Tryd.func77, Tryd.ntmps77
  go_wp2_with (first | ((with_reducible refine gate_callee (f := 91) rfl ?_); refine goesL_ (some 11) rfl rfl Tryd.func91 (by kernel_rfl) rfl #[.slice A0 l0.length c0, .int .i64 (wrap64 (a1 + 1))] rfl (by (try simp only [List.map_toArray, List.map_cons, List.map_nil]); first | done | rfl | (simp only [List.length_drop, List.length_take]; rfl)) ?_; (with_reducible refine (foretellref_endOf.calls k _ _ l0 (wrap64 (a1 + 1)) t171 t172 _ ?side1 ?side2 A3.out).mono ?_); (case side1 => repeat (first | exact HR0.out | (with_reducible refine Kd.C_alloc ?_ _) | (with_reducible refine Kd.C_drewN ?_ _) | (with_reducible refine Kd.C_drew ?_))); (case side2 => exact HC0.out); rintro e w' ⟨rfl, ⟨nd, rfl⟩⟩; refine ⟨_, rfl, ?_⟩))
  go_ret
  exact ⟨by first | rfl | (simp; done) | (simp [*]; done), by repeat (first | exact Drawn0.refl _ | apply Drawn0.step)⟩
end Go.Proofs.YthffpjkkmkjplaaDoor.Q
