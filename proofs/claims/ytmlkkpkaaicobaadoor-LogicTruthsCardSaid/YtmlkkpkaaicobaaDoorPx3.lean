-- WRITTEN by this session's own program (wip/pp.py) over the translation. Not trusted: Lean checks it.
import Derived.Test.YtmlkkpkaaicobaaDoorPx0
import Derived.Test.YtmlkkpkaaicobaaDoorPx2
import Derived.Test.YtmlkkpkaaicobaaDoorMScan
namespace Go.Proofs.YtmlkkpkaaicobaaDoor.P
open Go.RowKit Go.Proofs.YtmlkkpkaaicobaaDoorW.PrintWords Go.Proofs.YtmlkkpkaaicobaaDoorW.PrintLast Go.Proofs.YtmlkkpkaaicobaaDoorW.PrintMore
attribute [local go_sem] max2_int min2_int max_two min_two max_three min_three max_four min_four   -- for this text's walks alone
set_option linter.unusedVariables false
set_option linter.unusedSimpArgs false

-- IMPORT Derived.Test.YtmlkkpkaaicobaaDoorMScan
/-! ### polish_Ends: function 17 -/
section
open Go.Proofs.YtmlkkpkaaicobaaDoor.Hand
structure RdOK (w : World) (gr ge : Nat) (A : Option Addr) (c : Nat) (l : List S63) (ends : List Int) : Prop where
  ne : gr ≠ ge
  rd : w.heap[gr]? = some (.cells #[.slice A l.length c, .slice (some ⟨ge, 0, none⟩) l.length l.length] 59 (0, 0))
  en : w.heap[ge]? = some (.cells (nums .i64 ends).toArray 3 (0, 0))
  len : ends.length = l.length
  cap : l.length ≤ c
  max : l.length ≤ 60
  ops : ∀ W, w.grownBy W (some ge) → Kd.C k63 W A l.length l
  laid : ∀ W, w.grownBy W (some ge) → LaidG W
theorem RdOK.step {w w' : World} {gr ge : Nat} {A : Option Addr} {c : Nat} {l : List S63} {ends ends' : List Int} (h : RdOK w gr ge A c l ends) (hg : w.grownBy w' (some ge)) (he : w'.heap[ge]? = some (.cells (nums .i64 ends').toArray 3 (0, 0))) (hl : ends'.length = l.length) : RdOK w' gr ge A c l ends' :=
  ⟨h.ne, (hg.block gr (blk_lt h.rd) (by intro e; exact h.ne (by injection e))).trans h.rd, he, hl, h.cap, h.max, fun W hW => h.ops W (grownBy_trans hg hW), fun W hW => h.laid W (grownBy_trans hg hW)⟩
/-- What a call of skip leaves. -/
def SkipPost (l : List S63) (at_ : Nat) (ends : List Int) (w : World) (ge : Nat) (e : Ending) (w' : World) : Prop :=
  ∃ ends', ends'.length = l.length ∧ w.grownBy w' (some ge) ∧ w'.heap[ge]? = some (.cells (nums .i64 ends').toArray 3 (0, 0)) ∧
    match scan (l.drop at_) 1 with
    | .error c => e = .panicked [{ v := .iface 22 (.int .i64 c), recovered := false }]
    | .ok r => e = .returned (.int .i64 ((l.length : Int) - r.length)) ∧ ∀ i, i < l.length → ends'[i]? = if at_ ≤ i ∧ (i : Int) < (l.length : Int) - r.length then some (endAt l i) else ends[i]?
set_option maxHeartbeats 1000000 in
theorem skip_calls (gr ge : Nat) (A : Option Addr) (c : Nat) (l : List S63) (fuel : Nat) : ∀ (at_ : Nat) (ends : List Int) (w : World), l.length - at_ < fuel → RdOK w gr ge A c l ends →
    Calls Tryd.prog 44 #[.pointer (some ⟨gr, 0, none⟩), .int .i64 (at_ : Int)] w (SkipPost l at_ ends w ge) := by
  induction fuel with
  | zero => intro at_ ends w hf; omega
  | succ fuel ih =>
    intro at_ ends w hf hR
    have c0 : w.cell? ⟨gr, 0, none⟩ = some (.slice A l.length c) := blk_cell hR.rd 0
    have c1 : w.cell? ⟨gr, 1, none⟩ = some (.slice (some ⟨ge, 0, none⟩) l.length l.length) := blk_cell hR.rd 1
    have hmax := hR.max
    have H := Aside0.mk hR
    clear hR
    by_cases hlt : at_ < l.length
    · have hC := H.out.ops w (World.grownBy.refl w _)
      obtain ⟨ad, e1, h0, h1⟩ := at_T63 hC at_ (by omega) (by omega)
      subst e1
      obtain ⟨o, ho⟩ : ∃ o, o = l[at_] := ⟨_, rfl⟩
      have hg : rd_T63 l at_ = o := by rw [ho]; exact Base.getD_get _ _ _ hlt
      rw [hg, Int.toNat_natCast] at h0 h1
      have hp : polish_Parts.f o.f0 = some ((partsS o.f0).1, (partsS o.f0).2) := by unfold polish_Parts.f partsS; split <;> rfl
      have hsc : scan (l.drop at_) 1 = if (partsS o.f0).2 = 0 then scan (l.drop (at_ + 1)) (partsS o.f0).1.toNat else .error (partsS o.f0).2 := by
        rw [List.drop_eq_getElem_cons hlt, scan_cons, ← ho, Nat.zero_add]
      have hn := partsS_bd (a := o.f0)
      obtain ⟨n, hn1⟩ : ∃ n, n = (partsS o.f0).1 := ⟨_, rfl⟩
      obtain ⟨er, hn2⟩ : ∃ er, er = (partsS o.f0).2 := ⟨_, rfl⟩
      rw [← hn1, ← hn2] at hp hsc
      rw [← hn1, ← hn2] at hn
      have HP := Aside0.mk hp
      have HS := Aside0.mk hsc
      clear hp hsc hC hg ho hn1 hn2
      have hidx : decide ((at_ : Int) < (l.length : Int)) = true := decide_eq_true (by omega)
      by_cases her : er = 0
      · have hn := hn her
        subst her
        go_enter Tryd.func44, Tryd.ntmps44
        go_wp2_with (go_at_call 14; refine (polish_Parts.calls o.f0 n 0 _ ?hL HP.out).mono ?_; (case hL => exact H.out.laid _ (grownBy_drewN (World.grownBy.refl w _) 0)); rintro e w' ⟨rfl, ⟨nd, rfl⟩⟩)
        go_loopg [7, 35] n.toNat (fun kq v7 v35 wr => ∃ (p j : Nat) (ends1 : List Int), v7 = .int .i64 (p : Int) ∧ v35 = .int .i64 (j : Int) ∧ Aside0 (j + kq = n.toNat) ∧ Aside0 (scan (l.drop (at_ + 1)) j = .ok (l.drop p)) ∧ Aside0 (p ≤ l.length ∧ at_ + 1 ≤ p) ∧ Aside0 (w.grownBy wr (some ge)) ∧ Aside0 (ends1.length = l.length) ∧ Aside0 (wr.heap[ge]? = some (.cells (nums .i64 ends1).toArray 3 (0, 0))) ∧ Aside0 (∀ i, i < l.length → ends1[i]? = if at_ + 1 ≤ i ∧ i < p then some (endAt l i) else ends[i]?))
        case atStart => exact ⟨at_ + 1, 0, ends, by first | rfl | (simp; done), rfl, ⟨by omega⟩, ⟨scan_zero _⟩, ⟨by omega, by omega⟩, ⟨grownBy_drewN (World.grownBy.refl w _) _⟩, ⟨H.out.len⟩, ⟨H.out.en⟩, ⟨fun i hi => by rw [if_neg (by omega)]⟩⟩
        case round =>
          obtain ⟨p, j, ends1, rfl, rfl, HJ, HSC, HP2, HG, HL1, HE, HV⟩ := hrel
          obtain ⟨hp0, hp1⟩ := HP2.out
          by_cases hj : (j : Int) < n
          · have hjb : decide ((j : Int) < n) = true := decide_eq_true hj
            have HC := Aside0.mk (ih p ends1 wr (by omega) (H.out.step HG.out HE.out HL1.out))
            have hadd := scan_add (l.drop (at_ + 1)) j 1
            rw [HSC.out] at hadd
            have hadd2 := scan_add (l.drop (at_ + 1)) (j + 1) (n.toNat - (j + 1))
            rw [show j + 1 + (n.toNat - (j + 1)) = n.toNat by omega] at hadd2
            have HA := Aside0.mk hadd
            have HA2 := Aside0.mk hadd2
            clear hadd hadd2
            cases gk with
            | zero => exact absurd HJ.out (by omega)
            | succ k1 =>
            match hs1 : scan (l.drop p) 1 with
            | .error cc =>
              have HS1 := Aside0.mk hs1
              clear hs1
              go_wp2_with (go_at_call 44; refine HC.out.mono ?_; rintro e w2 ⟨ends2, hl2, hg2, he2, hm2⟩; rw [HS1.out] at hm2; obtain rfl := hm2; have HL2 := Aside0.mk hl2; have HG2 := Aside0.mk hg2; have HE2 := Aside0.mk he2; clear hl2 hg2 he2)
              refine ⟨rfl, ends2, HL2.out, grownBy_trans HG.out HG2.out, HE2.out, ?_⟩
              have : scan (l.drop at_) 1 = .error cc := by
                rw [HS.out, if_pos trivial, HA2.out, HA.out]
                simp only [HS1.out]
              rw [this]
            | .ok r1 =>
              obtain ⟨k, hk0, hk1, hk2⟩ := scan_suffix _ _ _ hs1
              have hr : (l.length : Int) - r1.length = ((p + k : Nat) : Int) := by rw [hk1]; simp at hk0 ⊢; omega
              have hkl : p + k ≤ l.length := by simp at hk0; omega
              have hrd : r1 = l.drop (p + k) := by rw [hk1, List.drop_drop]
              have HK := Aside0.mk hr
              have HK2 := Aside0.mk hrd
              have HS1 := Aside0.mk hs1
              clear hs1 hr hrd hk0 hk1
              go_wp2_with (go_at_call 44; refine HC.out.mono ?_; rintro e w2 ⟨ends2, hl2, hg2, he2, hm2⟩; rw [HS1.out] at hm2; obtain ⟨rfl, hv2⟩ := hm2; rw [HK.out]; have HL2 := Aside0.mk hl2; have HG2 := Aside0.mk hg2; have HE2 := Aside0.mk he2; have HV2 := Aside0.mk hv2; clear hl2 hg2 he2 hv2)
              go_roundg k1
              case measure => omega
              case rel =>
                refine ⟨p + k, j + 1, ends2, rfl, by simp, ⟨by have := HJ.out; omega⟩, ⟨?_⟩, ⟨hkl, by omega⟩, ⟨grownBy_trans HG.out HG2.out⟩, ⟨HL2.out⟩, ⟨HE2.out⟩, ⟨fun i hi => ?_⟩⟩
                · rw [HA.out]; simp only [HS1.out, HK2.out]
                · rw [HV2.out i hi, HK.out]
                  by_cases q : p ≤ i ∧ (i : Int) < ((p + k : Nat) : Int)
                  · rw [if_pos q, if_pos (by omega)]
                  · rw [if_neg q, HV.out i hi]
                    by_cases q2 : at_ + 1 ≤ i ∧ i < p
                    · rw [if_pos q2, if_pos (by omega)]
                    · rw [if_neg q2, if_neg (by omega)]
          · have hjb : decide ((j : Int) < n) = false := decide_eq_false hj
            have hR2 := H.out.step HG.out HE.out HL1.out
            have hlt1 : at_ < ends1.length := by rw [HL1.out]; exact hlt
            have d0 : wr.cell? ⟨gr, 1, none⟩ = some (.slice (some ⟨ge, 0, none⟩) l.length l.length) := blk_cell hR2.rd 1
            have d1 : wr.cell? ⟨ge, at_, none⟩ = some (.int .i64 ends1[at_]) := by rw [blk_cell HE.out]; simp [nums, hlt1]
            have d2 : wr.frozen? ⟨ge, at_, none⟩ = false := blk_frozen HE.out at_
            have hidx2 : decide ((at_ : Int) < (l.length : Int)) = true := decide_eq_true (by omega)
            clear hR2
            go_wp2
            go_ret
            have hsc : scan (l.drop at_) 1 = .ok (l.drop p) := by
              rw [HS.out, if_pos trivial, show n.toNat = j by have := HJ.out; omega]
              exact HSC.out
            have hpe : (l.length : Int) - (l.drop p).length = (p : Int) := by rw [List.length_drop]; omega
            refine ⟨ends1.set at_ p, by rw [List.length_set]; exact HL1.out, grownBy_set HG.out _ _, ?_, ?_⟩
            · rw [blk_set HE.out]
              congr 2
              apply Array.ext'
              simp [nums, List.map_set]
            · rw [hsc]
              refine ⟨by rw [hpe]; rfl, fun i hi => ?_⟩
              rw [hpe, List.getElem?_set]
              by_cases q : at_ = i
              · subst q
                rw [if_pos rfl, if_pos hlt1, if_pos (by omega)]
                unfold endAt
                rw [hsc]
                exact congrArg some hpe.symm
              · rw [if_neg q, HV.out i hi]
                by_cases q2 : at_ + 1 ≤ i ∧ i < p
                · rw [if_pos q2, if_pos (by omega)]
                · rw [if_neg q2, if_neg (by omega)]
      · have herb : (er == 0) = false := by rw [beq_eq_false_iff_ne]; exact her
        have herb2 : (er != 0) = true := by rw [bne_iff_ne]; exact her
        go_enter Tryd.func44, Tryd.ntmps44
        go_wp2_with (go_at_call 14; refine (polish_Parts.calls o.f0 n er _ ?hL HP.out).mono ?_; (case hL => exact H.out.laid _ (grownBy_drewN (World.grownBy.refl w _) 0)); rintro e w' ⟨rfl, ⟨nd, rfl⟩⟩)
        refine ⟨rfl, ends, H.out.len, grownBy_drewN (World.grownBy.refl w _) _, H.out.en, ?_⟩
        rw [show scan (l.drop at_) 1 = .error er by rw [HS.out, if_neg her]]
    · have hge : decide ((at_ : Int) ≥ (l.length : Int)) = true := decide_eq_true (by omega)
      have hge2 : decide (l.length ≤ at_) = true := decide_eq_true (by omega)
      go_enter Tryd.func44, Tryd.ntmps44
      go_wp2
      refine ⟨rfl, ends, H.out.len, World.grownBy.refl w _, H.out.en, ?_⟩
      rw [show scan (l.drop at_) 1 = .error 4 by rw [List.drop_of_length_le (by omega)]; rfl]
theorem assert_errno (c : Int) (W : World) : (Instr.typeAssert (.iface 22 (.int .i64 c)) 20 22 false).run Tryd.prog W = .ok (.int .i64 c) W := by kernel_rfl
theorem catch_panicking (b1 b2 : Nat) (hb : b1 ≠ b2) (y : Int) (c : Int) (older : List PanicEntry) (w : World) (hc : w.cell? ⟨b1, 0, none⟩ = some (.slice none 0 0)) (hz : w.frozen? ⟨b1, 0, none⟩ = false) (hc2 : w.cell? ⟨b2, 0, none⟩ = some (.int .i64 0)) (hz2 : w.frozen? ⟨b2, 0, none⟩ = false) :
    CallsD Tryd.prog 43 #[.pointer (some ⟨b1, 0, none⟩), .pointer (some ⟨b2, 0, none⟩)] (.panicking ({ v := .iface 22 (.int .i64 c), recovered := false } :: older)) w fun e u' w' =>
      e = .returned (.tuple #[]) ∧ u' = .panicking ({ v := .iface 22 (.int .i64 c), recovered := true } :: older) ∧ Same w' ((w.setCell ⟨b1, 0, none⟩ (.slice none 0 0)).setCell ⟨b2, 0, none⟩ (.int .i64 c)) := by
  have hc21 : (w.setCell ⟨b1, 0, none⟩ (.slice none 0 0)).cell? ⟨b2, 0, none⟩ = some (.int .i64 0) := (World.cell?_setCell_other w ⟨b1, 0, none⟩ ⟨b2, 0, none⟩ _ (by intro e; injection e with e; exact hb e)).trans hc2
  have hc12 : (w.setCell ⟨b2, 0, none⟩ (.int .i64 c)).cell? ⟨b1, 0, none⟩ = some (.slice none 0 0) := (World.cell?_setCell_other w ⟨b2, 0, none⟩ ⟨b1, 0, none⟩ _ (by intro e; injection e with e; exact hb e.symm)).trans hc
  refine callsD_of_wpS Tryd.func43 rfl fun c₀ cs hu => ?_
  apply wpS_seq
  apply wpS_region
  simp [wpOpsS, go_sem, recoverD, hu, Tryd.ntmps43, Exit.thenS]
  apply wpS_seq
  apply wpS_region
  simp [wpOpsS, go_sem, recoverD, hu, Tryd.ntmps43, Exit.thenS]
  refine wpS_cond (t := true) (by simp [Act.eval, Array.replicate]) ?_
  simp only [if_true]
  refine wpS_of_wp ?_
  simp [show Array.replicate 6 undef = #[undef, undef, undef, undef, undef, undef] from rfl]
  have hta := assert_errno c
  go_region
  all_goals
    cases c₀
    simp_all [bodyPostS, results, Tryd.results43]
    exact Same.drew _

theorem catch_idle (p q : Value) (w : World) :
    CallsD Tryd.prog 43 #[p, q] .returning w fun e u' w' => e = .returned (.tuple #[]) ∧ u' = .returning ∧ w' = w := by
  refine callsD_of_wpS Tryd.func43 rfl fun c₀ cs hu => ?_
  apply wpS_seq
  apply wpS_region
  simp [wpOpsS, go_sem, recoverD, hu, Tryd.ntmps43, Exit.thenS]
  apply wpS_seq
  apply wpS_region
  simp [wpOpsS, go_sem, Exit.thenS]
  refine wpS_cond (t := false) (by simp [Act.eval, Array.replicate]) ?_
  simp only [Bool.false_eq_true, if_false]
  refine wpS_of_wp (wp_skip ?_)
  cases c₀
  simp_all [bodyPostS, results, Tryd.results43]
def polish_Ends.f (l0 : List S63) : Option (List Int × Int) := some (endsS l0)
set_option maxHeartbeats 1000000 in
theorem polish_Ends.calls (A0 : Option Addr) (c0 : Nat) (l0 : List S63) (r1 : List Int) (r2 : Int) (w : World) (hr0 : Kd.C k63 w A0 l0.length l0) (hc0 : l0.length ≤ c0) (hL : LaidG w) (h : polish_Ends.f l0 = some (r1, r2)) :
    Calls Tryd.prog 17 #[.slice A0 l0.length c0] w fun e w' => ∃ v0_ : Value, e = .returned (.tuple #[v0_, .int .i64 r2]) ∧ Kd.R (Kd.int .i64) 3 w' w.heap.size (fun _ => True) v0_ r1 ∧ Below w.heap.size w w' := by
  have hmf : ∀ (fn : Fn) (first cap : Array Value) (w : World), (Instr.makeFunc fn first cap).run Tryd.prog w = .ok (.func fn first cap) w := fun _ _ _ _ => rfl
  have HR := Aside0.mk hr0
  have HC := Aside0.mk hc0
  have HLd := Aside0.mk hL
  clear hr0 hc0 hL
  have h := Option.some.inj h
  by_cases hlen : l0.length > 60
  · have hb : decide ((l0.length : Int) > 60) = true := decide_eq_true (by omega)
    unfold endsS at h
    rw [if_pos hlen] at h
    cases h
    go_enter_defers Tryd.func17, Tryd.ntmps17
    go_wp2
    simp [bodyPostD, Leaves, settle, results, Tryd.results17, go_sem]
    exact ⟨Kd.R_nil _ _ _ _ _, below_alloc (below_alloc (Below.refl _ _) _) _⟩
  · have hb : decide ((l0.length : Int) > 60) = false := decide_eq_false (by omega)
    have hmk := print_make (P := Tryd.prog) 28 3 .i64 8 Tryd.underlying28 info3 (by omega) l0.length (by omega)
    rw [made_nums] at hmk
    unfold endsS at h
    rw [if_neg hlen] at h
    have HH := Aside0.mk h
    clear h
    go_enter_defers Tryd.func17, Tryd.ntmps17
    go_wp2_with fail
    clear hmk
    have hsz : ∀ (W : World) (o : Obj), (W.alloc o).heap.size = W.heap.size + 1 := size_alloc
    obtain ⟨W, hW⟩ : ∃ W, W = ((((w.alloc (Obj.cells #[Value.slice none 0 0] 28)).alloc (Obj.cells #[Value.int IntKind.i64 0] 22)).alloc (Obj.cells (nums .i64 (List.replicate l0.length 0)).toArray 3)).alloc (Obj.cells #[Value.slice A0 l0.length c0, Value.slice (some { block := w.heap.size + 1 + 1, off := 0 }) l0.length l0.length] 59)) := ⟨_, rfl⟩
    have hBW : Below w.heap.size w W := by rw [hW]; exact below_alloc (below_alloc (below_alloc (below_alloc (Below.refl _ _) _) _) _) _
    have hs4 : W.heap.size = w.heap.size + 4 := by rw [hW]; simp [hsz]
    have a1 : W.heap[w.heap.size]? = some (.cells #[Value.slice none 0 0] 28 (0, 0)) := by
      rw [hW, heap_old _ (by simp; omega), heap_old _ (by simp; omega), heap_old _ (by simp)]; exact heap_new _ _
    have a2 : W.heap[w.heap.size + 1]? = some (.cells #[Value.int IntKind.i64 0] 22 (0, 0)) := by
      rw [hW, heap_old _ (by simp), heap_old _ (by simp), ← hsz w (Obj.cells #[Value.slice none 0 0] 28)]; exact heap_new _ _
    have a3 : W.heap[w.heap.size + 1 + 1]? = some (.cells (nums .i64 (List.replicate l0.length 0)).toArray 3 (0, 0)) := by
      rw [hW, heap_old _ (by simp), ← hsz w (Obj.cells #[Value.slice none 0 0] 28), ← hsz _ (Obj.cells #[Value.int IntKind.i64 0] 22)]; exact heap_new _ _
    have a4 : W.heap[w.heap.size + 1 + 1 + 1]? = some (.cells #[Value.slice A0 l0.length c0, Value.slice (some { block := w.heap.size + 1 + 1, off := 0 }) l0.length l0.length] 59 (0, 0)) := by
      rw [hW, ← hsz w (Obj.cells #[Value.slice none 0 0] 28), ← hsz _ (Obj.cells #[Value.int IntKind.i64 0] 22), ← hsz _ (Obj.cells (nums .i64 (List.replicate l0.length 0)).toArray 3)]; exact heap_new _ _
    rw [← hW]
    have below_of : ∀ W2, W.grownBy W2 (some (w.heap.size + 1 + 1)) → Below w.heap.size w W2 := fun W2 hg => hBW.grown hg (by omega) (fun k hk => by injection hk with hk; omega)
    have HRd : RdOK W (w.heap.size + 1 + 1 + 1) (w.heap.size + 1 + 1) A0 c0 l0 (List.replicate l0.length 0) :=
      ⟨by omega, a4, a3, by simp, HC.out, by omega, fun W2 hg => Kd.C_below HR.out (below_of W2 hg), fun W2 hg => HLd.out.below (below_of W2 hg)⟩
    have HS := skip_calls (w.heap.size + 1 + 1 + 1) (w.heap.size + 1 + 1) A0 c0 l0 (l0.length + 1) 0 (List.replicate l0.length 0) W (by omega) HRd
    have HBo := Aside0.mk below_of
    have HA1 := Aside0.mk a1
    have HA2 := Aside0.mk a2
    have HA4 := Aside0.mk a4
    clear below_of HRd hW hBW a1 a2 a3 a4 hsz
    refine HS.mono ?_
    clear HS
    rintro e w' ⟨ends', hl', hg', he', hm'⟩
    rw [List.drop_zero] at hm'
    have HG := Aside0.mk hg'
    have HE := Aside0.mk he'
    have HL' := Aside0.mk hl'
    have b1 : w'.heap[w.heap.size]? = some (.cells #[Value.slice none 0 0] 28 (0, 0)) := (hg'.block _ (blk_lt HA1.out) (by intro e; injection e with e; omega)).trans HA1.out
    have b2 : w'.heap[w.heap.size + 1]? = some (.cells #[Value.int IntKind.i64 0] 22 (0, 0)) := (hg'.block _ (blk_lt HA2.out) (by intro e; injection e with e; omega)).trans HA2.out
    have b4 : w'.heap[w.heap.size + 1 + 1 + 1]? = some (.cells #[Value.slice A0 l0.length c0, Value.slice (some { block := w.heap.size + 1 + 1, off := 0 }) l0.length l0.length] 59 (0, 0)) := (hg'.block _ (blk_lt HA4.out) (by intro e; injection e with e; omega)).trans HA4.out
    have k1 : w'.cell? ⟨w.heap.size, 0, none⟩ = some (.slice none 0 0) := blk_cell b1 0
    have k2 : w'.cell? ⟨w.heap.size + 1, 0, none⟩ = some (.int .i64 0) := blk_cell b2 0
    have k4 : w'.cell? ⟨w.heap.size + 1 + 1 + 1, 1, none⟩ = some (Value.slice (some { block := w.heap.size + 1 + 1, off := 0 }) l0.length l0.length) := blk_cell b4 1
    have z1 : w'.frozen? ⟨w.heap.size, 0, none⟩ = false := blk_frozen b1 0
    have z2 : w'.frozen? ⟨w.heap.size + 1, 0, none⟩ = false := blk_frozen b2 0
    have HB' := Aside0.mk (HBo.out w' hg')
    have hsz' : w.heap.size + 4 ≤ w'.heap.size := by rw [← hs4]; exact hg'.size
    clear hl' hg' he' b4 HA1 HA2 HA4 HBo
    have B1 := Aside0.mk b1
    have B2 := Aside0.mk b2
    clear b1 b2
    have panics : ∀ cc : Int, (r1, r2) = ([], cc) → ∀ (tmps : Array Value), tmps[2]?.getD undef = .pointer (some ⟨w.heap.size, 0, none⟩) → tmps[3]?.getD undef = .pointer (some ⟨w.heap.size + 1, 0, none⟩) →
        bodyPostD Tryd.prog Tryd.f17 (fun e w' => ∃ v0_ : Value, e = .returned (.tuple #[v0_, .int .i64 r2]) ∧ Kd.R (Kd.int .i64) 3 w' w.heap.size (fun _ => True) v0_ r1 ∧ Below w.heap.size w w') (Exit.panic [{ v := Value.iface 22 (Value.int IntKind.i64 cc), recovered := false }])
          { tmps := tmps, defers := [{ target := Target.fn (Fn.func 43) #[Value.pointer (some { block := w.heap.size, off := 0 }), Value.pointer (some { block := w.heap.size + 1, off := 0 })], args := #[] }] } w' := by
      intro cc hr tmps t2 t3
      simp only [Prod.mk.injEq] at hr
      obtain ⟨rfl, rfl⟩ := hr
      refine leaves_cons (f := 43) (args := #[.pointer (some ⟨w.heap.size, 0, none⟩), .pointer (some ⟨w.heap.size + 1, 0, none⟩)]) (by simp) (by simp [go_sem]) ?_
      refine (catch_panicking w.heap.size (w.heap.size + 1) (by omega) 0 _ [] w' k1 z1 k2 z2).mono ?_
      rintro e u' w'' ⟨rfl, rfl, hsame⟩
      have j1 : w''.cell? ⟨w.heap.size, 0, none⟩ = some (.slice none 0 0) := by rw [hsame.cell]; simp [go_sem, k1]
      have j2 : w''.cell? ⟨w.heap.size + 1, 0, none⟩ = some (.int .i64 r2) := by rw [hsame.cell]; simp [go_sem, k2]
      simp [Leaves, settle, results, Tryd.results17, go_sem, j1, j2, t2, t3]
      exact ⟨Kd.R_nil _ _ _ _ _, Same.below (below_set (below_set HB'.out (Nat.le_refl _)) (by omega)) hsame⟩
    cases hsc : scan l0 1 with
    | error cc =>
      rw [hsc] at hm'
      obtain rfl := hm'
      have hr := HH.out
      rw [hsc] at hr
      exact panics cc hr.symm _ rfl rfl
    | ok r =>
      rw [hsc] at hm'
      obtain ⟨rfl, hv'⟩ := hm'
      have hr := HH.out
      rw [hsc] at hr
      obtain ⟨k, hk0, hk1, hk2⟩ := scan_suffix _ _ _ hsc
      by_cases hnil : r = []
      · subst hnil
        simp only [if_true, Prod.mk.injEq] at hr
        obtain ⟨rfl, rfl⟩ := hr
        have hr1 : (List.range l0.length).map (endAt l0) = ends' := by
          apply List.ext_getElem?
          intro i
          by_cases hi : i < l0.length
          · rw [hv' i hi, if_pos ⟨by omega, by simp; omega⟩]
            simp [hi]
          · rw [List.getElem?_eq_none (by simp; omega), List.getElem?_eq_none (by rw [HL'.out]; omega)]
        have HV := Aside0.mk hr1
        clear hv' hr1 hsc hk0 hk1 hk2 panics
        have hz : (l0.length : Int) - (([] : List S63).length : Int) = (l0.length : Int) := by simp
        rw [hz]
        clear hz
        go_wp2
        refine leaves_cons (f := 43) (args := #[.pointer (some ⟨w.heap.size, 0, none⟩), .pointer (some ⟨w.heap.size + 1, 0, none⟩)]) (by simp) (by simp [go_sem]) ?_
        refine (catch_idle _ _ _).mono ?_
        rintro e u' w'' ⟨rfl, rfl, rfl⟩
        simp [Leaves, settle, results, Tryd.results17, go_sem, k1, k2]
        exact ⟨by rw [HV.out, ← HL'.out]; exact Kd.R_lower (R_setb (R_setb (R_of_block HE.out (Nat.le_refl _) (by have := HL'.out; omega)) (show w.heap.size < _ by omega) _) (show w.heap.size + 1 < _ by omega) _) (by omega), below_set (below_set HB'.out (Nat.le_refl _)) (by omega)⟩
      · have hne : ((l0.length : Int) - (r.length : Int) != (l0.length : Int)) = true := by
          rw [bne_iff_ne]
          intro e
          apply hnil
          exact List.eq_nil_of_length_eq_zero (by omega)
        simp only [if_neg hnil] at hr
        clear hv' hk0 hk1 hk2
        go_wp2
        exact panics 3 hr.symm _ rfl rfl

end

/-! ### foretellref_endOf: function 45 -/
def foretellref_endOf.l0 : Nat → List (S63) → Int → Int → Option (Int × Int)
  | 0, _, _, _ => none
  | k + 1, x0, x6, x7 => if x7 < (x0.length : Int) then (if 0 ≤ x7 then ((foretellref_PartsOf.f k ((rd_T63 x0 x7).f0)).bind fun bt109 => (if bt109.2 = 0 then (if (wrap64 ((wrap64 (x6 + bt109.1)) - 1)) = 0 then (some (wrap64 (x7 + 1), 0)) else (foretellref_endOf.l0 k x0 (wrap64 ((wrap64 (x6 + bt109.1)) - 1)) (wrap64 (x7 + 1)))) else (some (0, bt109.2)))) else (none)) else (some (0, 4))
def foretellref_endOf.f (k : Nat) (l0 : List (S63)) (a1 : Int) : Option (Int × Int) := foretellref_endOf.l0 k l0 1 a1
theorem foretellref_endOf.mono_l : ∀ k, (∀ y0 y1 y2, LeO (foretellref_endOf.l0 k y0 y1 y2) (foretellref_endOf.l0 (k + 1) y0 y1 y2))
  | 0 => fun _ _ _ r h => by simp [foretellref_endOf.l0] at h
  | k + 1 => by
    have ih0 := foretellref_endOf.mono_l k
    · intro y0 y1 y2
      unfold foretellref_endOf.l0
      repeat' first
      | (with_reducible exact ih0 _ _ _)
      | (with_reducible exact foretellref_PartsOf.mono _ _)
      | (with_reducible exact LeO.refl _)
      | (with_reducible exact LeO.none _)
      | (with_reducible refine LeO.ite ?_ ?_)
      | (with_reducible refine LeO.bind ?_ (fun _ => ?_))
      | exact ih0 _ _ _
      | exact foretellref_PartsOf.mono _ _
      | exact LeO.none _
      | refine LeO.ite ?_ ?_
      | refine LeO.bind ?_ (fun _ => ?_)
theorem foretellref_endOf.mono : ∀ a0 a1 k, LeO (foretellref_endOf.f k a0 a1) (foretellref_endOf.f (k + 1) a0 a1) := by
  intro a0 a1 k
  have ih0 := foretellref_endOf.mono_l k
  unfold foretellref_endOf.f
  repeat' first
      | (with_reducible exact ih0 _ _ _)
      | (with_reducible exact foretellref_PartsOf.mono _ _)
      | (with_reducible exact LeO.refl _)
      | (with_reducible exact LeO.none _)
      | (with_reducible refine LeO.ite ?_ ?_)
      | (with_reducible refine LeO.bind ?_ (fun _ => ?_))
      | exact ih0 _ _ _
      | exact foretellref_PartsOf.mono _ _
      | exact LeO.none _
      | refine LeO.ite ?_ ?_
      | refine LeO.bind ?_ (fun _ => ?_)
set_option maxHeartbeats 8000000 in
set_option maxRecDepth 100000 in
theorem foretellref_endOf.calls (k : Nat) (A0 : Option Addr) (c0 : Nat) (l0 : List (S63)) (a1 : Int) (r1 : Int) (r2 : Int) (w : World) (hr0 : Kd.C k63 w A0 l0.length l0) (hc0 : l0.length ≤ c0) (h : foretellref_endOf.f k l0 a1 = some (r1, r2)) :
    Calls Tryd.prog 45 #[.slice A0 l0.length c0, .int .i64 a1] w fun e w' => e = .returned (.tuple #[.int .i64 r1, .int .i64 r2]) ∧ Drawn0 w w' := by
  have HR0 := Aside0.mk hr0
  have HC0 := Aside0.mk hc0
  clear hr0 hc0
  have H : (foretellref_endOf.l0 k l0 1 a1) = some (r1, r2) := h
  clear h
  have H' := Aside0.mk H
  clear H
  go_enter Tryd.func45, Tryd.ntmps45
  go_wp2
  go_loopg [6, 7] k (fun kq v6 v7 w' => ∃ (x6_1 : Int) (x7_1 : Int), v6 = .int .i64 x6_1 ∧ v7 = .int .i64 x7_1 ∧ Aside0 (foretellref_endOf.l0 kq l0 x6_1 x7_1 = some (r1, r2)) ∧ Aside0 (kq ≤ k) ∧ Drawn0 w w')
  case atStart => exact ⟨(1), (a1), (by first | rfl | (simp; done) | (simp [*]; done)), (by first | rfl | (simp; done) | (simp [*]; done)), H', ⟨Nat.le_refl _⟩, by repeat (first | exact Drawn0.refl _ | apply Drawn0.step)⟩
  case round =>
    clear H'
    try clear p2
    obtain ⟨x6_1, x7_1, rfl, rfl, HA, HK1, ⟨m1, rfl⟩⟩ := hrel
    cases gk with
    | zero => exact absurd HA.out (by simp [foretellref_endOf.l0])
    | succ k1 =>
      have H := HA.out
      clear HA
      simp only [foretellref_endOf.l0] at H
      by_cases c3 : x7_1 < (l0.length : Int)
      · rw [if_pos c3] at H
        have c3b0 : decide (x7_1 < (l0.length : Int)) = true := decide_eq_true c3
        clear c3
        by_cases c4 : 0 ≤ x7_1
        · rw [if_pos c4] at H
          have c4b0 : decide (0 ≤ x7_1) = true := decide_eq_true c4
          clear c4
          replace H := Option.bind_eq_some_iff.mp H
          obtain ⟨⟨t109, t110⟩, A50, H⟩ := H
          replace H : (if t110 = 0 then (if (wrap64 ((wrap64 (x6_1 + t109)) - 1)) = 0 then (some (wrap64 (x7_1 + 1), 0)) else (foretellref_endOf.l0 k1 l0 (wrap64 ((wrap64 (x6_1 + t109)) - 1)) (wrap64 (x7_1 + 1)))) else (some (0, t110))) = some (r1, r2) := H
          have A5 := Aside0.mk A50
          clear A50
          by_cases c6 : t110 = 0
          · rw [if_pos c6] at H
            have c6b0 : (t110 == 0) = true := beq_iff_eq.mpr c6
            have c6b1 : (t110 != 0) = false := bne_eq_false_iff_eq.mpr c6
            clear c6
            by_cases c7 : (wrap64 ((wrap64 (x6_1 + t109)) - 1)) = 0
            · rw [if_pos c7] at H
              have c7b0 : ((wrap64 ((wrap64 (x6_1 + t109)) - 1)) == 0) = true := beq_iff_eq.mpr c7
              have c7b1 : ((wrap64 ((wrap64 (x6_1 + t109)) - 1)) != 0) = false := bne_eq_false_iff_eq.mpr c7
              clear c7
              simp only [Option.some.injEq, Prod.mk.injEq] at H
              obtain ⟨rfl, rfl⟩ := H
              have p108 : 0 ≤ (x7_1 : Int) := of_decide_eq_true (by first | (with_reducible assumption) | assumption)
              have q108 : x7_1 < (l0.length : Int) := of_decide_eq_true (by first | (with_reducible assumption) | assumption)
              obtain ⟨ad108, e108, hx108_0, hx108_1⟩ := at_T63 HR0.out x7_1 p108 q108
              cases e108
              replace p108 := eq_true p108
              replace q108 := eq_true q108
              go_wp2_with (first | ((with_reducible refine gate_callee (f := 15) rfl ?_); refine goesL_ (some 23) rfl rfl Tryd.func15 (by kernel_rfl) rfl #[.int .i64 ((rd_T63 l0 x7_1).f0)] rfl (by (try simp only [List.map_toArray, List.map_cons, List.map_nil]); first | done | rfl | (simp only [List.length_drop, List.length_take]; rfl)) ?_; (with_reducible refine (foretellref_PartsOf.calls k1 ((rd_T63 l0 x7_1).f0) t109 t110 _ A5.out).mono ?_); rintro e w' ⟨rfl, ⟨nd, rfl⟩⟩; refine ⟨_, rfl, ?_⟩))
              go_ret2
              exact ⟨by first | rfl | (simp; done) | (simp [*]; done), by repeat (first | exact Drawn0.refl _ | apply Drawn0.step)⟩
            · rw [if_neg c7] at H
              have c7b0 : ((wrap64 ((wrap64 (x6_1 + t109)) - 1)) == 0) = false := beq_eq_false_iff_ne.mpr c7
              have c7b1 : ((wrap64 ((wrap64 (x6_1 + t109)) - 1)) != 0) = true := bne_iff_ne.mpr c7
              have H' := Aside0.mk H
              clear H
              have p108 : 0 ≤ (x7_1 : Int) := of_decide_eq_true (by first | (with_reducible assumption) | assumption)
              have q108 : x7_1 < (l0.length : Int) := of_decide_eq_true (by first | (with_reducible assumption) | assumption)
              obtain ⟨ad108, e108, hx108_0, hx108_1⟩ := at_T63 HR0.out x7_1 p108 q108
              cases e108
              replace p108 := eq_true p108
              replace q108 := eq_true q108
              go_wp2_with (first | ((with_reducible refine gate_callee (f := 15) rfl ?_); refine goesL_ (some 23) rfl rfl Tryd.func15 (by kernel_rfl) rfl #[.int .i64 ((rd_T63 l0 x7_1).f0)] rfl (by (try simp only [List.map_toArray, List.map_cons, List.map_nil]); first | done | rfl | (simp only [List.length_drop, List.length_take]; rfl)) ?_; (with_reducible refine (foretellref_PartsOf.calls k1 ((rd_T63 l0 x7_1).f0) t109 t110 _ A5.out).mono ?_); rintro e w' ⟨rfl, ⟨nd, rfl⟩⟩; refine ⟨_, rfl, ?_⟩))
              go_roundg k1
              case measure => have := HK1.out; omega
              case rel => exact ⟨(wrap64 ((wrap64 (x6_1 + t109)) - 1)), (wrap64 (x7_1 + 1)), (by first | rfl | (simp; done) | (simp [*]; done)), (by first | rfl | (simp; done) | (simp [*]; done)), H', ⟨by have := HK1.out; omega⟩, by repeat (first | exact Drawn0.refl _ | apply Drawn0.step)⟩
          · rw [if_neg c6] at H
            have c6b0 : (t110 == 0) = false := beq_eq_false_iff_ne.mpr c6
            have c6b1 : (t110 != 0) = true := bne_iff_ne.mpr c6
            simp only [Option.some.injEq, Prod.mk.injEq] at H
            obtain ⟨rfl, rfl⟩ := H
            have p108 : 0 ≤ (x7_1 : Int) := of_decide_eq_true (by first | (with_reducible assumption) | assumption)
            have q108 : x7_1 < (l0.length : Int) := of_decide_eq_true (by first | (with_reducible assumption) | assumption)
            obtain ⟨ad108, e108, hx108_0, hx108_1⟩ := at_T63 HR0.out x7_1 p108 q108
            cases e108
            replace p108 := eq_true p108
            replace q108 := eq_true q108
            go_wp2_with (first | ((with_reducible refine gate_callee (f := 15) rfl ?_); refine goesL_ (some 23) rfl rfl Tryd.func15 (by kernel_rfl) rfl #[.int .i64 ((rd_T63 l0 x7_1).f0)] rfl (by (try simp only [List.map_toArray, List.map_cons, List.map_nil]); first | done | rfl | (simp only [List.length_drop, List.length_take]; rfl)) ?_; (with_reducible refine (foretellref_PartsOf.calls k1 ((rd_T63 l0 x7_1).f0) t109 t110 _ A5.out).mono ?_); rintro e w' ⟨rfl, ⟨nd, rfl⟩⟩; refine ⟨_, rfl, ?_⟩))
            go_ret2
            exact ⟨by first | rfl | (simp; done) | (simp [*]; done), by repeat (first | exact Drawn0.refl _ | apply Drawn0.step)⟩
        · rw [if_neg c4] at H
          exact absurd H (by simp)
      · rw [if_neg c3] at H
        have c3b0 : decide (x7_1 < (l0.length : Int)) = false := decide_eq_false c3
        clear c3
        simp only [Option.some.injEq, Prod.mk.injEq] at H
        obtain ⟨rfl, rfl⟩ := H
        go_wp2
        go_ret2
        exact ⟨by first | rfl | (simp; done) | (simp [*]; done), by repeat (first | exact Drawn0.refl _ | apply Drawn0.step)⟩

end Go.Proofs.YtmlkkpkaaicobaaDoor.P
