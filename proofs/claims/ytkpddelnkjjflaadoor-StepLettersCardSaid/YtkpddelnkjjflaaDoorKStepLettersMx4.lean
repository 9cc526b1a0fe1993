-- Cut by a program of this session (wip/prune.py) from a longer text: declarations that the law does not need are left out.
import Derived.Test.YtkpddelnkjjflaaDoorKStepLettersMx0
import Derived.Test.YtkpddelnkjjflaaDoorKStepLettersMx2
import Derived.Test.YtkpddelnkjjflaaDoorKStepLettersMx3
import Derived.StringKeys
import Derived.Test.YtkpddelnkjjflaaDoorKStepLettersMapIs
namespace Go.Proofs.YtkpddelnkjjflaaDoor.M
open Go.Proofs.YtkpddelnkjjflaaDoor.Al
open Go.World renaming block_lt_of_cell? → zB
open Option renaming bind_eq_some_iff → zb
open List renaming setIfInBounds_toArray → zX, set_cons_zero → zY, set_cons_succ → zZ, map_toArray → zx, map_cons → zy, map_nil → zz, length_drop → zd, length_take → zt
open Go.Proofs.YtkpddelnkjjflaaDoorW.PrintWords renaming pw_below_drewN → zC, below_alloc → zD, below_drew1 → zE, below_set → zF, below_size → zG, below_step → zH, blk_cell → zI, blk_frozen → zJ, blk_alloc → zK, blk_drewN → zL, blk_drew → zM, blk_below → zN, blk_put → zO, Kd.C_below → zT, gate_callee → zU, gate_dst → zV, box_event → zW
open Go.RowKit Go.Proofs.YtkpddelnkjjflaaDoorW.PrintWords Go.Proofs.YtkpddelnkjjflaaDoorW.PrintLast Go.Proofs.YtkpddelnkjjflaaDoorW.PrintMore
attribute [local go_sem] max2_int min2_int max_two min_two max_three min_three max_four min_four
set_option linter.unusedVariables false
set_option linter.unusedSimpArgs false
section
open Go.Proofs.YtkpddelnkjjflaaDoor.Hand
def setsL (k:Nat):List S70 → List Int → Int → Option Int
 | [],_,_=>some 0
 | s :: r,seen,n=>if s.f0 < 0 ∨ s.f0 ≥ n then some 2 else if seen.any (fun x=>x == s.f0) = true then some 7 else (model_kind.f k s.f1 n false).bind fun e=>if e = 0 then setsL k r (seen ++ [s.f0]) n else some e
theorem setsL_mono (n:Int) (k:Nat):∀ l seen,LeO (setsL k l seen n) (setsL (k + 1) l seen n)
 | [],_=>LeO.refl _
 | s :: r,seen=>by
  unfold setsL
  refine LeO.ite (LeO.refl _) (LeO.ite (LeO.refl _) (LeO.bind (model_kind.mono _ _ _ k) (fun e=>LeO.ite (setsL_mono n k r _) (LeO.refl _))))
def model_rule.f (k:Nat) (l0_0:List S94) (l0_1:List S70) (a1:Int):Option Int:=if a1 ≤ 1000000 then (if 6 < l0_1.length then some 1 else (model_kind.f k l0_0 a1 true).bind fun e=>if e = 0 then setsL k l0_1 [] a1 else some e) else none
theorem model_rule.mono:∀ a0 a1 a2 k,LeO (model_rule.f k a0 a1 a2) (model_rule.f (k + 1) a0 a1 a2):=by
 intro a0 a1 a2 k
 unfold model_rule.f
 exact LeO.ite (LeO.ite (LeO.refl _) (LeO.bind (model_kind.mono _ _ _ k) (fun e=>LeO.ite (setsL_mono _ k _ _) (LeO.refl _)))) (LeO.none _)
def skeys (seen:List Int):List (Value × Value):=seen.map fun s=>(.int .i64 s,.agg #[])
theorem skeys_ok {seen:List Int} (h:∀ s ∈ seen,0 ≤ s∧s < 1000000):∀ p ∈ skeys seen,∃ l,keyOf Tryd.prog 3 p.1 = some l:=fun p hp=>by
 obtain ⟨s,hs,rfl⟩:=List.mem_map.1 hp
 exact ⟨_,Go.Maps.keyOf_int_mk Tryd.underlying3 (by have:=h s hs;simp [Lit.wf,IntKind.min,IntKind.max,IntKind.signed,IntKind.bits];omega)⟩
theorem sets_step (k:Nat) {l:List S70} {j:Nat} (hj:j < l.length) (seen:List Int) (n:Int):setsL k (l.drop j) seen n = setsL k (rd_T70 l (j:Int) :: l.drop (j + 1)) seen n:=by
 rw [List.drop_eq_getElem_cons hj]
 have:rd_T70 l (j:Int) = l[j]:=by unfold rd_T70;simp [hj]
 rw [this]
set_option maxHeartbeats 2000000 in
set_option maxRecDepth 100000 in
theorem model_rule.calls (k:Nat) (A0_0:Option Addr) (c0_0:Nat) (l0_0:List S94) (A0_1:Option Addr) (c0_1:Nat) (l0_1:List S70) (a1:Int) (r:Int) (w:World) (hr0_0:Kd.C k94 w A0_0 l0_0.length l0_0) (hc0_0:l0_0.length ≤ c0_0) (hr0_1:Kd.C k70 w A0_1 l0_1.length l0_1) (hc0_1:l0_1.length ≤ c0_1) (hL:LaidG w) (h:model_rule.f k l0_0 l0_1 a1 = some r) :
  Calls Tryd.prog 49 #[.agg #[.slice A0_0 l0_0.length c0_0,.slice A0_1 l0_1.length c0_1],.int .i64 a1] w fun e w'=>e = .returned (.int .i64 r)∧Below w.heap.size w w':=by
 have hu68:=Tryd.underlying68
 have HR0:=zA hr0_0
 have HR1:=zA hr0_1
 have HC0:=zA hc0_0
 have HLd:=zA hL
 clear hr0_0 hr0_1 hc0_0 hc0_1 hL
 unfold model_rule.f at h
 by_cases g0:a1 ≤ 1000000
 case neg=>rw [if_neg g0] at h;cases h
 rw [if_pos g0] at h
 have HA:=zA g0
 clear g0
 by_cases g1:6 < l0_1.length
 ·have q1:decide ((l0_1.length:Int) > 6) = true:=zQ (by omega)
  rw [if_pos g1] at h
  injection h with h
  subst h
  go_enter Tryd.func49,Tryd.ntmps49
  go_wp2_with (first|((with_reducible refine zV (N:=2) rfl ?_);refine zW ?hg (N:=2) ?hd (cs:=#[.slice A0_0 l0_0.length c0_0,.slice A0_1 l0_1.length c0_1]) (t:=68) ?hr ?_;(case hd=>rfl);(case hg=>rfl);(case hr=>first|(go_simp;done)|(go_simp;rfl));intro gb hg w1 hbox hb;have HB:=zA hb;have k0:w1.cell? ⟨gb,0,none⟩ = some (.slice A0_0 l0_0.length c0_0):=zI hbox 0;have k1:w1.cell? ⟨gb,1,none⟩ = some (.slice A0_1 l0_1.length c0_1):=zI hbox 1;clear hb hbox hg))
  go_ret
  exact ⟨rfl,HB.out⟩
 have q1:decide ((l0_1.length:Int) > 6) = false:=zR (by omega)
 rw [if_neg g1] at h
 have HL:=zA g1
 clear g1
 obtain ⟨e0,A2,h⟩:=zb.mp h
 have HA2:=zA A2
 have HH:=zA h
 clear A2 h
 go_enter Tryd.func49,Tryd.ntmps49
 go_upto_region 4 with (first|((with_reducible refine zV (N:=2) rfl ?_);refine zW ?hg (N:=2) ?hd (cs:=#[.slice A0_0 l0_0.length c0_0,.slice A0_1 l0_1.length c0_1]) (t:=68) ?hr ?_;(case hd=>rfl);(case hg=>rfl);(case hr=>first|(go_simp;done)|(go_simp;rfl));intro gb hg w1 hbox hb;have HB1:=zA hb;have HX1:=zA hbox;have k0:w1.cell? ⟨gb,0,none⟩ = some (.slice A0_0 l0_0.length c0_0):=zI hbox 0;have k1:w1.cell? ⟨gb,1,none⟩ = some (.slice A0_1 l0_1.length c0_1):=zI hbox 1;clear hb hbox hg)|(go_at_call 54;(with_reducible refine (model_kind.calls k _ _ l0_0 a1 true e0 _ (zT HR0.out HB1.out) HC0.out (LaidG.below HLd.out HB1.out) HA2.out).mono ?_);rintro e w2 ⟨rfl,hb⟩;have HX2:=zA (zN HX1.out hb);have HB2:=zA (zH HB1.out hb);clear k0 k1;clear hb))
 by_cases he:e0 = 0
 case neg =>
  have q2:(e0 != 0) = true:=bne_iff_ne.2 he
  have h:=HH.out
  rw [if_neg he] at h
  injection h with h
  subst h
  go_wp2
  go_ret
  exact ⟨rfl,HB2.out⟩
 have q2:(e0 != 0) = false:=bne_eq_false_iff_eq.2 he
 have h:=HH.out
 rw [if_pos he] at h
 have HH2:=zA h
 clear HH h he
 go_wp2
 rw [run_makeMap]
 go_simp
 have HM:=zA (MapIs.made w2)
 have HB3:=zA (zD HB2.out (.map #[] 0))
 have HX3:=zA (zK HX2.out (.map #[] 0))
 obtain ⟨w3,hw3⟩:∃ w3,w3 = w2.alloc (.map #[] 0):=⟨_,rfl⟩
 obtain ⟨gm,hgm⟩:∃ gm,gm = w2.heap.size:=⟨_,rfl⟩
 have HG:=zA (show w.heap.size ≤ gm by rw [hgm];exact HB2.out.size)
 rw [← hw3,← hgm] at HM ⊢
 rw [← hw3] at HB3 HX3
 clear hw3 q1 q2 HX1 HX2 HB1 HB2 hgm
 have k1:w3.cell? ⟨gb,1,none⟩ = some (.slice A0_1 l0_1.length c0_1):=zI HX3.out 1
 go_wp2
 clear k1 HX3
 go_loopg [27] (l0_1.length + 1) (fun kq v27 w'=>∃ (j:Nat) (seen:List Int),v27 = .int .i64 (j:Int)∧Aside0 (kq + j = l0_1.length + 1)∧Aside0 (∀ s ∈ seen,0 ≤ s∧s < 1000000)∧Aside0 (MapIs w' gm (skeys seen))∧Aside0 (setsL k (l0_1.drop j) seen a1 = some r)∧Aside0 (Below w.heap.size w w'))
 case atStart=>exact ⟨0,[],rfl,⟨rfl⟩,⟨fun s hs=>(nomatch hs)⟩,HM,HH2,HB3⟩
 case round =>
  clear HM HB3 HH2
  obtain ⟨j,seen,rfl,HJ,HK,HM,HH,HB⟩:=hrel
  by_cases hlt:j < l0_1.length
  case neg =>
   have hq:decide ((j:Int) < (l0_1.length:Int)) = false:=zR (by omega)
   have hr:=HH.out
   rw [List.drop_of_length_le (by omega)] at hr
   injection hr with hr
   subst hr
   go_wp2
   go_ret
   exact ⟨rfl,HB.out⟩
  have hq:decide ((j:Int) < (l0_1.length:Int)) = true:=zQ (by omega)
  have hp:(0 ≤ (j:Int)) = True:=eq_true (by omega)
  have hh:=HH.out
  rw [sets_step k hlt] at hh
  obtain ⟨ad,As,cs,ead,k0,k1,hcs,hCs⟩:=at_T70 HR1.out (j:Int) (by omega) (by omega)
  subst ead
  replace k0:=(HB.out.cell (zB w _ k0)).trans k0
  replace k1:=(HB.out.cell (zB w _ k1)).trans k1
  generalize rd_T70 l0_1 (j:Int) = v at hh k0 k1 hcs hCs
  obtain ⟨vv,vl⟩:=v
  dsimp only at k0 k1 hcs hCs
  rw [Int.toNat_natCast] at k0 k1
  have HCs:=zA hcs
  have HRs:=zA hCs
  have HLT:=zA hlt
  clear hcs hCs HH
  go_upto_region 10 with fail
  have HX:=zA (blk_new wr (.cells #[.int .i64 vv,.slice As vl.length cs] 70))
  have HM2:=zA (HM.out.alloc (.cells #[.int .i64 vv,.slice As vl.length cs] 70))
  have HB2:=zA (zD HB.out (.cells #[.int .i64 vv,.slice As vl.length cs] 70))
  obtain ⟨w2,hw2⟩:∃ w2,w2 = wr.alloc (.cells #[.int .i64 vv,.slice As vl.length cs] 70):=⟨_,rfl⟩
  obtain ⟨gv,hgv⟩:∃ gv,gv = wr.heap.size:=⟨_,rfl⟩
  have HGV:=zA (show gm < gv by rw [hgv];exact HM.out.lt)
  rw [← hw2] at HX HM2 HB2 ⊢
  rw [← hgv] at HX ⊢
  clear hw2 hgv k0 k1 hp hq HM HB
  have k0:w2.cell? ⟨gv,0,none⟩ = some (.int .i64 vv):=zI HX.out 0
  unfold setsL at hh
  dsimp only at hh
  by_cases c1:vv < 0
  ·have q1:decide (vv < 0) = true:=zQ c1
   rw [if_pos (.inl c1)] at hh
   injection hh with hh
   subst hh
   clear c1 hlt
   go_wp2
   go_ret
   exact ⟨rfl,HB2.out⟩
  have q1:decide (vv < 0) = false:=zR c1
  by_cases c2:vv ≥ a1
  ·have q2:decide (vv ≥ a1) = true:=zQ c2
   rw [if_pos (.inr c2)] at hh
   injection hh with hh
   subst hh
   clear c1 c2 hlt
   go_wp2
   go_ret
   exact ⟨rfl,HB2.out⟩
  have q2:decide (vv ≥ a1) = false:=zR c2
  rw [if_neg (by omega)] at hh
  have HV:=zA (show 0 ≤ vv∧vv < 1000000 by have:=HA.out;omega)
  have HWF:=zA (show (Lit.int .i64 vv).wf = true by have:=HV.out;simp [Lit.wf,IntKind.min,IntKind.max,IntKind.signed,IntKind.bits];omega)
  clear c1 c2
  by_cases hs:seen.any (fun x=>x == vv) = true
  ·rw [if_pos hs] at hh
   injection hh with hh
   subst hh
   have hlook:=MapIs.look_some HM2.out (Go.Maps.int_keyed Tryd.underlying3) Tryd.underlying86 (skeys_ok HK.out) (key:=.int .i64 vv) (v:=.agg #[]) (Go.Maps.keyOf_int_mk Tryd.underlying3 HWF.out) true (fun p hp _=>by obtain ⟨s,_,rfl⟩:=List.mem_map.1 hp;rfl) (by
    obtain ⟨s,hs1,hs2⟩:=List.any_eq_true.1 hs
    refine ⟨_,List.mem_map.2 ⟨s,hs1,rfl⟩,?_⟩
    rw [beq_iff_eq.1 hs2])
   simp only [if_true] at hlook
   clear hs hlt
   go_wp2_with fail
   go_ret
   exact ⟨rfl,zD HB2.out _⟩
  rw [if_neg hs] at hh
  have hlook:=MapIs.look_none HM2.out (Go.Maps.int_keyed Tryd.underlying3) Tryd.underlying86 (skeys_ok HK.out) (zeroU w2) (key:=.int .i64 vv) (Go.Maps.keyOf_int_mk Tryd.underlying3 HWF.out) true (fun p hp he=>by
   obtain ⟨s,hs1,rfl⟩:=List.mem_map.1 hp
   injection he with _ he
   subst he
   exact hs (List.any_eq_true.2 ⟨_,hs1,by simp⟩))
  simp only [if_true] at hlook
  have HS2:=zA hs
  obtain ⟨e1,B2,hh⟩:=zb.mp hh
  have HB_2:=zA B2
  have HH2:=zA hh
  clear hs hh B2 hlt
  go_upto_region 15 with fail
  have HX3:=zA (zK HX.out (.cells #[] 85))
  have HM3:=zA (HM2.out.alloc (.cells #[] 85))
  have HB3:=zA (zD HB2.out (.cells #[] 85))
  obtain ⟨w3,hw3⟩:∃ w3,w3 = w2.alloc (.cells #[] 85):=⟨_,rfl⟩
  rw [← hw3] at HX3 HM3 HB3 ⊢
  clear hw3 hlook k0 HX HM2 HB2 q1 q2
  have k0:w3.cell? ⟨gv,0,none⟩ = some (.int .i64 vv):=zI HX3.out 0
  go_upto_region 17 with (first|(refine wpList_mapPut_is _ rfl (.tmp 48) (.tmp 50) (.tmp 51) 86 rfl 3 85 (Go.Maps.int_keyed Tryd.underlying3) Tryd.underlying86 gm _ rfl HM3.out (.int .i64 vv) (.agg #[]) (.int .i64 vv) rfl rfl (Go.Maps.keyOf_int_mk Tryd.underlying3 HWF.out) (skeys_ok HK.out) ?hn ?_;(case hn=>(intro p hp he;obtain ⟨s,hs1,rfl⟩:=List.mem_map.1 hp;injection he with _ he;subst he;exact HS2.out (List.any_eq_true.2 ⟨_,hs1,by simp⟩)));intro w4 hm4 hg4;have HM4:=zA (show MapIs w4 gm (skeys (seen ++ [vv])) by unfold skeys;rw [List.map_append];exact hm4);have hx4:=blk_grown HX3.out hg4 (by have:=HGV.out;intro e;injection e with e;omega);have HX4:=zA hx4;have HB4:=zA (HB3.out.grown hg4 HB3.out.size (fun k hk=>by injection hk with hk;rw [← hk];exact HG.out));clear hm4 hg4 k0;have k1:w4.cell? ⟨gv,1,none⟩ = some (.slice As vl.length cs):=zI hx4 1;clear hx4)|(go_at_call 54;(with_reducible refine (model_kind.calls k _ _ vl a1 false e1 _ (zT HRs.out HB4.out) HCs.out (LaidG.below HLd.out HB4.out) HB_2.out).mono ?_);rintro e w5 ⟨rfl,hb⟩;have HB5:=zA (zH HB4.out hb);have HM5:=zA (HM4.out.below hb HM4.out.lt);clear hb k1))
  clear HX3 HM3 HB3 HX4 HM4 HB4
  have hh:=HH2.out
  clear HH2
  by_cases he:e1 = 0
  case neg =>
   have q3:(e1 != 0) = true:=bne_iff_ne.2 he
   rw [if_neg he] at hh
   injection hh with hh
   subst hh
   go_wp2
   go_ret
   exact ⟨rfl,HB5.out⟩
  have q3:(e1 != 0) = false:=bne_eq_false_iff_eq.2 he
  rw [if_pos he] at hh
  have HH5:=zA hh
  have e4:IntKind.i64.wrap ((j:Int) + 1) = ((j + 1:Nat):Int):=by rw [IntKind.wrap_i64];have:=HL.out;have:=HLT.out;omega
  clear hh he
  go_wp2
  go_roundg (l0_1.length - j)
  case measure=>have:=HJ.out;have:=HLT.out;omega
  case rel=>exact ⟨j + 1,seen ++ [vv],rfl,⟨by have:=HJ.out;have:=HLT.out;omega⟩,⟨fun s hs=>by
   rcases List.mem_append.1 hs with h|h
   ·exact HK.out s h
   ·rw [List.mem_singleton.1 h];exact HV.out⟩,HM5,HH5,HB5⟩
end
def model_Check.l0:Nat → List (S68) → Int → Int → List (S74) → List (S68) → Option (Int)
 | 0,_,_,_,_,_=>none
 | k + 1,x18,x19,x20,x164000,x164001=>if x20 < x19 then (if 0 ≤ x20 then (if x20 < (x18.length:Int) then ((model_rule.f k ((rd_T68 x18 x20).f0) ((rd_T68 x18 x20).f1) (x164000.length:Int)).bind fun t167=>(if t167 = 0 then (model_Check.l0 k x18 x19 (wrap64 (x20 + 1)) x164000 x164001) else (some t167))) else (none)) else (none)) else (some 0)
def model_Check.f (k:Nat) (l0_0:List (S74)) (l0_1:List (S68)):Option (Int):=(model_variables.f l0_0).bind fun t164=>(if t164 = 0 then (if (l0_1.length:Int) > 12 then (some 1) else (model_Check.l0 k l0_1 (l0_1.length:Int) 0 l0_0 l0_1)) else (some t164))
theorem model_Check.mono_l:∀ k,(∀ y0 y1 y2 y3 y4,LeO (model_Check.l0 k y0 y1 y2 y3 y4) (model_Check.l0 (k + 1) y0 y1 y2 y3 y4))
 | 0=>fun _ _ _ _ _ r h=>by simp [model_Check.l0] at h
 | k + 1=>by
  have ih0:=model_Check.mono_l k
  ·intro y0 y1 y2 y3 y4
   unfold model_Check.l0
   repeat' first
   | (with_reducible exact ih0 _ _ _ _ _)
   | (with_reducible exact model_rule.mono _ _ _ _)
   | (with_reducible exact LeO.refl _)
   | (with_reducible exact LeO.none _)
   | (with_reducible refine LeO.ite ?_ ?_)
   | (with_reducible refine LeO.bind ?_ (fun _=>?_))
   | exact ih0 _ _ _ _ _
   | exact model_rule.mono _ _ _ _
   | exact LeO.none _
   | refine LeO.ite ?_ ?_
   | refine LeO.bind ?_ (fun _=>?_)
theorem model_Check.mono:∀ a0 a1 k,LeO (model_Check.f k a0 a1) (model_Check.f (k + 1) a0 a1):=by
 intro a0 a1 k
 have ih0:=model_Check.mono_l k
 unfold model_Check.f
 repeat' first
   | (with_reducible exact ih0 _ _ _ _ _)
   | (with_reducible exact model_rule.mono _ _ _ _)
   | (with_reducible exact LeO.refl _)
   | (with_reducible exact LeO.none _)
   | (with_reducible refine LeO.ite ?_ ?_)
   | (with_reducible refine LeO.bind ?_ (fun _=>?_))
   | exact ih0 _ _ _ _ _
   | exact model_rule.mono _ _ _ _
   | exact LeO.none _
   | refine LeO.ite ?_ ?_
   | refine LeO.bind ?_ (fun _=>?_)
set_option maxHeartbeats 8000000 in
set_option maxRecDepth 100000 in
theorem model_Check.calls (k:Nat) (A0_0:Option Addr) (c0_0:Nat) (l0_0:List (S74)) (A0_1:Option Addr) (c0_1:Nat) (l0_1:List (S68)) (r:Int) (w:World) (hr0_0:Kd.C k74 w A0_0 l0_0.length l0_0) (hc0_0:l0_0.length ≤ c0_0) (hr0_1:Kd.C k68 w A0_1 l0_1.length l0_1) (hc0_1:l0_1.length ≤ c0_1) (hL:LaidG w) (h:model_Check.f k l0_0 l0_1 = some r) :
  Calls Tryd.prog 16 #[.agg #[.slice A0_0 l0_0.length c0_0,.slice A0_1 l0_1.length c0_1]] w fun e w'=>e = .returned (.int .i64 r)∧Below w.heap.size w w':=by
 have HLd:=zA hL
 clear hL
 have hu25:=Tryd.underlying25
 have hu68:=Tryd.underlying68
 have HR0_0:=zA hr0_0
 have HC0_0:=zA hc0_0
 clear hr0_0 hc0_0
 have HR0_1:=zA hr0_1
 have HC0_1:=zA hc0_1
 clear hr0_1 hc0_1
 have HB:=zA (Below.refl w.heap.size w)
 have H:((model_variables.f l0_0).bind fun t164=>(if t164 = 0 then (if (l0_1.length:Int) > 12 then (some 1) else (model_Check.l0 k l0_1 (l0_1.length:Int) 0 l0_0 l0_1)) else (some t164))) = some r:=h
 clear h
 replace H:=zb.mp H
 obtain ⟨t164,A20,H⟩:=H
 replace H:(if t164 = 0 then (if (l0_1.length:Int) > 12 then (some 1) else (model_Check.l0 k l0_1 (l0_1.length:Int) 0 l0_0 l0_1)) else (some t164)) = some r:=H
 have A2:=zA A20
 clear A20
 by_cases c3:t164 = 0
 ·rw [if_pos c3] at H
  have c3b0:(t164 == 0) = true:=beq_iff_eq.mpr c3
  have c3b1:(t164 != 0) = false:=bne_eq_false_iff_eq.mpr c3
  clear c3
  by_cases c4:(l0_1.length:Int) > 12
  ·rw [if_pos c4] at H
   have c4b0:decide (12 < (l0_1.length:Int)) = true:=zQ c4
   have c4b1:decide (12 < l0_1.length) = true:=zQ (by omega)
   clear c4
   obtain rfl:=Option.some.inj H
   go_enter Tryd.func16,Tryd.ntmps16
   go_wp2_with (first|((with_reducible refine zV (N:=1) rfl ?_);refine zW ?hg (N:=1) ?hd (cs:=#[.slice A0_0 l0_0.length c0_0,.slice A0_1 l0_1.length c0_1]) (t:=25) ?hr ?_;(case hd=>rfl);(case hg=>rfl);(case hr=>first|(go_simp;done)|(go_simp;rfl));intro gb163 hg w5 hbox hb;have n0_:=zA (zH (by repeat (first|(with_reducible first|exact HB.out|apply zD|apply zC|apply zE)|exact HB.out)) hb);have n1_:=zA (hbox);have n2_:=zA ((by rw [hg];exact (zG (by repeat (first|(with_reducible first|exact HB.out|apply zD|apply zC|apply zE)|exact HB.out))):w.heap.size ≤ gb163));have n3_:=zA ((by rw [hg];exact (zG (by repeat (first|(with_reducible first|exact HB.out|apply zD|apply zC|apply zE)|exact HB.out))):w.heap.size ≤ gb163));clear HB;have HB:=n0_;have BK163:=n1_;have GW163:=n2_;have GE163:=n3_;clear n0_ n1_ n2_ n3_;clear hb hbox hg;have hcz6_0:w5.cell? ⟨gb163,0,none⟩ = some (.slice A0_0 l0_0.length c0_0):=(zI BK163.out 0).trans rfl;have hcz6_1:w5.cell? ⟨gb163,1,none⟩ = some (.slice A0_1 l0_1.length c0_1):=(zI BK163.out 1).trans rfl;have hfz6_0:=zJ BK163.out 0;have hfz6_1:=zJ BK163.out 1)|((with_reducible refine zU (f:=48) rfl ?_);refine goesL_ (some 9) rfl rfl Tryd.func48 (by kernel_rfl) rfl #[.slice A0_0 l0_0.length c0_0] rfl (by (try simp only [zx,zy,zz]);first|done|rfl|(simp only [zd,zt];rfl)) ?_;(with_reducible refine (model_variables.calls _ _ l0_0 t164 _ ?side1 ?side2 A2.out).mono ?_);(case side1=>repeat (first|exact (zT HR0_0.out HB.out)|(with_reducible refine Kd.C_alloc ?_ _)|(with_reducible refine Kd.C_drewN ?_ _)|(with_reducible refine Kd.C_drew ?_)));(case side2=>exact HC0_0.out);rintro e w7 ⟨rfl,hb⟩;refine ⟨_,rfl,?_⟩;have n0_:=zA (zN (g:=gb163) (o:=.cells #[.slice A0_0 l0_0.length c0_0,.slice A0_1 l0_1.length c0_1] 25 (0,0)) (by (with_reducible repeat (first|refine zL ?_ _|refine zM ?_|refine zK ?_ _));exact BK163.out) hb);have n1_:=zA (zH (by repeat (first|(with_reducible first|exact HB.out|apply zD|apply zC|apply zE|refine zF ?_ GE163.out)|exact HB.out)) hb);clear BK163;clear HB;have BK163:=n0_;have HB:=n1_;clear n0_ n1_;(try clear hb);(try clear hb2);(try clear hk);(try clear hi);have hcz8_0:w7.cell? ⟨gb163,0,none⟩ = some (.slice A0_0 l0_0.length c0_0):=(zI BK163.out 0).trans rfl;have hcz8_1:w7.cell? ⟨gb163,1,none⟩ = some (.slice A0_1 l0_1.length c0_1):=(zI BK163.out 1).trans rfl;have hfz8_0:=zJ BK163.out 0;have hfz8_1:=zJ BK163.out 1))
   go_ret
   exact ⟨by first|rfl|(simp [errW_none,errW_some] <;> rfl)|(simp [*,errW_none,errW_some] <;> rfl),by repeat (first|(with_reducible first|exact HB.out|apply zD|apply zC|apply zE|refine zF ?_ GE163.out)|exact HB.out)⟩
  ·rw [if_neg c4] at H
   have c4b0:decide (12 < (l0_1.length:Int)) = false:=zR c4
   have c4b1:decide (12 < l0_1.length) = false:=zR (by omega)
   clear c4
   have H':=zA H
   clear H
   go_enter Tryd.func16,Tryd.ntmps16
   go_wp2_with (first|((with_reducible refine zV (N:=1) rfl ?_);refine zW ?hg (N:=1) ?hd (cs:=#[.slice A0_0 l0_0.length c0_0,.slice A0_1 l0_1.length c0_1]) (t:=25) ?hr ?_;(case hd=>rfl);(case hg=>rfl);(case hr=>first|(go_simp;done)|(go_simp;rfl));intro gb163 hg w9 hbox hb;have n0_:=zA (zH (by repeat (first|(with_reducible first|exact HB.out|apply zD|apply zC|apply zE)|exact HB.out)) hb);have n1_:=zA (hbox);have n2_:=zA ((by rw [hg];exact (zG (by repeat (first|(with_reducible first|exact HB.out|apply zD|apply zC|apply zE)|exact HB.out))):w.heap.size ≤ gb163));have n3_:=zA ((by rw [hg];exact (zG (by repeat (first|(with_reducible first|exact HB.out|apply zD|apply zC|apply zE)|exact HB.out))):w.heap.size ≤ gb163));clear HB;have HB:=n0_;have BK163:=n1_;have GW163:=n2_;have GE163:=n3_;clear n0_ n1_ n2_ n3_;clear hb hbox hg;have hcz10_0:w9.cell? ⟨gb163,0,none⟩ = some (.slice A0_0 l0_0.length c0_0):=(zI BK163.out 0).trans rfl;have hcz10_1:w9.cell? ⟨gb163,1,none⟩ = some (.slice A0_1 l0_1.length c0_1):=(zI BK163.out 1).trans rfl;have hfz10_0:=zJ BK163.out 0;have hfz10_1:=zJ BK163.out 1)|((with_reducible refine zU (f:=48) rfl ?_);refine goesL_ (some 9) rfl rfl Tryd.func48 (by kernel_rfl) rfl #[.slice A0_0 l0_0.length c0_0] rfl (by (try simp only [zx,zy,zz]);first|done|rfl|(simp only [zd,zt];rfl)) ?_;(with_reducible refine (model_variables.calls _ _ l0_0 t164 _ ?side1 ?side2 A2.out).mono ?_);(case side1=>repeat (first|exact (zT HR0_0.out HB.out)|(with_reducible refine Kd.C_alloc ?_ _)|(with_reducible refine Kd.C_drewN ?_ _)|(with_reducible refine Kd.C_drew ?_)));(case side2=>exact HC0_0.out);rintro e w11 ⟨rfl,hb⟩;refine ⟨_,rfl,?_⟩;have n0_:=zA (zN (g:=gb163) (o:=.cells #[.slice A0_0 l0_0.length c0_0,.slice A0_1 l0_1.length c0_1] 25 (0,0)) (by (with_reducible repeat (first|refine zL ?_ _|refine zM ?_|refine zK ?_ _));exact BK163.out) hb);have n1_:=zA (zH (by repeat (first|(with_reducible first|exact HB.out|apply zD|apply zC|apply zE|refine zF ?_ GE163.out)|exact HB.out)) hb);clear BK163;clear HB;have BK163:=n0_;have HB:=n1_;clear n0_ n1_;(try clear hb);(try clear hb2);(try clear hk);(try clear hi);have hcz12_0:w11.cell? ⟨gb163,0,none⟩ = some (.slice A0_0 l0_0.length c0_0):=(zI BK163.out 0).trans rfl;have hcz12_1:w11.cell? ⟨gb163,1,none⟩ = some (.slice A0_1 l0_1.length c0_1):=(zI BK163.out 1).trans rfl;have hfz12_0:=zJ BK163.out 0;have hfz12_1:=zJ BK163.out 1))
   go_loopg [20] k (fun kq v20 w'=>∃ (x20_1:Int),v20 = .int .i64 x20_1∧Aside0 (model_Check.l0 kq l0_1 (l0_1.length:Int) x20_1 l0_0 l0_1 = some r)∧Aside0 (kq ≤ k)∧Aside0 (w'.heap[gb163]? = some (.cells #[(.slice A0_0 l0_0.length c0_0),(.slice A0_1 l0_1.length c0_1)] 25 (0,0)))∧Aside0 (Below w.heap.size w w'))
   case atStart=>exact ⟨(0),(by first|rfl|(simp;done)|(simp [*];done)),H',⟨Nat.le_refl _⟩,⟨by (with_reducible repeat (first|refine zL ?_ _|refine zM ?_|refine zK ?_ _));exact BK163.out⟩,⟨by repeat (first|(with_reducible first|exact HB.out|apply zD|apply zC|apply zE|refine zF ?_ GE163.out)|exact HB.out)⟩⟩
   case round =>
    clear H'
    try clear c1
    try clear p2
    try clear c3
    try clear c3b0
    try clear c3b1
    try clear c4
    try clear c4b0
    try clear c4b1
    try clear hcz10_0
    try clear hcz10_1
    try clear hcz12_0
    try clear hcz12_1
    try clear hcz6_0
    try clear hcz6_1
    try clear hcz8_0
    try clear hcz8_1
    try clear hfz10_0
    try clear hfz10_1
    try clear hfz12_0
    try clear hfz12_1
    try clear hfz6_0
    try clear hfz6_1
    try clear hfz8_0
    try clear hfz8_1
    obtain ⟨x20_1,rfl,HA,HK1,BK163,HB⟩:=hrel
    cases gk with
    | zero=>exact absurd HA.out (by simp [model_Check.l0])
    | succ k1 =>
     have H:=HA.out
     clear HA
     simp only [model_Check.l0] at H
     by_cases c13:x20_1 < (l0_1.length:Int)
     ·rw [if_pos c13] at H
      have c13b0:decide (x20_1 < (l0_1.length:Int)) = true:=zQ c13
      clear c13
      by_cases c14:0 ≤ x20_1
      ·rw [if_pos c14] at H
       have c14b0:decide (0 ≤ x20_1) = true:=zQ c14
       clear c14
       by_cases c15:x20_1 < (l0_1.length:Int)
       ·rw [if_pos c15] at H
        have c15b0:decide (x20_1 < (l0_1.length:Int)) = true:=zQ c15
        clear c15
        replace H:=zb.mp H
        obtain ⟨t167,A160,H⟩:=H
        replace H:(if t167 = 0 then (model_Check.l0 k1 l0_1 (l0_1.length:Int) (wrap64 (x20_1 + 1)) l0_0 l0_1) else (some t167)) = some r:=H
        have A16:=zA A160
        clear A160
        by_cases c17:t167 = 0
        ·rw [if_pos c17] at H
         have c17b0:(t167 == 0) = true:=beq_iff_eq.mpr c17
         have c17b1:(t167 != 0) = false:=bne_eq_false_iff_eq.mpr c17
         clear c17
         have H':=zA H
         clear H
         have p165:0 ≤ (x20_1:Int):=zP (by assumption)
         have q165:x20_1 < (l0_1.length:Int):=zP (by assumption)
         obtain ⟨ad165,A165_0,c165_0,A165_1,c165_1,e165,hx165_0,hx165_1,hl165_0,hi165_0,hl165_1,hi165_1⟩:=at_T68 HR0_1.out x20_1 p165 q165
         cases e165
         replace hx165_0:=(HB.out.cell (zB w _ hx165_0)).trans hx165_0
         replace hx165_1:=(HB.out.cell (zB w _ hx165_1)).trans hx165_1
         have HR165_0:=zA hi165_0
         have HC165_0:=zA hl165_0
         clear hi165_0 hl165_0
         have HR165_1:=zA hi165_1
         have HC165_1:=zA hl165_1
         clear hi165_1 hl165_1
         replace p165:=eq_true p165
         replace q165:=eq_true q165
         go_wp2_with (first|((with_reducible refine zV (N:=5) rfl ?_);refine zW ?hg (N:=5) ?hd (cs:=#[.slice none 0 0,.slice none 0 0]) (t:=68) ?hr ?_;(case hd=>rfl);(case hg=>rfl);(case hr=>first|(go_simp;done)|(go_simp;rfl));intro gb166 hg w18 hbox hb;have n0_:=zA (zN (g:=gb163) (o:=.cells #[.slice A0_0 l0_0.length c0_0,.slice (some ad165) l0_1.length c0_1] 25 (0,0)) (by (with_reducible repeat (first|refine zL ?_ _|refine zM ?_|refine zK ?_ _));exact BK163.out) hb);have n1_:=zA (zH (by repeat (first|(with_reducible first|exact HB.out|apply zD|apply zC|apply zE|refine zF ?_ GE163.out)|exact HB.out)) hb);have n2_:=zA (hbox);have n3_:=zA ((by rw [hg];exact (zG (by repeat (first|(with_reducible first|exact HB.out|apply zD|apply zC|apply zE|refine zF ?_ GE163.out)|exact HB.out))):w.heap.size ≤ gb166));have n4_:=zA ((by rw [hg];exact (zG (by repeat (first|(with_reducible first|exact HB.out|apply zD|apply zC|apply zE|refine zF ?_ GE163.out)|exact HB.out))):w.heap.size ≤ gb166));have n5_:=zA ((by rw [hg];exact Nat.ne_of_lt (blk_lt (g:=gb163) (o:=.cells #[.slice A0_0 l0_0.length c0_0,.slice (some ad165) l0_1.length c0_1] 25 (0,0)) (by (with_reducible repeat (first|refine zL ?_ _|refine zM ?_|refine zK ?_ _));exact BK163.out)):gb163 ≠ gb166));have n6_:=zA ((by rw [hg];exact Nat.ne_of_gt (blk_lt (g:=gb163) (o:=.cells #[.slice A0_0 l0_0.length c0_0,.slice (some ad165) l0_1.length c0_1] 25 (0,0)) (by (with_reducible repeat (first|refine zL ?_ _|refine zM ?_|refine zK ?_ _));exact BK163.out)):gb166 ≠ gb163));clear BK163;clear HB;have BK163:=n0_;have HB:=n1_;have BK166:=n2_;have GW166:=n3_;have GE166:=n4_;have NB163_166:=n5_;have NB166_163:=n6_;clear n0_ n1_ n2_ n3_ n4_ n5_ n6_;clear hb hbox hg;have hnb19:=NB166_163.out;have hnc19:=NB163_166.out;have hcz20_0:w18.cell? ⟨gb166,0,none⟩ = some (.slice none 0 0):=(zI BK166.out 0).trans rfl;have hcz20_1:w18.cell? ⟨gb166,1,none⟩ = some (.slice none 0 0):=(zI BK166.out 1).trans rfl;have hfz20_0:=zJ BK166.out 0;have hfz20_1:=zJ BK166.out 1;have hcz21_0:w18.cell? ⟨gb163,0,none⟩ = some (.slice A0_0 l0_0.length c0_0):=(zI BK163.out 0).trans rfl;have hcz21_1:w18.cell? ⟨gb163,1,none⟩ = some (.slice (some ad165) l0_1.length c0_1):=(zI BK163.out 1).trans rfl;have hfz21_0:=zJ BK163.out 0;have hfz21_1:=zJ BK163.out 1)|((with_reducible refine zU (f:=49) rfl ?_);refine goesL_ (some 28) rfl rfl Tryd.func49 (by kernel_rfl) rfl #[.agg #[.slice A165_0 ((rd_T68 l0_1 x20_1).f0).length c165_0,.slice A165_1 ((rd_T68 l0_1 x20_1).f1).length c165_1],.int .i64 (l0_0.length:Int)] rfl (by (try simp only [zx,zy,zz]);first|done|rfl|(simp only [zd,zt];rfl)) ?_;(with_reducible refine (model_rule.calls k1 _ _ ((rd_T68 l0_1 x20_1).f0) _ _ ((rd_T68 l0_1 x20_1).f1) (l0_0.length:Int) t167 _ ?side1 ?side2 ?side3 ?side4 ?side5 A16.out).mono ?_);(case side1=>exact zT HR165_0.out (by repeat (first|(with_reducible first|exact HB.out|apply zD|apply zC|apply zE|refine zF ?_ GE163.out|refine zF ?_ GE166.out)|exact HB.out)));(case side2=>exact HC165_0.out);(case side3=>exact zT HR165_1.out (by repeat (first|(with_reducible first|exact HB.out|apply zD|apply zC|apply zE|refine zF ?_ GE163.out|refine zF ?_ GE166.out)|exact HB.out)));(case side4=>exact HC165_1.out);(case side5=>first|exact LaidG.below HLd.out (by repeat (first|(with_reducible first|exact HB.out|apply zD|apply zC|apply zE|refine zF ?_ GE163.out|refine zF ?_ GE166.out)|exact HB.out))|(refine LaidG.below HLd.out ?_;repeat (with_reducible first|exact HB.out|exact Below.refl _ _|apply zD|apply zC|apply zE);done));rintro e w22 ⟨rfl,hb⟩;refine ⟨_,rfl,?_⟩;have n0_:=zA (zN (g:=gb163) (o:=.cells #[.slice A0_0 l0_0.length c0_0,.slice (some ad165) l0_1.length c0_1] 25 (0,0)) (by (with_reducible repeat (first|refine zL ?_ _|refine zM ?_|refine zK ?_ _));refine blk_far ?_ NB163_166.out _;(with_reducible repeat (first|refine zL ?_ _|refine zM ?_|refine zK ?_ _));refine blk_far ?_ NB163_166.out _;(with_reducible repeat (first|refine zL ?_ _|refine zM ?_|refine zK ?_ _));exact BK163.out) hb);have n1_:=zA (zN (g:=gb166) (o:=.cells #[.slice A165_0 ((rd_T68 l0_1 x20_1).f0).length c165_0,.slice A165_1 ((rd_T68 l0_1 x20_1).f1).length c165_1] 68 (0,0)) (by (with_reducible repeat (first|refine zL ?_ _|refine zM ?_|refine zK ?_ _));refine zO (cs:=#[.slice A165_0 ((rd_T68 l0_1 x20_1).f0).length c165_0,.slice none 0 0]) ?_ 1 _ rfl;(with_reducible repeat (first|refine zL ?_ _|refine zM ?_|refine zK ?_ _));refine zO (cs:=#[.slice none 0 0,.slice none 0 0]) ?_ 0 _ rfl;(with_reducible repeat (first|refine zL ?_ _|refine zM ?_|refine zK ?_ _));exact BK166.out) hb);have n2_:=zA (zH (by repeat (first|(with_reducible first|exact HB.out|apply zD|apply zC|apply zE|refine zF ?_ GE163.out|refine zF ?_ GE166.out)|exact HB.out)) hb);clear BK163;clear BK166;clear HB;have BK163:=n0_;have BK166:=n1_;have HB:=n2_;clear n0_ n1_ n2_;(try clear hb);(try clear hb2);(try clear hk);(try clear hi)))
         go_roundg k1
         case measure=>have:=HK1.out;omega
         case rel=>exact ⟨(wrap64 (x20_1 + 1)),(by first|rfl|(simp;done)|(simp [*];done)),H',⟨by have:=HK1.out;omega⟩,⟨by (with_reducible repeat (first|refine zL ?_ _|refine zM ?_|refine zK ?_ _));exact BK163.out⟩,⟨by repeat (first|(with_reducible first|exact HB.out|apply zD|apply zC|apply zE|refine zF ?_ GE163.out|refine zF ?_ GE166.out)|exact HB.out)⟩⟩
        ·rw [if_neg c17] at H
         have c17b0:(t167 == 0) = false:=beq_eq_false_iff_ne.mpr c17
         have c17b1:(t167 != 0) = true:=bne_iff_ne.mpr c17
         obtain rfl:=Option.some.inj H
         have p165:0 ≤ (x20_1:Int):=zP (by assumption)
         have q165:x20_1 < (l0_1.length:Int):=zP (by assumption)
         obtain ⟨ad165,A165_0,c165_0,A165_1,c165_1,e165,hx165_0,hx165_1,hl165_0,hi165_0,hl165_1,hi165_1⟩:=at_T68 HR0_1.out x20_1 p165 q165
         cases e165
         replace hx165_0:=(HB.out.cell (zB w _ hx165_0)).trans hx165_0
         replace hx165_1:=(HB.out.cell (zB w _ hx165_1)).trans hx165_1
         have HR165_0:=zA hi165_0
         have HC165_0:=zA hl165_0
         clear hi165_0 hl165_0
         have HR165_1:=zA hi165_1
         have HC165_1:=zA hl165_1
         clear hi165_1 hl165_1
         replace p165:=eq_true p165
         replace q165:=eq_true q165
         go_wp2_with (first|((with_reducible refine zV (N:=5) rfl ?_);refine zW ?hg (N:=5) ?hd (cs:=#[.slice none 0 0,.slice none 0 0]) (t:=68) ?hr ?_;(case hd=>rfl);(case hg=>rfl);(case hr=>first|(go_simp;done)|(go_simp;rfl));intro gb166 hg w23 hbox hb;have n0_:=zA (zN (g:=gb163) (o:=.cells #[.slice A0_0 l0_0.length c0_0,.slice (some ad165) l0_1.length c0_1] 25 (0,0)) (by (with_reducible repeat (first|refine zL ?_ _|refine zM ?_|refine zK ?_ _));exact BK163.out) hb);have n1_:=zA (zH (by repeat (first|(with_reducible first|exact HB.out|apply zD|apply zC|apply zE|refine zF ?_ GE163.out)|exact HB.out)) hb);have n2_:=zA (hbox);have n3_:=zA ((by rw [hg];exact (zG (by repeat (first|(with_reducible first|exact HB.out|apply zD|apply zC|apply zE|refine zF ?_ GE163.out)|exact HB.out))):w.heap.size ≤ gb166));have n4_:=zA ((by rw [hg];exact (zG (by repeat (first|(with_reducible first|exact HB.out|apply zD|apply zC|apply zE|refine zF ?_ GE163.out)|exact HB.out))):w.heap.size ≤ gb166));have n5_:=zA ((by rw [hg];exact Nat.ne_of_lt (blk_lt (g:=gb163) (o:=.cells #[.slice A0_0 l0_0.length c0_0,.slice (some ad165) l0_1.length c0_1] 25 (0,0)) (by (with_reducible repeat (first|refine zL ?_ _|refine zM ?_|refine zK ?_ _));exact BK163.out)):gb163 ≠ gb166));have n6_:=zA ((by rw [hg];exact Nat.ne_of_gt (blk_lt (g:=gb163) (o:=.cells #[.slice A0_0 l0_0.length c0_0,.slice (some ad165) l0_1.length c0_1] 25 (0,0)) (by (with_reducible repeat (first|refine zL ?_ _|refine zM ?_|refine zK ?_ _));exact BK163.out)):gb166 ≠ gb163));clear BK163;clear HB;have BK163:=n0_;have HB:=n1_;have BK166:=n2_;have GW166:=n3_;have GE166:=n4_;have NB163_166:=n5_;have NB166_163:=n6_;clear n0_ n1_ n2_ n3_ n4_ n5_ n6_;clear hb hbox hg;have hnb24:=NB166_163.out;have hnc24:=NB163_166.out;have hcz25_0:w23.cell? ⟨gb166,0,none⟩ = some (.slice none 0 0):=(zI BK166.out 0).trans rfl;have hcz25_1:w23.cell? ⟨gb166,1,none⟩ = some (.slice none 0 0):=(zI BK166.out 1).trans rfl;have hfz25_0:=zJ BK166.out 0;have hfz25_1:=zJ BK166.out 1;have hcz26_0:w23.cell? ⟨gb163,0,none⟩ = some (.slice A0_0 l0_0.length c0_0):=(zI BK163.out 0).trans rfl;have hcz26_1:w23.cell? ⟨gb163,1,none⟩ = some (.slice (some ad165) l0_1.length c0_1):=(zI BK163.out 1).trans rfl;have hfz26_0:=zJ BK163.out 0;have hfz26_1:=zJ BK163.out 1)|((with_reducible refine zU (f:=49) rfl ?_);refine goesL_ (some 28) rfl rfl Tryd.func49 (by kernel_rfl) rfl #[.agg #[.slice A165_0 ((rd_T68 l0_1 x20_1).f0).length c165_0,.slice A165_1 ((rd_T68 l0_1 x20_1).f1).length c165_1],.int .i64 (l0_0.length:Int)] rfl (by (try simp only [zx,zy,zz]);first|done|rfl|(simp only [zd,zt];rfl)) ?_;(with_reducible refine (model_rule.calls k1 _ _ ((rd_T68 l0_1 x20_1).f0) _ _ ((rd_T68 l0_1 x20_1).f1) (l0_0.length:Int) t167 _ ?side1 ?side2 ?side3 ?side4 ?side5 A16.out).mono ?_);(case side1=>exact zT HR165_0.out (by repeat (first|(with_reducible first|exact HB.out|apply zD|apply zC|apply zE|refine zF ?_ GE163.out|refine zF ?_ GE166.out)|exact HB.out)));(case side2=>exact HC165_0.out);(case side3=>exact zT HR165_1.out (by repeat (first|(with_reducible first|exact HB.out|apply zD|apply zC|apply zE|refine zF ?_ GE163.out|refine zF ?_ GE166.out)|exact HB.out)));(case side4=>exact HC165_1.out);(case side5=>first|exact LaidG.below HLd.out (by repeat (first|(with_reducible first|exact HB.out|apply zD|apply zC|apply zE|refine zF ?_ GE163.out|refine zF ?_ GE166.out)|exact HB.out))|(refine LaidG.below HLd.out ?_;repeat (with_reducible first|exact HB.out|exact Below.refl _ _|apply zD|apply zC|apply zE);done));rintro e w27 ⟨rfl,hb⟩;refine ⟨_,rfl,?_⟩;have n0_:=zA (zN (g:=gb163) (o:=.cells #[.slice A0_0 l0_0.length c0_0,.slice (some ad165) l0_1.length c0_1] 25 (0,0)) (by (with_reducible repeat (first|refine zL ?_ _|refine zM ?_|refine zK ?_ _));refine blk_far ?_ NB163_166.out _;(with_reducible repeat (first|refine zL ?_ _|refine zM ?_|refine zK ?_ _));refine blk_far ?_ NB163_166.out _;(with_reducible repeat (first|refine zL ?_ _|refine zM ?_|refine zK ?_ _));exact BK163.out) hb);have n1_:=zA (zN (g:=gb166) (o:=.cells #[.slice A165_0 ((rd_T68 l0_1 x20_1).f0).length c165_0,.slice A165_1 ((rd_T68 l0_1 x20_1).f1).length c165_1] 68 (0,0)) (by (with_reducible repeat (first|refine zL ?_ _|refine zM ?_|refine zK ?_ _));refine zO (cs:=#[.slice A165_0 ((rd_T68 l0_1 x20_1).f0).length c165_0,.slice none 0 0]) ?_ 1 _ rfl;(with_reducible repeat (first|refine zL ?_ _|refine zM ?_|refine zK ?_ _));refine zO (cs:=#[.slice none 0 0,.slice none 0 0]) ?_ 0 _ rfl;(with_reducible repeat (first|refine zL ?_ _|refine zM ?_|refine zK ?_ _));exact BK166.out) hb);have n2_:=zA (zH (by repeat (first|(with_reducible first|exact HB.out|apply zD|apply zC|apply zE|refine zF ?_ GE163.out|refine zF ?_ GE166.out)|exact HB.out)) hb);clear BK163;clear BK166;clear HB;have BK163:=n0_;have BK166:=n1_;have HB:=n2_;clear n0_ n1_ n2_;(try clear hb);(try clear hb2);(try clear hk);(try clear hi)))
         go_ret
         exact ⟨by first|rfl|(simp [errW_none,errW_some] <;> rfl)|(simp [*,errW_none,errW_some] <;> rfl),by repeat (first|(with_reducible first|exact HB.out|apply zD|apply zC|apply zE|refine zF ?_ GE163.out|refine zF ?_ GE166.out)|exact HB.out)⟩
       ·rw [if_neg c15] at H
        exact absurd H (by simp)
      ·rw [if_neg c14] at H
       exact absurd H (by simp)
     ·rw [if_neg c13] at H
      have c13b0:decide (x20_1 < (l0_1.length:Int)) = false:=zR c13
      clear c13
      obtain rfl:=Option.some.inj H
      go_wp2
      go_ret
      exact ⟨by first|rfl|(simp [errW_none,errW_some] <;> rfl)|(simp [*,errW_none,errW_some] <;> rfl),by repeat (first|(with_reducible first|exact HB.out|apply zD|apply zC|apply zE|refine zF ?_ GE163.out)|exact HB.out)⟩
 ·rw [if_neg c3] at H
  have c3b0:(t164 == 0) = false:=beq_eq_false_iff_ne.mpr c3
  have c3b1:(t164 != 0) = true:=bne_iff_ne.mpr c3
  obtain rfl:=Option.some.inj H
  go_enter Tryd.func16,Tryd.ntmps16
  go_wp2_with (first|((with_reducible refine zV (N:=1) rfl ?_);refine zW ?hg (N:=1) ?hd (cs:=#[.slice A0_0 l0_0.length c0_0,.slice A0_1 l0_1.length c0_1]) (t:=25) ?hr ?_;(case hd=>rfl);(case hg=>rfl);(case hr=>first|(go_simp;done)|(go_simp;rfl));intro gb163 hg w28 hbox hb;have n0_:=zA (zH (by repeat (first|(with_reducible first|exact HB.out|apply zD|apply zC|apply zE)|exact HB.out)) hb);have n1_:=zA (hbox);have n2_:=zA ((by rw [hg];exact (zG (by repeat (first|(with_reducible first|exact HB.out|apply zD|apply zC|apply zE)|exact HB.out))):w.heap.size ≤ gb163));have n3_:=zA ((by rw [hg];exact (zG (by repeat (first|(with_reducible first|exact HB.out|apply zD|apply zC|apply zE)|exact HB.out))):w.heap.size ≤ gb163));clear HB;have HB:=n0_;have BK163:=n1_;have GW163:=n2_;have GE163:=n3_;clear n0_ n1_ n2_ n3_;clear hb hbox hg;have hcz29_0:w28.cell? ⟨gb163,0,none⟩ = some (.slice A0_0 l0_0.length c0_0):=(zI BK163.out 0).trans rfl;have hcz29_1:w28.cell? ⟨gb163,1,none⟩ = some (.slice A0_1 l0_1.length c0_1):=(zI BK163.out 1).trans rfl;have hfz29_0:=zJ BK163.out 0;have hfz29_1:=zJ BK163.out 1)|((with_reducible refine zU (f:=48) rfl ?_);refine goesL_ (some 9) rfl rfl Tryd.func48 (by kernel_rfl) rfl #[.slice A0_0 l0_0.length c0_0] rfl (by (try simp only [zx,zy,zz]);first|done|rfl|(simp only [zd,zt];rfl)) ?_;(with_reducible refine (model_variables.calls _ _ l0_0 t164 _ ?side1 ?side2 A2.out).mono ?_);(case side1=>repeat (first|exact (zT HR0_0.out HB.out)|(with_reducible refine Kd.C_alloc ?_ _)|(with_reducible refine Kd.C_drewN ?_ _)|(with_reducible refine Kd.C_drew ?_)));(case side2=>exact HC0_0.out);rintro e w30 ⟨rfl,hb⟩;refine ⟨_,rfl,?_⟩;have n0_:=zA (zN (g:=gb163) (o:=.cells #[.slice A0_0 l0_0.length c0_0,.slice A0_1 l0_1.length c0_1] 25 (0,0)) (by (with_reducible repeat (first|refine zL ?_ _|refine zM ?_|refine zK ?_ _));exact BK163.out) hb);have n1_:=zA (zH (by repeat (first|(with_reducible first|exact HB.out|apply zD|apply zC|apply zE|refine zF ?_ GE163.out)|exact HB.out)) hb);clear BK163;clear HB;have BK163:=n0_;have HB:=n1_;clear n0_ n1_;(try clear hb);(try clear hb2);(try clear hk);(try clear hi)))
  go_ret
  exact ⟨by first|rfl|(simp [errW_none,errW_some] <;> rfl)|(simp [*,errW_none,errW_some] <;> rfl),by repeat (first|(with_reducible first|exact HB.out|apply zD|apply zC|apply zE|refine zF ?_ GE163.out)|exact HB.out)⟩
def foretellref_In.f (a0:Int) (a1:Int) (a2:Int):Option (Bool):=if a0 ≥ a1 then (some (decide (a0 ≤ a2))) else (some false)
set_option maxHeartbeats 8000000 in
set_option maxRecDepth 100000 in
theorem foretellref_In.calls (a0:Int) (a1:Int) (a2:Int) (r:Bool) (w:World) (h:foretellref_In.f a0 a1 a2 = some r) :
  Calls Tryd.prog 56 #[.int .i64 a0,.int .i64 a1,.int .i64 a2] w fun e w'=>e = .returned (.bool r)∧Drawn0 w w':=by
 have H:(if a0 ≥ a1 then (some (decide (a0 ≤ a2))) else (some false)) = some r:=h
 clear h
 by_cases c4:a0 ≥ a1
 ·rw [if_pos c4] at H
  have c4b0:decide (a1 ≤ a0) = true:=zQ c4
  clear c4
  obtain rfl:=Option.some.inj H
  go_enter Tryd.func56,Tryd.ntmps56
  go_wp2
  go_ret
  exact ⟨by first|rfl|(simp;done)|(simp [*];done),by repeat (first|exact Drawn0.refl _|apply Drawn0.step)⟩
 ·rw [if_neg c4] at H
  have c4b0:decide (a1 ≤ a0) = false:=zR c4
  clear c4
  obtain rfl:=Option.some.inj H
  go_enter Tryd.func56,Tryd.ntmps56
  go_wp2
  go_ret
  exact ⟨by first|rfl|(simp;done)|(simp [*];done),by repeat (first|exact Drawn0.refl _|apply Drawn0.step)⟩
mutual
def foretellref_NameMay.j0:Nat → ByteArray → Bool → Option (Bool)
 | 0,_,_=>none
 | k + 1,x0,x17=>if x17 = true then (some false) else (foretellref_NameMay.l0 k x0 0)
def foretellref_NameMay.l0:Nat → ByteArray → Int → Option (Bool)
 | 0,_,_=>none
 | k + 1,x0,x3=>if x3 < (x0.size:Int) then (if 0 ≤ x3 then ((foretellref_In.f (wrap64 (bt x0 x3)) 97 122).bind fun t202=>((foretellref_In.f (wrap64 (bt x0 x3)) 48 57).bind fun t203=>(if t202 = true then (if x3 = 0 then (if t203 = true then (some false) else (foretellref_NameMay.l0 k x0 (wrap64 (x3 + 1)))) else (foretellref_NameMay.l0 k x0 (wrap64 (x3 + 1)))) else (if t203 = true then (if x3 = 0 then (some false) else (foretellref_NameMay.l0 k x0 (wrap64 (x3 + 1)))) else (some false))))) else (none)) else (some true)
end
def foretellref_NameMay.f (k:Nat) (a0:ByteArray):Option (Bool):=(foretellref_In.f (a0.size:Int) 1 8).bind fun t201=>(if t201 = true then (if a0.toList = ([121,101,115]:List UInt8) then (foretellref_NameMay.j0 k a0 true) else (foretellref_NameMay.j0 k a0 (a0.toList == ([110,111]:List UInt8)))) else (foretellref_NameMay.j0 k a0 true))
theorem foretellref_NameMay.mono_l:∀ k,(∀ y0 y1,LeO (foretellref_NameMay.j0 k y0 y1) (foretellref_NameMay.j0 (k + 1) y0 y1))∧(∀ y0 y1,LeO (foretellref_NameMay.l0 k y0 y1) (foretellref_NameMay.l0 (k + 1) y0 y1))
 | 0=>⟨fun _ _ r h=>by simp [foretellref_NameMay.j0] at h,fun _ _ r h=>by simp [foretellref_NameMay.l0] at h⟩
 | k + 1=>by
  obtain ⟨ih0,ih1⟩:=foretellref_NameMay.mono_l k
  refine ⟨?_,?_⟩
  ·intro y0 y1
   unfold foretellref_NameMay.j0
   repeat' first
   | (with_reducible exact ih0 _ _)
   | (with_reducible exact ih1 _ _)
   | (with_reducible exact LeO.refl _)
   | (with_reducible exact LeO.none _)
   | (with_reducible refine LeO.ite ?_ ?_)
   | (with_reducible refine LeO.bind ?_ (fun _=>?_))
   | exact ih0 _ _
   | exact ih1 _ _
   | exact LeO.none _
   | refine LeO.ite ?_ ?_
   | refine LeO.bind ?_ (fun _=>?_)
  ·intro y0 y1
   unfold foretellref_NameMay.l0
   repeat' first
   | (with_reducible exact ih0 _ _)
   | (with_reducible exact ih1 _ _)
   | (with_reducible exact LeO.refl _)
   | (with_reducible exact LeO.none _)
   | (with_reducible refine LeO.ite ?_ ?_)
   | (with_reducible refine LeO.bind ?_ (fun _=>?_))
   | exact ih0 _ _
   | exact ih1 _ _
   | exact LeO.none _
   | refine LeO.ite ?_ ?_
   | refine LeO.bind ?_ (fun _=>?_)
theorem foretellref_NameMay.mono:∀ a0 k,LeO (foretellref_NameMay.f k a0) (foretellref_NameMay.f (k + 1) a0):=by
 intro a0 k
 obtain ⟨ih0,ih1⟩:=foretellref_NameMay.mono_l k
 unfold foretellref_NameMay.f
 repeat' first
   | (with_reducible exact ih0 _ _)
   | (with_reducible exact ih1 _ _)
   | (with_reducible exact LeO.refl _)
   | (with_reducible exact LeO.none _)
   | (with_reducible refine LeO.ite ?_ ?_)
   | (with_reducible refine LeO.bind ?_ (fun _=>?_))
   | exact ih0 _ _
   | exact ih1 _ _
   | exact LeO.none _
   | refine LeO.ite ?_ ?_
   | refine LeO.bind ?_ (fun _=>?_)
set_option maxHeartbeats 8000000 in
set_option maxRecDepth 100000 in
theorem foretellref_NameMay.calls (k:Nat) (a0:ByteArray) (r:Bool) (w:World) (h:foretellref_NameMay.f k a0 = some r) :
  Calls Tryd.prog 68 #[.string a0] w fun e w'=>e = .returned (.bool r)∧Drawn0 w w':=by
 have H:((foretellref_In.f (a0.size:Int) 1 8).bind fun t201=>(if t201 = true then (if a0.toList = ([121,101,115]:List UInt8) then (foretellref_NameMay.j0 k a0 true) else (foretellref_NameMay.j0 k a0 (a0.toList == ([110,111]:List UInt8)))) else (foretellref_NameMay.j0 k a0 true))) = some r:=h
 clear h
 have HC2:=zA H
 clear H
 go_enter Tryd.func68,Tryd.ntmps68
 go_upto_region 1 with (fail)
 go_cut [17] (fun v17 wc=>∃ (kq:Nat) (x17_1:Bool),v17 = .bool x17_1∧Aside0 (foretellref_NameMay.j0 kq a0 x17_1 = some r)∧Aside0 (kq ≤ k)∧Drawn0 w wc)
 case first =>
  have H:=HC2.out
  clear HC2
  replace H:=zb.mp H
  obtain ⟨t201,A30,H⟩:=H
  replace H:(if t201 = true then (if a0.toList = ([121,101,115]:List UInt8) then (foretellref_NameMay.j0 k a0 true) else (foretellref_NameMay.j0 k a0 (a0.toList == ([110,111]:List UInt8)))) else (foretellref_NameMay.j0 k a0 true)) = some r:=H
  have A3:=zA A30
  clear A30
  by_cases c4:t201 = true
  ·subst c4
   have H1:(if a0.toList = ([121,101,115]:List UInt8) then (foretellref_NameMay.j0 k a0 true) else (foretellref_NameMay.j0 k a0 (a0.toList == ([110,111]:List UInt8)))) = some r:=by rw [if_pos rfl] at H;exact H
   clear H
   have H:=H1
   clear H1
   by_cases c5:a0.toList = ([121,101,115]:List UInt8)
   ·rw [if_pos c5] at H
    have c5b0:(a0.toList == ([121,101,115]:List UInt8)) = true:=beq_iff_eq.mpr c5
    have c5b1:(a0.toList != ([121,101,115]:List UInt8)) = false:=bne_eq_false_iff_eq.mpr c5
    clear c5
    (first|rw [c5b0]|(simp only [i64_w,i32_w];rw [c5b0])|skip)
    have H':=zA H
    clear H
    go_wp2_with (first|((with_reducible refine zU (f:=56) rfl ?_);refine goesL_ (some 8) rfl rfl Tryd.func56 (by kernel_rfl) rfl #[.int .i64 (a0.size:Int),.int .i64 1,.int .i64 8] rfl (by (try simp only [zx,zy,zz]);first|done|rfl|(simp only [zd,zt];rfl)) ?_;(with_reducible refine (foretellref_In.calls (a0.size:Int) 1 8 true _ A3.out).mono ?_);rintro e w' ⟨rfl,⟨nd,rfl⟩⟩;refine ⟨_,rfl,?_⟩))
    go_meet
    case rel=>exact ⟨_,(true),(by first|rfl|(simp;done)|(simp [*];done)),H',⟨by first|omega|exact Nat.le_refl _⟩,by repeat (first|exact Drawn0.refl _|apply Drawn0.step)⟩
   ·rw [if_neg c5] at H
    have c5b0:(a0.toList == ([121,101,115]:List UInt8)) = false:=beq_eq_false_iff_ne.mpr c5
    have c5b1:(a0.toList != ([121,101,115]:List UInt8)) = true:=bne_iff_ne.mpr c5
    (first|rw [c5b0]|(simp only [i64_w,i32_w];rw [c5b0])|skip)
    have H':=zA H
    clear H
    go_wp2_with (first|((with_reducible refine zU (f:=56) rfl ?_);refine goesL_ (some 8) rfl rfl Tryd.func56 (by kernel_rfl) rfl #[.int .i64 (a0.size:Int),.int .i64 1,.int .i64 8] rfl (by (try simp only [zx,zy,zz]);first|done|rfl|(simp only [zd,zt];rfl)) ?_;(with_reducible refine (foretellref_In.calls (a0.size:Int) 1 8 true _ A3.out).mono ?_);rintro e w' ⟨rfl,⟨nd,rfl⟩⟩;refine ⟨_,rfl,?_⟩))
    go_meet
    case rel=>exact ⟨_,((a0.toList == ([110,111]:List UInt8))),(by first|rfl|(simp;done)|(simp [*];done)),H',⟨by first|omega|exact Nat.le_refl _⟩,by repeat (first|exact Drawn0.refl _|apply Drawn0.step)⟩
  ·replace c4:=Bool.eq_false_iff.mpr c4
   subst c4
   have H1:(foretellref_NameMay.j0 k a0 true) = some r:=by rw [if_neg (show ¬ (false = true) by decide)] at H;exact H
   clear H
   have H:=H1
   clear H1
   have H':=zA H
   clear H
   go_wp2_with (first|((with_reducible refine zU (f:=56) rfl ?_);refine goesL_ (some 8) rfl rfl Tryd.func56 (by kernel_rfl) rfl #[.int .i64 (a0.size:Int),.int .i64 1,.int .i64 8] rfl (by (try simp only [zx,zy,zz]);first|done|rfl|(simp only [zd,zt];rfl)) ?_;(with_reducible refine (foretellref_In.calls (a0.size:Int) 1 8 false _ A3.out).mono ?_);rintro e w' ⟨rfl,⟨nd,rfl⟩⟩;refine ⟨_,rfl,?_⟩))
   go_meet
   case rel=>exact ⟨_,(true),(by first|rfl|(simp;done)|(simp [*];done)),H',⟨by first|omega|exact Nat.le_refl _⟩,by repeat (first|exact Drawn0.refl _|apply Drawn0.step)⟩
 case rest =>
  clear HC2
  try clear p2
  try clear c4
  try clear c5
  try clear c5b0
  try clear c5b1
  obtain ⟨kq,x17_1,rfl,HA,HJ1,⟨mc1,rfl⟩⟩:=hcut
  cases kq with
  | zero=>exact absurd HA.out (by simp [foretellref_NameMay.j0])
  | succ kj1 =>
   have H:=HA.out
   clear HA
   simp only [foretellref_NameMay.j0] at H
   by_cases c6:x17_1 = true
   ·subst c6
    have H1:(some false) = some r:=by rw [if_pos rfl] at H;exact H
    clear H
    have H:=H1
    clear H1
    obtain rfl:=Option.some.inj H
    go_wp2
    go_ret
    exact ⟨by first|rfl|(simp;done)|(simp [*];done),by repeat (first|exact Drawn0.refl _|apply Drawn0.step)⟩
   ·replace c6:=Bool.eq_false_iff.mpr c6
    subst c6
    have H1:(foretellref_NameMay.l0 kj1 a0 0) = some r:=by rw [if_neg (show ¬ (false = true) by decide)] at H;exact H
    clear H
    have H:=H1
    clear H1
    have H':=zA H
    clear H
    go_wp2
    go_loopg [3] kj1 (fun kq v3 w'=>∃ (x3_2:Int),v3 = .int .i64 x3_2∧Aside0 (foretellref_NameMay.l0 kq a0 x3_2 = some r)∧Aside0 (kq ≤ kj1)∧Drawn0 w w')
    case atStart=>exact ⟨(0),(by first|rfl|(simp;done)|(simp [*];done)),H',⟨Nat.le_refl _⟩,by repeat (first|exact Drawn0.refl _|apply Drawn0.step)⟩
    case round =>
     clear H'
     try clear c1
     try clear p2
     try clear c4
     try clear c5
     try clear c5b0
     try clear c5b1
     try clear c6
     try clear p2
     obtain ⟨x3_2,rfl,HA,HK2,⟨m2,rfl⟩⟩:=hrel
     cases gk with
     | zero=>exact absurd HA.out (by simp [foretellref_NameMay.l0])
     | succ k2 =>
      have H:=HA.out
      clear HA
      simp only [foretellref_NameMay.l0] at H
      by_cases c7:x3_2 < (a0.size:Int)
      ·rw [if_pos c7] at H
       have c7b0:decide (x3_2 < (a0.size:Int)) = true:=zQ c7
       clear c7
       by_cases c8:0 ≤ x3_2
       ·rw [if_pos c8] at H
        have c8b0:decide (0 ≤ x3_2) = true:=zQ c8
        clear c8
        replace H:=zb.mp H
        obtain ⟨t202,A100,H⟩:=H
        replace H:((foretellref_In.f (wrap64 (bt a0 x3_2)) 48 57).bind fun t203=>(if t202 = true then (if x3_2 = 0 then (if t203 = true then (some false) else (foretellref_NameMay.l0 k2 a0 (wrap64 (x3_2 + 1)))) else (foretellref_NameMay.l0 k2 a0 (wrap64 (x3_2 + 1)))) else (if t203 = true then (if x3_2 = 0 then (some false) else (foretellref_NameMay.l0 k2 a0 (wrap64 (x3_2 + 1)))) else (some false)))) = some r:=H
        have A10:=zA A100
        clear A100
        replace H:=zb.mp H
        obtain ⟨t203,A120,H⟩:=H
        replace H:(if t202 = true then (if x3_2 = 0 then (if t203 = true then (some false) else (foretellref_NameMay.l0 k2 a0 (wrap64 (x3_2 + 1)))) else (foretellref_NameMay.l0 k2 a0 (wrap64 (x3_2 + 1)))) else (if t203 = true then (if x3_2 = 0 then (some false) else (foretellref_NameMay.l0 k2 a0 (wrap64 (x3_2 + 1)))) else (some false))) = some r:=H
        have A12:=zA A120
        clear A120
        by_cases c13:t202 = true
        ·subst c13
         have H1:(if x3_2 = 0 then (if t203 = true then (some false) else (foretellref_NameMay.l0 k2 a0 (wrap64 (x3_2 + 1)))) else (foretellref_NameMay.l0 k2 a0 (wrap64 (x3_2 + 1)))) = some r:=by rw [if_pos rfl] at H;exact H
         clear H
         have H:=H1
         clear H1
         by_cases c14:x3_2 = 0
         ·rw [if_pos c14] at H
          have c14b0:(x3_2 == 0) = true:=beq_iff_eq.mpr c14
          have c14b1:(x3_2 != 0) = false:=bne_eq_false_iff_eq.mpr c14
          clear c14
          by_cases c15:t203 = true
          ·subst c15
           have H1:(some false) = some r:=by rw [if_pos rfl] at H;exact H
           clear H
           have H:=H1
           clear H1
           obtain rfl:=Option.some.inj H
           have p9:0 ≤ (x3_2:Int):=zP (by assumption)
           have q9:x3_2 < (a0.size:Int):=zP (by assumption)
           have hx9:=bt_at a0 x3_2
           replace p9:=eq_true p9
           replace q9:=eq_true q9
           go_wp2_with (first|((with_reducible refine zU (f:=56) rfl ?_);refine goesL_ (some 28) rfl rfl Tryd.func56 (by kernel_rfl) rfl #[.int .i64 (wrap64 (bt a0 x3_2)),.int .i64 97,.int .i64 122] rfl (by (try simp only [zx,zy,zz]);first|done|rfl|(simp only [zd,zt];rfl)) ?_;(with_reducible refine (foretellref_In.calls (wrap64 (bt a0 x3_2)) 97 122 true _ A10.out).mono ?_);rintro e w' ⟨rfl,⟨nd,rfl⟩⟩;refine ⟨_,rfl,?_⟩;have p11:0 ≤ (x3_2:Int):=zP (by assumption);have q11:x3_2 < (a0.size:Int):=zP (by assumption);have hx11:=bt_at a0 x3_2;replace p11:=eq_true p11;replace q11:=eq_true q11)|((with_reducible refine zU (f:=56) rfl ?_);refine goesL_ (some 33) rfl rfl Tryd.func56 (by kernel_rfl) rfl #[.int .i64 (wrap64 (bt a0 x3_2)),.int .i64 48,.int .i64 57] rfl (by (try simp only [zx,zy,zz]);first|done|rfl|(simp only [zd,zt];rfl)) ?_;(with_reducible refine (foretellref_In.calls (wrap64 (bt a0 x3_2)) 48 57 true _ A12.out).mono ?_);rintro e w' ⟨rfl,⟨nd,rfl⟩⟩;refine ⟨_,rfl,?_⟩))
           go_ret
           exact ⟨by first|rfl|(simp;done)|(simp [*];done),by repeat (first|exact Drawn0.refl _|apply Drawn0.step)⟩
          ·replace c15:=Bool.eq_false_iff.mpr c15
           subst c15
           have H1:(foretellref_NameMay.l0 k2 a0 (wrap64 (x3_2 + 1))) = some r:=by rw [if_neg (show ¬ (false = true) by decide)] at H;exact H
           clear H
           have H:=H1
           clear H1
           have H':=zA H
           clear H
           have p9:0 ≤ (x3_2:Int):=zP (by assumption)
           have q9:x3_2 < (a0.size:Int):=zP (by assumption)
           have hx9:=bt_at a0 x3_2
           replace p9:=eq_true p9
           replace q9:=eq_true q9
           go_wp2_with (first|((with_reducible refine zU (f:=56) rfl ?_);refine goesL_ (some 28) rfl rfl Tryd.func56 (by kernel_rfl) rfl #[.int .i64 (wrap64 (bt a0 x3_2)),.int .i64 97,.int .i64 122] rfl (by (try simp only [zx,zy,zz]);first|done|rfl|(simp only [zd,zt];rfl)) ?_;(with_reducible refine (foretellref_In.calls (wrap64 (bt a0 x3_2)) 97 122 true _ A10.out).mono ?_);rintro e w' ⟨rfl,⟨nd,rfl⟩⟩;refine ⟨_,rfl,?_⟩;have p11:0 ≤ (x3_2:Int):=zP (by assumption);have q11:x3_2 < (a0.size:Int):=zP (by assumption);have hx11:=bt_at a0 x3_2;replace p11:=eq_true p11;replace q11:=eq_true q11)|((with_reducible refine zU (f:=56) rfl ?_);refine goesL_ (some 33) rfl rfl Tryd.func56 (by kernel_rfl) rfl #[.int .i64 (wrap64 (bt a0 x3_2)),.int .i64 48,.int .i64 57] rfl (by (try simp only [zx,zy,zz]);first|done|rfl|(simp only [zd,zt];rfl)) ?_;(with_reducible refine (foretellref_In.calls (wrap64 (bt a0 x3_2)) 48 57 false _ A12.out).mono ?_);rintro e w' ⟨rfl,⟨nd,rfl⟩⟩;refine ⟨_,rfl,?_⟩))
           go_roundg k2
           case measure=>have:=HJ1.out;have:=HK2.out;omega
           case rel=>exact ⟨(wrap64 (x3_2 + 1)),(by first|rfl|(simp;done)|(simp [*];done)),H',⟨by have:=HJ1.out;have:=HK2.out;omega⟩,by repeat (first|exact Drawn0.refl _|apply Drawn0.step)⟩
         ·rw [if_neg c14] at H
          have c14b0:(x3_2 == 0) = false:=beq_eq_false_iff_ne.mpr c14
          have c14b1:(x3_2 != 0) = true:=bne_iff_ne.mpr c14
          have H':=zA H
          clear H
          have p9:0 ≤ (x3_2:Int):=zP (by assumption)
          have q9:x3_2 < (a0.size:Int):=zP (by assumption)
          have hx9:=bt_at a0 x3_2
          replace p9:=eq_true p9
          replace q9:=eq_true q9
          go_wp2_with (first|((with_reducible refine zU (f:=56) rfl ?_);refine goesL_ (some 28) rfl rfl Tryd.func56 (by kernel_rfl) rfl #[.int .i64 (wrap64 (bt a0 x3_2)),.int .i64 97,.int .i64 122] rfl (by (try simp only [zx,zy,zz]);first|done|rfl|(simp only [zd,zt];rfl)) ?_;(with_reducible refine (foretellref_In.calls (wrap64 (bt a0 x3_2)) 97 122 true _ A10.out).mono ?_);rintro e w' ⟨rfl,⟨nd,rfl⟩⟩;refine ⟨_,rfl,?_⟩;have p11:0 ≤ (x3_2:Int):=zP (by assumption);have q11:x3_2 < (a0.size:Int):=zP (by assumption);have hx11:=bt_at a0 x3_2;replace p11:=eq_true p11;replace q11:=eq_true q11)|((with_reducible refine zU (f:=56) rfl ?_);refine goesL_ (some 33) rfl rfl Tryd.func56 (by kernel_rfl) rfl #[.int .i64 (wrap64 (bt a0 x3_2)),.int .i64 48,.int .i64 57] rfl (by (try simp only [zx,zy,zz]);first|done|rfl|(simp only [zd,zt];rfl)) ?_;(with_reducible refine (foretellref_In.calls (wrap64 (bt a0 x3_2)) 48 57 t203 _ A12.out).mono ?_);rintro e w' ⟨rfl,⟨nd,rfl⟩⟩;refine ⟨_,rfl,?_⟩))
          go_roundg k2
          case measure=>have:=HJ1.out;have:=HK2.out;omega
          case rel=>exact ⟨(wrap64 (x3_2 + 1)),(by first|rfl|(simp;done)|(simp [*];done)),H',⟨by have:=HJ1.out;have:=HK2.out;omega⟩,by repeat (first|exact Drawn0.refl _|apply Drawn0.step)⟩
        ·replace c13:=Bool.eq_false_iff.mpr c13
         subst c13
         have H1:(if t203 = true then (if x3_2 = 0 then (some false) else (foretellref_NameMay.l0 k2 a0 (wrap64 (x3_2 + 1)))) else (some false)) = some r:=by rw [if_neg (show ¬ (false = true) by decide)] at H;exact H
         clear H
         have H:=H1
         clear H1
         by_cases c16:t203 = true
         ·subst c16
          have H1:(if x3_2 = 0 then (some false) else (foretellref_NameMay.l0 k2 a0 (wrap64 (x3_2 + 1)))) = some r:=by rw [if_pos rfl] at H;exact H
          clear H
          have H:=H1
          clear H1
          by_cases c17:x3_2 = 0
          ·rw [if_pos c17] at H
           have c17b0:(x3_2 == 0) = true:=beq_iff_eq.mpr c17
           have c17b1:(x3_2 != 0) = false:=bne_eq_false_iff_eq.mpr c17
           clear c17
           obtain rfl:=Option.some.inj H
           have p9:0 ≤ (x3_2:Int):=zP (by assumption)
           have q9:x3_2 < (a0.size:Int):=zP (by assumption)
           have hx9:=bt_at a0 x3_2
           replace p9:=eq_true p9
           replace q9:=eq_true q9
           go_wp2_with (first|((with_reducible refine zU (f:=56) rfl ?_);refine goesL_ (some 28) rfl rfl Tryd.func56 (by kernel_rfl) rfl #[.int .i64 (wrap64 (bt a0 x3_2)),.int .i64 97,.int .i64 122] rfl (by (try simp only [zx,zy,zz]);first|done|rfl|(simp only [zd,zt];rfl)) ?_;(with_reducible refine (foretellref_In.calls (wrap64 (bt a0 x3_2)) 97 122 false _ A10.out).mono ?_);rintro e w' ⟨rfl,⟨nd,rfl⟩⟩;refine ⟨_,rfl,?_⟩;have p11:0 ≤ (x3_2:Int):=zP (by assumption);have q11:x3_2 < (a0.size:Int):=zP (by assumption);have hx11:=bt_at a0 x3_2;replace p11:=eq_true p11;replace q11:=eq_true q11)|((with_reducible refine zU (f:=56) rfl ?_);refine goesL_ (some 33) rfl rfl Tryd.func56 (by kernel_rfl) rfl #[.int .i64 (wrap64 (bt a0 x3_2)),.int .i64 48,.int .i64 57] rfl (by (try simp only [zx,zy,zz]);first|done|rfl|(simp only [zd,zt];rfl)) ?_;(with_reducible refine (foretellref_In.calls (wrap64 (bt a0 x3_2)) 48 57 true _ A12.out).mono ?_);rintro e w' ⟨rfl,⟨nd,rfl⟩⟩;refine ⟨_,rfl,?_⟩))
           go_ret
           exact ⟨by first|rfl|(simp;done)|(simp [*];done),by repeat (first|exact Drawn0.refl _|apply Drawn0.step)⟩
          ·rw [if_neg c17] at H
           have c17b0:(x3_2 == 0) = false:=beq_eq_false_iff_ne.mpr c17
           have c17b1:(x3_2 != 0) = true:=bne_iff_ne.mpr c17
           have H':=zA H
           clear H
           have p9:0 ≤ (x3_2:Int):=zP (by assumption)
           have q9:x3_2 < (a0.size:Int):=zP (by assumption)
           have hx9:=bt_at a0 x3_2
           replace p9:=eq_true p9
           replace q9:=eq_true q9
           go_wp2_with (first|((with_reducible refine zU (f:=56) rfl ?_);refine goesL_ (some 28) rfl rfl Tryd.func56 (by kernel_rfl) rfl #[.int .i64 (wrap64 (bt a0 x3_2)),.int .i64 97,.int .i64 122] rfl (by (try simp only [zx,zy,zz]);first|done|rfl|(simp only [zd,zt];rfl)) ?_;(with_reducible refine (foretellref_In.calls (wrap64 (bt a0 x3_2)) 97 122 false _ A10.out).mono ?_);rintro e w' ⟨rfl,⟨nd,rfl⟩⟩;refine ⟨_,rfl,?_⟩;have p11:0 ≤ (x3_2:Int):=zP (by assumption);have q11:x3_2 < (a0.size:Int):=zP (by assumption);have hx11:=bt_at a0 x3_2;replace p11:=eq_true p11;replace q11:=eq_true q11)|((with_reducible refine zU (f:=56) rfl ?_);refine goesL_ (some 33) rfl rfl Tryd.func56 (by kernel_rfl) rfl #[.int .i64 (wrap64 (bt a0 x3_2)),.int .i64 48,.int .i64 57] rfl (by (try simp only [zx,zy,zz]);first|done|rfl|(simp only [zd,zt];rfl)) ?_;(with_reducible refine (foretellref_In.calls (wrap64 (bt a0 x3_2)) 48 57 true _ A12.out).mono ?_);rintro e w' ⟨rfl,⟨nd,rfl⟩⟩;refine ⟨_,rfl,?_⟩))
           go_roundg k2
           case measure=>have:=HJ1.out;have:=HK2.out;omega
           case rel=>exact ⟨(wrap64 (x3_2 + 1)),(by first|rfl|(simp;done)|(simp [*];done)),H',⟨by have:=HJ1.out;have:=HK2.out;omega⟩,by repeat (first|exact Drawn0.refl _|apply Drawn0.step)⟩
         ·replace c16:=Bool.eq_false_iff.mpr c16
          subst c16
          have H1:(some false) = some r:=by rw [if_neg (show ¬ (false = true) by decide)] at H;exact H
          clear H
          have H:=H1
          clear H1
          obtain rfl:=Option.some.inj H
          have p9:0 ≤ (x3_2:Int):=zP (by assumption)
          have q9:x3_2 < (a0.size:Int):=zP (by assumption)
          have hx9:=bt_at a0 x3_2
          replace p9:=eq_true p9
          replace q9:=eq_true q9
          go_wp2_with (first|((with_reducible refine zU (f:=56) rfl ?_);refine goesL_ (some 28) rfl rfl Tryd.func56 (by kernel_rfl) rfl #[.int .i64 (wrap64 (bt a0 x3_2)),.int .i64 97,.int .i64 122] rfl (by (try simp only [zx,zy,zz]);first|done|rfl|(simp only [zd,zt];rfl)) ?_;(with_reducible refine (foretellref_In.calls (wrap64 (bt a0 x3_2)) 97 122 false _ A10.out).mono ?_);rintro e w' ⟨rfl,⟨nd,rfl⟩⟩;refine ⟨_,rfl,?_⟩;have p11:0 ≤ (x3_2:Int):=zP (by assumption);have q11:x3_2 < (a0.size:Int):=zP (by assumption);have hx11:=bt_at a0 x3_2;replace p11:=eq_true p11;replace q11:=eq_true q11)|((with_reducible refine zU (f:=56) rfl ?_);refine goesL_ (some 33) rfl rfl Tryd.func56 (by kernel_rfl) rfl #[.int .i64 (wrap64 (bt a0 x3_2)),.int .i64 48,.int .i64 57] rfl (by (try simp only [zx,zy,zz]);first|done|rfl|(simp only [zd,zt];rfl)) ?_;(with_reducible refine (foretellref_In.calls (wrap64 (bt a0 x3_2)) 48 57 false _ A12.out).mono ?_);rintro e w' ⟨rfl,⟨nd,rfl⟩⟩;refine ⟨_,rfl,?_⟩))
          go_ret
          exact ⟨by first|rfl|(simp;done)|(simp [*];done),by repeat (first|exact Drawn0.refl _|apply Drawn0.step)⟩
       ·rw [if_neg c8] at H
        exact absurd H (by simp)
      ·rw [if_neg c7] at H
       have c7b0:decide (x3_2 < (a0.size:Int)) = false:=zR c7
       clear c7
       obtain rfl:=Option.some.inj H
       go_wp2
       go_ret
       exact ⟨by first|rfl|(simp;done)|(simp [*];done),by repeat (first|exact Drawn0.refl _|apply Drawn0.step)⟩
mutual
def foretellref_variablesFault.l0:Nat → List (S74) → Int → Int → Option (Int)
 | 0,_,_,_=>none
 | k + 1,x0,x3,x4=>if x4 < (x0.length:Int) then (if 0 ≤ x4 then ((foretellref_NameMay.f k ((rd_T74 x0 x4).f0)).bind fun t206=>(if t206 = true then (foretellref_variablesFault.l1 k x0 x3 x4 0 ((rd_T74 x0 x4).f0) ((rd_T74 x0 x4).f1) ((rd_T74 x0 x4).f2) ((rd_T74 x0 x4).f3)) else (some 6))) else (none)) else (some 0)
def foretellref_variablesFault.l1:Nat → List (S74) → Int → Int → Int → ByteArray → Int → Int → Int → Option (Int)
 | 0,_,_,_,_,_,_,_,_=>none
 | k + 1,x0,x3,x4,x6,x206000,x206001,x206002,x206003=>if x6 < x4 then (if 0 ≤ x6 then (if x6 < (x0.length:Int) then (if ((rd_T74 x0 x6).f0).toList = x206000.toList then (some 7) else (foretellref_variablesFault.l1 k x0 x3 x4 (wrap64 (x6 + 1)) x206000 x206001 x206002 x206003)) else (none)) else (none)) else ((foretellref_In.f x206001 (-1000) 1000).bind fun t208=>(if t208 = true then ((foretellref_In.f x206002 x206001 1000).bind fun t209=>(if t209 = true then ((foretellref_In.f x206003 x206001 x206002).bind fun t210=>(foretellref_variablesFault.j2 k x0 x3 x4 (!t210) x206000 x206001 x206002 x206003)) else (foretellref_variablesFault.j2 k x0 x3 x4 true x206000 x206001 x206002 x206003))) else (foretellref_variablesFault.j2 k x0 x3 x4 true x206000 x206001 x206002 x206003)))
def foretellref_variablesFault.j2:Nat → List (S74) → Int → Int → Bool → ByteArray → Int → Int → Int → Option (Int)
 | 0,_,_,_,_,_,_,_,_=>none
 | k + 1,x0,x3,x4,x58,x206000,x206001,x206002,x206003=>if x58 = true then (some 2) else (if (wrap64 (x206002 - x206001)) > 63 then (some 1) else (if (wrap64 (x3 * (wrap64 ((wrap64 (x206002 - x206001)) + 1)))) > 4096 then (some 1) else (foretellref_variablesFault.l0 k x0 (wrap64 (x3 * (wrap64 ((wrap64 (x206002 - x206001)) + 1)))) (wrap64 (x4 + 1)))))
end
def foretellref_variablesFault.f (k:Nat) (l0:List (S74)):Option (Int):=if (l0.length:Int) > 6 then (some 1) else (foretellref_variablesFault.l0 k l0 1 0)
theorem foretellref_variablesFault.mono_l:∀ k,(∀ y0 y1 y2,LeO (foretellref_variablesFault.l0 k y0 y1 y2) (foretellref_variablesFault.l0 (k + 1) y0 y1 y2))∧(∀ y0 y1 y2 y3 y4 y5 y6 y7,LeO (foretellref_variablesFault.l1 k y0 y1 y2 y3 y4 y5 y6 y7) (foretellref_variablesFault.l1 (k + 1) y0 y1 y2 y3 y4 y5 y6 y7))∧(∀ y0 y1 y2 y3 y4 y5 y6 y7,LeO (foretellref_variablesFault.j2 k y0 y1 y2 y3 y4 y5 y6 y7) (foretellref_variablesFault.j2 (k + 1) y0 y1 y2 y3 y4 y5 y6 y7))
 | 0=>⟨fun _ _ _ r h=>by simp [foretellref_variablesFault.l0] at h,fun _ _ _ _ _ _ _ _ r h=>by simp [foretellref_variablesFault.l1] at h,fun _ _ _ _ _ _ _ _ r h=>by simp [foretellref_variablesFault.j2] at h⟩
 | k + 1=>by
  obtain ⟨ih0,ih1,ih2⟩:=foretellref_variablesFault.mono_l k
  refine ⟨?_,?_,?_⟩
  ·intro y0 y1 y2
   unfold foretellref_variablesFault.l0
   repeat' first
   | (with_reducible exact ih0 _ _ _)
   | (with_reducible exact ih1 _ _ _ _ _ _ _ _)
   | (with_reducible exact ih2 _ _ _ _ _ _ _ _)
   | (with_reducible exact foretellref_NameMay.mono _ _)
   | (with_reducible exact LeO.refl _)
   | (with_reducible exact LeO.none _)
   | (with_reducible refine LeO.ite ?_ ?_)
   | (with_reducible refine LeO.bind ?_ (fun _=>?_))
   | exact ih0 _ _ _
   | exact ih1 _ _ _ _ _ _ _ _
   | exact ih2 _ _ _ _ _ _ _ _
   | exact foretellref_NameMay.mono _ _
   | exact LeO.none _
   | refine LeO.ite ?_ ?_
   | refine LeO.bind ?_ (fun _=>?_)
  ·intro y0 y1 y2 y3 y4 y5 y6 y7
   unfold foretellref_variablesFault.l1
   repeat' first
   | (with_reducible exact ih0 _ _ _)
   | (with_reducible exact ih1 _ _ _ _ _ _ _ _)
   | (with_reducible exact ih2 _ _ _ _ _ _ _ _)
   | (with_reducible exact foretellref_NameMay.mono _ _)
   | (with_reducible exact LeO.refl _)
   | (with_reducible exact LeO.none _)
   | (with_reducible refine LeO.ite ?_ ?_)
   | (with_reducible refine LeO.bind ?_ (fun _=>?_))
   | exact ih0 _ _ _
   | exact ih1 _ _ _ _ _ _ _ _
   | exact ih2 _ _ _ _ _ _ _ _
   | exact foretellref_NameMay.mono _ _
   | exact LeO.none _
   | refine LeO.ite ?_ ?_
   | refine LeO.bind ?_ (fun _=>?_)
  ·intro y0 y1 y2 y3 y4 y5 y6 y7
   unfold foretellref_variablesFault.j2
   repeat' first
   | (with_reducible exact ih0 _ _ _)
   | (with_reducible exact ih1 _ _ _ _ _ _ _ _)
   | (with_reducible exact ih2 _ _ _ _ _ _ _ _)
   | (with_reducible exact foretellref_NameMay.mono _ _)
   | (with_reducible exact LeO.refl _)
   | (with_reducible exact LeO.none _)
   | (with_reducible refine LeO.ite ?_ ?_)
   | (with_reducible refine LeO.bind ?_ (fun _=>?_))
   | exact ih0 _ _ _
   | exact ih1 _ _ _ _ _ _ _ _
   | exact ih2 _ _ _ _ _ _ _ _
   | exact foretellref_NameMay.mono _ _
   | exact LeO.none _
   | refine LeO.ite ?_ ?_
   | refine LeO.bind ?_ (fun _=>?_)
theorem foretellref_variablesFault.mono:∀ a0 k,LeO (foretellref_variablesFault.f k a0) (foretellref_variablesFault.f (k + 1) a0):=by
 intro a0 k
 obtain ⟨ih0,ih1,ih2⟩:=foretellref_variablesFault.mono_l k
 unfold foretellref_variablesFault.f
 repeat' first
   | (with_reducible exact ih0 _ _ _)
   | (with_reducible exact ih1 _ _ _ _ _ _ _ _)
   | (with_reducible exact ih2 _ _ _ _ _ _ _ _)
   | (with_reducible exact foretellref_NameMay.mono _ _)
   | (with_reducible exact LeO.refl _)
   | (with_reducible exact LeO.none _)
   | (with_reducible refine LeO.ite ?_ ?_)
   | (with_reducible refine LeO.bind ?_ (fun _=>?_))
   | exact ih0 _ _ _
   | exact ih1 _ _ _ _ _ _ _ _
   | exact ih2 _ _ _ _ _ _ _ _
   | exact foretellref_NameMay.mono _ _
   | exact LeO.none _
   | refine LeO.ite ?_ ?_
   | refine LeO.bind ?_ (fun _=>?_)
set_option maxHeartbeats 8000000 in
set_option maxRecDepth 100000 in
theorem foretellref_variablesFault.calls (k:Nat) (A0:Option Addr) (c0:Nat) (l0:List (S74)) (r:Int) (w:World) (hr0:Kd.C k74 w A0 l0.length l0) (hc0:l0.length ≤ c0) (h:foretellref_variablesFault.f k l0 = some r) :
  Calls Tryd.prog 50 #[.slice A0 l0.length c0] w fun e w'=>e = .returned (.int .i64 r)∧Below w.heap.size w w':=by
 have hu74:=Tryd.underlying74
 have HR0:=zA hr0
 have HC0:=zA hc0
 clear hr0 hc0
 have HB:=zA (Below.refl w.heap.size w)
 have H:(if (l0.length:Int) > 6 then (some 1) else (foretellref_variablesFault.l0 k l0 1 0)) = some r:=h
 clear h
 by_cases c2:(l0.length:Int) > 6
 ·rw [if_pos c2] at H
  have c2b0:decide (6 < (l0.length:Int)) = true:=zQ c2
  have c2b1:decide (6 < l0.length) = true:=zQ (by omega)
  clear c2
  obtain rfl:=Option.some.inj H
  go_enter Tryd.func50,Tryd.ntmps50
  go_wp2
  repeat (go_quiet (fail);try go_wp2)
  go_ret
  exact ⟨by first|rfl|(simp [errW_none,errW_some] <;> rfl)|(simp [*,errW_none,errW_some] <;> rfl),by repeat (first|(with_reducible first|exact HB.out|apply zD|apply zC|apply zE)|exact HB.out)⟩
 ·rw [if_neg c2] at H
  have c2b0:decide (6 < (l0.length:Int)) = false:=zR c2
  have c2b1:decide (6 < l0.length) = false:=zR (by omega)
  clear c2
  have H':=zA H
  clear H
  go_enter Tryd.func50,Tryd.ntmps50
  go_wp2
  repeat (go_quiet (fail);try go_wp2)
  go_loopg [3,4] k (fun kq v3 v4 w'=>∃ (x3_1:Int) (x4_1:Int),v3 = .int .i64 x3_1∧v4 = .int .i64 x4_1∧Aside0 (foretellref_variablesFault.l0 kq l0 x3_1 x4_1 = some r)∧Aside0 (kq ≤ k)∧Aside0 (Below w.heap.size w w'))
  case atStart=>exact ⟨(1),(0),(by first|rfl|(simp;done)|(simp [*];done)),(by first|rfl|(simp;done)|(simp [*];done)),H',⟨Nat.le_refl _⟩,⟨by repeat (first|(with_reducible first|exact HB.out|apply zD|apply zC|apply zE)|exact HB.out)⟩⟩
  case round =>
   clear H'
   try clear c2
   try clear c2b0
   try clear c2b1
   try clear p2
   obtain ⟨x3_1,x4_1,rfl,rfl,HA,HK1,HB⟩:=hrel
   cases gk with
   | zero=>exact absurd HA.out (by simp [foretellref_variablesFault.l0])
   | succ k1 =>
    have H:=HA.out
    clear HA
    simp only [foretellref_variablesFault.l0] at H
    by_cases c3:x4_1 < (l0.length:Int)
    ·rw [if_pos c3] at H
     have c3b0:decide (x4_1 < (l0.length:Int)) = true:=zQ c3
     clear c3
     by_cases c4:0 ≤ x4_1
     ·rw [if_pos c4] at H
      have c4b0:decide (0 ≤ x4_1) = true:=zQ c4
      clear c4
      replace H:=zb.mp H
      obtain ⟨t206,A50,H⟩:=H
      replace H:(if t206 = true then (foretellref_variablesFault.l1 k1 l0 x3_1 x4_1 0 ((rd_T74 l0 x4_1).f0) ((rd_T74 l0 x4_1).f1) ((rd_T74 l0 x4_1).f2) ((rd_T74 l0 x4_1).f3)) else (some 6)) = some r:=H
      have A5:=zA A50
      clear A50
      by_cases c6:t206 = true
      ·subst c6
       have H1:(foretellref_variablesFault.l1 k1 l0 x3_1 x4_1 0 ((rd_T74 l0 x4_1).f0) ((rd_T74 l0 x4_1).f1) ((rd_T74 l0 x4_1).f2) ((rd_T74 l0 x4_1).f3)) = some r:=by rw [if_pos rfl] at H;exact H
       clear H
       have H:=H1
       clear H1
       have H':=zA H
       clear H
       have p204:0 ≤ (x4_1:Int):=zP (by assumption)
       have q204:x4_1 < (l0.length:Int):=zP (by assumption)
       obtain ⟨ad204,e204,hx204_0,hx204_1,hx204_2,hx204_3⟩:=at_T74 HR0.out x4_1 p204 q204
       cases e204
       replace hx204_0:=(HB.out.cell (zB w _ hx204_0)).trans hx204_0
       replace hx204_1:=(HB.out.cell (zB w _ hx204_1)).trans hx204_1
       replace hx204_2:=(HB.out.cell (zB w _ hx204_2)).trans hx204_2
       replace hx204_3:=(HB.out.cell (zB w _ hx204_3)).trans hx204_3
       replace p204:=eq_true p204
       replace q204:=eq_true q204
       go_wp2_with (first|((with_reducible refine zV (N:=5) rfl ?_);refine zW ?hg (N:=5) ?hd (cs:=#[.string (⟨#[]⟩:ByteArray),.int .i64 0,.int .i64 0,.int .i64 0]) (t:=74) ?hr ?_;(case hd=>rfl);(case hg=>rfl);(case hr=>first|(go_simp;done)|(go_simp;rfl));intro gb205 hg w7 hbox hb;have n0_:=zA (zH (by repeat (first|(with_reducible first|exact HB.out|apply zD|apply zC|apply zE)|exact HB.out)) hb);have n1_:=zA (hbox);have n2_:=zA ((by rw [hg];exact (zG (by repeat (first|(with_reducible first|exact HB.out|apply zD|apply zC|apply zE)|exact HB.out))):w.heap.size ≤ gb205));have n3_:=zA ((by rw [hg];exact (zG (by repeat (first|(with_reducible first|exact HB.out|apply zD|apply zC|apply zE)|exact HB.out))):w.heap.size ≤ gb205));clear HB;have HB:=n0_;have BK205:=n1_;have GW205:=n2_;have GE205:=n3_;clear n0_ n1_ n2_ n3_;clear hb hbox hg;have hcz8_0:w7.cell? ⟨gb205,0,none⟩ = some (.string (⟨#[]⟩:ByteArray)):=(zI BK205.out 0).trans rfl;have hcz8_1:w7.cell? ⟨gb205,1,none⟩ = some (.int .i64 0):=(zI BK205.out 1).trans rfl;have hcz8_2:w7.cell? ⟨gb205,2,none⟩ = some (.int .i64 0):=(zI BK205.out 2).trans rfl;have hcz8_3:w7.cell? ⟨gb205,3,none⟩ = some (.int .i64 0):=(zI BK205.out 3).trans rfl;have hfz8_0:=zJ BK205.out 0;have hfz8_1:=zJ BK205.out 1;have hfz8_2:=zJ BK205.out 2;have hfz8_3:=zJ BK205.out 3)|(go_at_call 68;(with_reducible refine (foretellref_NameMay.calls k1 ((rd_T74 l0 x4_1).f0) true _ A5.out).mono ?_);rintro e w' ⟨rfl,⟨nd,rfl⟩⟩;(try first|exact ⟨rfl,_,World.drewN_drewN _ _ _⟩|exact ⟨rfl,_,Eq.trans (World.drewN_drewN _ _ _) (congrArg (World.drewN _) (Nat.add_assoc _ _ _))⟩)))
       repeat (go_quiet (first|((with_reducible refine zV (N:=5) rfl ?_);refine zW ?hg (N:=5) ?hd (cs:=#[.string (⟨#[]⟩:ByteArray),.int .i64 0,.int .i64 0,.int .i64 0]) (t:=74) ?hr ?_;(case hd=>rfl);(case hg=>rfl);(case hr=>first|(go_simp;done)|(go_simp;rfl));intro gb205 hg w7 hbox hb;have n0_:=zA (zH (by repeat (first|(with_reducible first|exact HB.out|apply zD|apply zC|apply zE)|exact HB.out)) hb);have n1_:=zA (hbox);have n2_:=zA ((by rw [hg];exact (zG (by repeat (first|(with_reducible first|exact HB.out|apply zD|apply zC|apply zE)|exact HB.out))):w.heap.size ≤ gb205));have n3_:=zA ((by rw [hg];exact (zG (by repeat (first|(with_reducible first|exact HB.out|apply zD|apply zC|apply zE)|exact HB.out))):w.heap.size ≤ gb205));clear HB;have HB:=n0_;have BK205:=n1_;have GW205:=n2_;have GE205:=n3_;clear n0_ n1_ n2_ n3_;clear hb hbox hg;have hcz8_0:w7.cell? ⟨gb205,0,none⟩ = some (.string (⟨#[]⟩:ByteArray)):=(zI BK205.out 0).trans rfl;have hcz8_1:w7.cell? ⟨gb205,1,none⟩ = some (.int .i64 0):=(zI BK205.out 1).trans rfl;have hcz8_2:w7.cell? ⟨gb205,2,none⟩ = some (.int .i64 0):=(zI BK205.out 2).trans rfl;have hcz8_3:w7.cell? ⟨gb205,3,none⟩ = some (.int .i64 0):=(zI BK205.out 3).trans rfl;have hfz8_0:=zJ BK205.out 0;have hfz8_1:=zJ BK205.out 1;have hfz8_2:=zJ BK205.out 2;have hfz8_3:=zJ BK205.out 3)|(go_at_call 68;(with_reducible refine (foretellref_NameMay.calls k1 ((rd_T74 l0 x4_1).f0) true _ A5.out).mono ?_);rintro e w' ⟨rfl,⟨nd,rfl⟩⟩;(try first|exact ⟨rfl,_,World.drewN_drewN _ _ _⟩|exact ⟨rfl,_,Eq.trans (World.drewN_drewN _ _ _) (congrArg (World.drewN _) (Nat.add_assoc _ _ _))⟩)));try go_wp2_with (first|((with_reducible refine zV (N:=5) rfl ?_);refine zW ?hg (N:=5) ?hd (cs:=#[.string (⟨#[]⟩:ByteArray),.int .i64 0,.int .i64 0,.int .i64 0]) (t:=74) ?hr ?_;(case hd=>rfl);(case hg=>rfl);(case hr=>first|(go_simp;done)|(go_simp;rfl));intro gb205 hg w7 hbox hb;have n0_:=zA (zH (by repeat (first|(with_reducible first|exact HB.out|apply zD|apply zC|apply zE)|exact HB.out)) hb);have n1_:=zA (hbox);have n2_:=zA ((by rw [hg];exact (zG (by repeat (first|(with_reducible first|exact HB.out|apply zD|apply zC|apply zE)|exact HB.out))):w.heap.size ≤ gb205));have n3_:=zA ((by rw [hg];exact (zG (by repeat (first|(with_reducible first|exact HB.out|apply zD|apply zC|apply zE)|exact HB.out))):w.heap.size ≤ gb205));clear HB;have HB:=n0_;have BK205:=n1_;have GW205:=n2_;have GE205:=n3_;clear n0_ n1_ n2_ n3_;clear hb hbox hg;have hcz8_0:w7.cell? ⟨gb205,0,none⟩ = some (.string (⟨#[]⟩:ByteArray)):=(zI BK205.out 0).trans rfl;have hcz8_1:w7.cell? ⟨gb205,1,none⟩ = some (.int .i64 0):=(zI BK205.out 1).trans rfl;have hcz8_2:w7.cell? ⟨gb205,2,none⟩ = some (.int .i64 0):=(zI BK205.out 2).trans rfl;have hcz8_3:w7.cell? ⟨gb205,3,none⟩ = some (.int .i64 0):=(zI BK205.out 3).trans rfl;have hfz8_0:=zJ BK205.out 0;have hfz8_1:=zJ BK205.out 1;have hfz8_2:=zJ BK205.out 2;have hfz8_3:=zJ BK205.out 3)|(go_at_call 68;(with_reducible refine (foretellref_NameMay.calls k1 ((rd_T74 l0 x4_1).f0) true _ A5.out).mono ?_);rintro e w' ⟨rfl,⟨nd,rfl⟩⟩;(try first|exact ⟨rfl,_,World.drewN_drewN _ _ _⟩|exact ⟨rfl,_,Eq.trans (World.drewN_drewN _ _ _) (congrArg (World.drewN _) (Nat.add_assoc _ _ _))⟩))))
       go_loopg [6] k1 (fun kq v6 w'=>∃ (x6_2:Int),v6 = .int .i64 x6_2∧Aside0 (foretellref_variablesFault.l1 kq l0 x3_1 x4_1 x6_2 ((rd_T74 l0 x4_1).f0) ((rd_T74 l0 x4_1).f1) ((rd_T74 l0 x4_1).f2) ((rd_T74 l0 x4_1).f3) = some r)∧Aside0 (kq ≤ k1)∧Aside0 (w'.heap[gb205]? = some (.cells #[.string ((rd_T74 l0 x4_1).f0),.int .i64 ((rd_T74 l0 x4_1).f1),.int .i64 ((rd_T74 l0 x4_1).f2),.int .i64 ((rd_T74 l0 x4_1).f3)] 74 (0,0)))∧Aside0 (Below w.heap.size w w'))
       case atStart=>exact ⟨(0),(by first|rfl|(simp;done)|(simp [*];done)),H',⟨Nat.le_refl _⟩,⟨by (with_reducible repeat (first|refine zL ?_ _|refine zM ?_|refine zK ?_ _));refine zO (cs:=#[.string ((rd_T74 l0 x4_1).f0),.int .i64 ((rd_T74 l0 x4_1).f1),.int .i64 ((rd_T74 l0 x4_1).f2),.int .i64 0]) ?_ 3 _ rfl;(with_reducible repeat (first|refine zL ?_ _|refine zM ?_|refine zK ?_ _));refine zO (cs:=#[.string ((rd_T74 l0 x4_1).f0),.int .i64 ((rd_T74 l0 x4_1).f1),.int .i64 0,.int .i64 0]) ?_ 2 _ rfl;(with_reducible repeat (first|refine zL ?_ _|refine zM ?_|refine zK ?_ _));refine zO (cs:=#[.string ((rd_T74 l0 x4_1).f0),.int .i64 0,.int .i64 0,.int .i64 0]) ?_ 1 _ rfl;(with_reducible repeat (first|refine zL ?_ _|refine zM ?_|refine zK ?_ _));refine zO (cs:=#[.string (⟨#[]⟩:ByteArray),.int .i64 0,.int .i64 0,.int .i64 0]) ?_ 0 _ rfl;(with_reducible repeat (first|refine zL ?_ _|refine zM ?_|refine zK ?_ _));exact BK205.out⟩,⟨by repeat (first|(with_reducible first|exact HB.out|apply zD|apply zC|apply zE|refine zF ?_ GE205.out)|exact HB.out)⟩⟩
       case round =>
        clear H'
        try clear c2
        try clear c2b0
        try clear c2b1
        try clear p2
        try clear q2
        try clear hx2
        try clear c3
        try clear c3b0
        try clear c4
        try clear c4b0
        try clear c5
        try clear c6
        try clear hcz8_0
        try clear hcz8_1
        try clear hcz8_2
        try clear hcz8_3
        try clear hfz8_0
        try clear hfz8_1
        try clear hfz8_2
        try clear hfz8_3
        try clear hx204_0
        try clear hx204_1
        try clear hx204_2
        try clear hx204_3
        try clear p2
        try clear p204
        try clear q204
        obtain ⟨x6_2,rfl,HA,HK2,BK205,HB⟩:=hrel
        cases gk with
        | zero=>exact absurd HA.out (by simp [foretellref_variablesFault.l1])
        | succ k2 =>
         have H:=HA.out
         clear HA
         simp only [foretellref_variablesFault.l1] at H
         by_cases c9:x6_2 < x4_1
         ·rw [if_pos c9] at H
          have c9b0:decide (x6_2 < x4_1) = true:=zQ c9
          clear c9
          by_cases c10:0 ≤ x6_2
          ·rw [if_pos c10] at H
           have c10b0:decide (0 ≤ x6_2) = true:=zQ c10
           clear c10
           by_cases c11:x6_2 < (l0.length:Int)
           ·rw [if_pos c11] at H
            have c11b0:decide (x6_2 < (l0.length:Int)) = true:=zQ c11
            clear c11
            by_cases c12:((rd_T74 l0 x6_2).f0).toList = ((rd_T74 l0 x4_1).f0).toList
            ·rw [if_pos c12] at H
             have c12b0:(((rd_T74 l0 x6_2).f0).toList == ((rd_T74 l0 x4_1).f0).toList) = true:=beq_iff_eq.mpr c12
             have c12b1:(((rd_T74 l0 x6_2).f0).toList != ((rd_T74 l0 x4_1).f0).toList) = false:=bne_eq_false_iff_eq.mpr c12
             clear c12
             obtain rfl:=Option.some.inj H
             have p207:0 ≤ (x6_2:Int):=zP (by assumption)
             have q207:x6_2 < (l0.length:Int):=zP (by assumption)
             obtain ⟨ad207,e207,hx207_0,hx207_1,hx207_2,hx207_3⟩:=at_T74 HR0.out x6_2 p207 q207
             obtain rfl:ad204 = ad207:=(by injection e207)
             replace hx207_0:=(HB.out.cell (zB w _ hx207_0)).trans hx207_0
             replace hx207_1:=(HB.out.cell (zB w _ hx207_1)).trans hx207_1
             replace hx207_2:=(HB.out.cell (zB w _ hx207_2)).trans hx207_2
             replace hx207_3:=(HB.out.cell (zB w _ hx207_3)).trans hx207_3
             replace p207:=eq_true p207
             replace q207:=eq_true q207
             have hcz13_0:wr.cell? ⟨gb205,0,none⟩ = some (.string ((rd_T74 l0 x4_1).f0)):=(zI BK205.out 0).trans rfl
             have hcz13_1:wr.cell? ⟨gb205,1,none⟩ = some (.int .i64 ((rd_T74 l0 x4_1).f1)):=(zI BK205.out 1).trans rfl
             have hcz13_2:wr.cell? ⟨gb205,2,none⟩ = some (.int .i64 ((rd_T74 l0 x4_1).f2)):=(zI BK205.out 2).trans rfl
             have hcz13_3:wr.cell? ⟨gb205,3,none⟩ = some (.int .i64 ((rd_T74 l0 x4_1).f3)):=(zI BK205.out 3).trans rfl
             have hfz13_0:=zJ BK205.out 0
             have hfz13_1:=zJ BK205.out 1
             have hfz13_2:=zJ BK205.out 2
             have hfz13_3:=zJ BK205.out 3
             go_wp2
             repeat (go_quiet (fail);try go_wp2)
             go_ret
             exact ⟨by first|rfl|(simp [errW_none,errW_some] <;> rfl)|(simp [*,errW_none,errW_some] <;> rfl),by repeat (first|(with_reducible first|exact HB.out|apply zD|apply zC|apply zE|refine zF ?_ GE205.out)|exact HB.out)⟩
            ·rw [if_neg c12] at H
             have c12b0:(((rd_T74 l0 x6_2).f0).toList == ((rd_T74 l0 x4_1).f0).toList) = false:=beq_eq_false_iff_ne.mpr c12
             have c12b1:(((rd_T74 l0 x6_2).f0).toList != ((rd_T74 l0 x4_1).f0).toList) = true:=bne_iff_ne.mpr c12
             have H':=zA H
             clear H
             have p207:0 ≤ (x6_2:Int):=zP (by assumption)
             have q207:x6_2 < (l0.length:Int):=zP (by assumption)
             obtain ⟨ad207,e207,hx207_0,hx207_1,hx207_2,hx207_3⟩:=at_T74 HR0.out x6_2 p207 q207
             obtain rfl:ad204 = ad207:=(by injection e207)
             replace hx207_0:=(HB.out.cell (zB w _ hx207_0)).trans hx207_0
             replace hx207_1:=(HB.out.cell (zB w _ hx207_1)).trans hx207_1
             replace hx207_2:=(HB.out.cell (zB w _ hx207_2)).trans hx207_2
             replace hx207_3:=(HB.out.cell (zB w _ hx207_3)).trans hx207_3
             replace p207:=eq_true p207
             replace q207:=eq_true q207
             have hcz14_0:wr.cell? ⟨gb205,0,none⟩ = some (.string ((rd_T74 l0 x4_1).f0)):=(zI BK205.out 0).trans rfl
             have hcz14_1:wr.cell? ⟨gb205,1,none⟩ = some (.int .i64 ((rd_T74 l0 x4_1).f1)):=(zI BK205.out 1).trans rfl
             have hcz14_2:wr.cell? ⟨gb205,2,none⟩ = some (.int .i64 ((rd_T74 l0 x4_1).f2)):=(zI BK205.out 2).trans rfl
             have hcz14_3:wr.cell? ⟨gb205,3,none⟩ = some (.int .i64 ((rd_T74 l0 x4_1).f3)):=(zI BK205.out 3).trans rfl
             have hfz14_0:=zJ BK205.out 0
             have hfz14_1:=zJ BK205.out 1
             have hfz14_2:=zJ BK205.out 2
             have hfz14_3:=zJ BK205.out 3
             go_wp2
             repeat (go_quiet (fail);try go_wp2)
             go_roundg k2
             case measure=>have:=HK1.out;have:=HK2.out;omega
             case rel=>exact ⟨(wrap64 (x6_2 + 1)),(by first|rfl|(simp;done)|(simp [*];done)),H',⟨by have:=HK1.out;have:=HK2.out;omega⟩,⟨by (with_reducible repeat (first|refine zL ?_ _|refine zM ?_|refine zK ?_ _));exact BK205.out⟩,⟨by repeat (first|(with_reducible first|exact HB.out|apply zD|apply zC|apply zE|refine zF ?_ GE205.out)|exact HB.out)⟩⟩
           ·rw [if_neg c11] at H
            exact absurd H (by simp)
          ·rw [if_neg c10] at H
           exact absurd H (by simp)
         ·rw [if_neg c9] at H
          have c9b0:decide (x6_2 < x4_1) = false:=zR c9
          clear c9
          have HC15:=zA H
          clear H
          go_upto_region 15 with (fail)
          repeat (go_quiet (fail);go_upto_region 15 with (fail))
          go_cut [58] (fun v58 wc=>∃ (kq:Nat) (x58_14:Bool),v58 = .bool x58_14∧Aside0 (foretellref_variablesFault.j2 kq l0 x3_1 x4_1 x58_14 ((rd_T74 l0 x4_1).f0) ((rd_T74 l0 x4_1).f1) ((rd_T74 l0 x4_1).f2) ((rd_T74 l0 x4_1).f3) = some r)∧Aside0 (kq ≤ k2)∧Aside0 (wc.heap[gb205]? = some (.cells #[.string ((rd_T74 l0 x4_1).f0),.int .i64 ((rd_T74 l0 x4_1).f1),.int .i64 ((rd_T74 l0 x4_1).f2),.int .i64 ((rd_T74 l0 x4_1).f3)] 74 (0,0)))∧Aside0 (Below w.heap.size w wc))
          case first =>
           have H:=HC15.out
           clear HC15
           replace H:=zb.mp H
           obtain ⟨t208,A160,H⟩:=H
           replace H:(if t208 = true then ((foretellref_In.f ((rd_T74 l0 x4_1).f2) ((rd_T74 l0 x4_1).f1) 1000).bind fun t209=>(if t209 = true then ((foretellref_In.f ((rd_T74 l0 x4_1).f3) ((rd_T74 l0 x4_1).f1) ((rd_T74 l0 x4_1).f2)).bind fun t210=>(foretellref_variablesFault.j2 k2 l0 x3_1 x4_1 (!t210) ((rd_T74 l0 x4_1).f0) ((rd_T74 l0 x4_1).f1) ((rd_T74 l0 x4_1).f2) ((rd_T74 l0 x4_1).f3))) else (foretellref_variablesFault.j2 k2 l0 x3_1 x4_1 true ((rd_T74 l0 x4_1).f0) ((rd_T74 l0 x4_1).f1) ((rd_T74 l0 x4_1).f2) ((rd_T74 l0 x4_1).f3)))) else (foretellref_variablesFault.j2 k2 l0 x3_1 x4_1 true ((rd_T74 l0 x4_1).f0) ((rd_T74 l0 x4_1).f1) ((rd_T74 l0 x4_1).f2) ((rd_T74 l0 x4_1).f3))) = some r:=H
           have A16:=zA A160
           clear A160
           by_cases c17:t208 = true
           ·subst c17
            have H1:((foretellref_In.f ((rd_T74 l0 x4_1).f2) ((rd_T74 l0 x4_1).f1) 1000).bind fun t209=>(if t209 = true then ((foretellref_In.f ((rd_T74 l0 x4_1).f3) ((rd_T74 l0 x4_1).f1) ((rd_T74 l0 x4_1).f2)).bind fun t210=>(foretellref_variablesFault.j2 k2 l0 x3_1 x4_1 (!t210) ((rd_T74 l0 x4_1).f0) ((rd_T74 l0 x4_1).f1) ((rd_T74 l0 x4_1).f2) ((rd_T74 l0 x4_1).f3))) else (foretellref_variablesFault.j2 k2 l0 x3_1 x4_1 true ((rd_T74 l0 x4_1).f0) ((rd_T74 l0 x4_1).f1) ((rd_T74 l0 x4_1).f2) ((rd_T74 l0 x4_1).f3)))) = some r:=by rw [if_pos rfl] at H;exact H
            clear H
            have H:=H1
            clear H1
            replace H:=zb.mp H
            obtain ⟨t209,A180,H⟩:=H
            replace H:(if t209 = true then ((foretellref_In.f ((rd_T74 l0 x4_1).f3) ((rd_T74 l0 x4_1).f1) ((rd_T74 l0 x4_1).f2)).bind fun t210=>(foretellref_variablesFault.j2 k2 l0 x3_1 x4_1 (!t210) ((rd_T74 l0 x4_1).f0) ((rd_T74 l0 x4_1).f1) ((rd_T74 l0 x4_1).f2) ((rd_T74 l0 x4_1).f3))) else (foretellref_variablesFault.j2 k2 l0 x3_1 x4_1 true ((rd_T74 l0 x4_1).f0) ((rd_T74 l0 x4_1).f1) ((rd_T74 l0 x4_1).f2) ((rd_T74 l0 x4_1).f3))) = some r:=H
            have A18:=zA A180
            clear A180
            by_cases c19:t209 = true
            ·subst c19
             have H1:((foretellref_In.f ((rd_T74 l0 x4_1).f3) ((rd_T74 l0 x4_1).f1) ((rd_T74 l0 x4_1).f2)).bind fun t210=>(foretellref_variablesFault.j2 k2 l0 x3_1 x4_1 (!t210) ((rd_T74 l0 x4_1).f0) ((rd_T74 l0 x4_1).f1) ((rd_T74 l0 x4_1).f2) ((rd_T74 l0 x4_1).f3))) = some r:=by rw [if_pos rfl] at H;exact H
             clear H
             have H:=H1
             clear H1
             replace H:=zb.mp H
             obtain ⟨t210,A200,H⟩:=H
             replace H:(foretellref_variablesFault.j2 k2 l0 x3_1 x4_1 (!t210) ((rd_T74 l0 x4_1).f0) ((rd_T74 l0 x4_1).f1) ((rd_T74 l0 x4_1).f2) ((rd_T74 l0 x4_1).f3)) = some r:=H
             have A20:=zA A200
             clear A200
             have H':=zA H
             clear H
             have hcz21_0:wr.cell? ⟨gb205,0,none⟩ = some (.string ((rd_T74 l0 x4_1).f0)):=(zI BK205.out 0).trans rfl
             have hcz21_1:wr.cell? ⟨gb205,1,none⟩ = some (.int .i64 ((rd_T74 l0 x4_1).f1)):=(zI BK205.out 1).trans rfl
             have hcz21_2:wr.cell? ⟨gb205,2,none⟩ = some (.int .i64 ((rd_T74 l0 x4_1).f2)):=(zI BK205.out 2).trans rfl
             have hcz21_3:wr.cell? ⟨gb205,3,none⟩ = some (.int .i64 ((rd_T74 l0 x4_1).f3)):=(zI BK205.out 3).trans rfl
             have hfz21_0:=zJ BK205.out 0
             have hfz21_1:=zJ BK205.out 1
             have hfz21_2:=zJ BK205.out 2
             have hfz21_3:=zJ BK205.out 3
             go_wp2_with (first|(go_at_call 56;(with_reducible refine (foretellref_In.calls ((rd_T74 l0 x4_1).f1) (-1000) 1000 true _ A16.out).mono ?_);rintro e w' ⟨rfl,⟨nd,rfl⟩⟩;(try first|exact ⟨rfl,_,World.drewN_drewN _ _ _⟩|exact ⟨rfl,_,Eq.trans (World.drewN_drewN _ _ _) (congrArg (World.drewN _) (Nat.add_assoc _ _ _))⟩))|(go_at_call 56;(with_reducible refine (foretellref_In.calls ((rd_T74 l0 x4_1).f2) ((rd_T74 l0 x4_1).f1) 1000 true _ A18.out).mono ?_);rintro e w' ⟨rfl,⟨nd,rfl⟩⟩;(try first|exact ⟨rfl,_,World.drewN_drewN _ _ _⟩|exact ⟨rfl,_,Eq.trans (World.drewN_drewN _ _ _) (congrArg (World.drewN _) (Nat.add_assoc _ _ _))⟩))|(go_at_call 56;(with_reducible refine (foretellref_In.calls ((rd_T74 l0 x4_1).f3) ((rd_T74 l0 x4_1).f1) ((rd_T74 l0 x4_1).f2) t210 _ A20.out).mono ?_);rintro e w' ⟨rfl,⟨nd,rfl⟩⟩;(try first|exact ⟨rfl,_,World.drewN_drewN _ _ _⟩|exact ⟨rfl,_,Eq.trans (World.drewN_drewN _ _ _) (congrArg (World.drewN _) (Nat.add_assoc _ _ _))⟩)))
             repeat (go_quiet (first|(go_at_call 56;(with_reducible refine (foretellref_In.calls ((rd_T74 l0 x4_1).f1) (-1000) 1000 true _ A16.out).mono ?_);rintro e w' ⟨rfl,⟨nd,rfl⟩⟩;(try first|exact ⟨rfl,_,World.drewN_drewN _ _ _⟩|exact ⟨rfl,_,Eq.trans (World.drewN_drewN _ _ _) (congrArg (World.drewN _) (Nat.add_assoc _ _ _))⟩))|(go_at_call 56;(with_reducible refine (foretellref_In.calls ((rd_T74 l0 x4_1).f2) ((rd_T74 l0 x4_1).f1) 1000 true _ A18.out).mono ?_);rintro e w' ⟨rfl,⟨nd,rfl⟩⟩;(try first|exact ⟨rfl,_,World.drewN_drewN _ _ _⟩|exact ⟨rfl,_,Eq.trans (World.drewN_drewN _ _ _) (congrArg (World.drewN _) (Nat.add_assoc _ _ _))⟩))|(go_at_call 56;(with_reducible refine (foretellref_In.calls ((rd_T74 l0 x4_1).f3) ((rd_T74 l0 x4_1).f1) ((rd_T74 l0 x4_1).f2) t210 _ A20.out).mono ?_);rintro e w' ⟨rfl,⟨nd,rfl⟩⟩;(try first|exact ⟨rfl,_,World.drewN_drewN _ _ _⟩|exact ⟨rfl,_,Eq.trans (World.drewN_drewN _ _ _) (congrArg (World.drewN _) (Nat.add_assoc _ _ _))⟩)));try go_wp2_with (first|(go_at_call 56;(with_reducible refine (foretellref_In.calls ((rd_T74 l0 x4_1).f1) (-1000) 1000 true _ A16.out).mono ?_);rintro e w' ⟨rfl,⟨nd,rfl⟩⟩;(try first|exact ⟨rfl,_,World.drewN_drewN _ _ _⟩|exact ⟨rfl,_,Eq.trans (World.drewN_drewN _ _ _) (congrArg (World.drewN _) (Nat.add_assoc _ _ _))⟩))|(go_at_call 56;(with_reducible refine (foretellref_In.calls ((rd_T74 l0 x4_1).f2) ((rd_T74 l0 x4_1).f1) 1000 true _ A18.out).mono ?_);rintro e w' ⟨rfl,⟨nd,rfl⟩⟩;(try first|exact ⟨rfl,_,World.drewN_drewN _ _ _⟩|exact ⟨rfl,_,Eq.trans (World.drewN_drewN _ _ _) (congrArg (World.drewN _) (Nat.add_assoc _ _ _))⟩))|(go_at_call 56;(with_reducible refine (foretellref_In.calls ((rd_T74 l0 x4_1).f3) ((rd_T74 l0 x4_1).f1) ((rd_T74 l0 x4_1).f2) t210 _ A20.out).mono ?_);rintro e w' ⟨rfl,⟨nd,rfl⟩⟩;(try first|exact ⟨rfl,_,World.drewN_drewN _ _ _⟩|exact ⟨rfl,_,Eq.trans (World.drewN_drewN _ _ _) (congrArg (World.drewN _) (Nat.add_assoc _ _ _))⟩))))
             go_meet
             case rel=>exact ⟨_,(!t210),(by first|rfl|(simp;done)|(simp [*];done)),H',⟨by have:=HK1.out;have:=HK2.out;first|omega|exact Nat.le_refl _⟩,⟨by (with_reducible repeat (first|refine zL ?_ _|refine zM ?_|refine zK ?_ _));exact BK205.out⟩,⟨by repeat (first|(with_reducible first|exact HB.out|apply zD|apply zC|apply zE|refine zF ?_ GE205.out)|exact HB.out)⟩⟩
            ·replace c19:=Bool.eq_false_iff.mpr c19
             subst c19
             have H1:(foretellref_variablesFault.j2 k2 l0 x3_1 x4_1 true ((rd_T74 l0 x4_1).f0) ((rd_T74 l0 x4_1).f1) ((rd_T74 l0 x4_1).f2) ((rd_T74 l0 x4_1).f3)) = some r:=by rw [if_neg (show ¬ (false = true) by decide)] at H;exact H
             clear H
             have H:=H1
             clear H1
             have H':=zA H
             clear H
             have hcz22_0:wr.cell? ⟨gb205,0,none⟩ = some (.string ((rd_T74 l0 x4_1).f0)):=(zI BK205.out 0).trans rfl
             have hcz22_1:wr.cell? ⟨gb205,1,none⟩ = some (.int .i64 ((rd_T74 l0 x4_1).f1)):=(zI BK205.out 1).trans rfl
             have hcz22_2:wr.cell? ⟨gb205,2,none⟩ = some (.int .i64 ((rd_T74 l0 x4_1).f2)):=(zI BK205.out 2).trans rfl
             have hcz22_3:wr.cell? ⟨gb205,3,none⟩ = some (.int .i64 ((rd_T74 l0 x4_1).f3)):=(zI BK205.out 3).trans rfl
             have hfz22_0:=zJ BK205.out 0
             have hfz22_1:=zJ BK205.out 1
             have hfz22_2:=zJ BK205.out 2
             have hfz22_3:=zJ BK205.out 3
             go_wp2_with (first|(go_at_call 56;(with_reducible refine (foretellref_In.calls ((rd_T74 l0 x4_1).f1) (-1000) 1000 true _ A16.out).mono ?_);rintro e w' ⟨rfl,⟨nd,rfl⟩⟩;(try first|exact ⟨rfl,_,World.drewN_drewN _ _ _⟩|exact ⟨rfl,_,Eq.trans (World.drewN_drewN _ _ _) (congrArg (World.drewN _) (Nat.add_assoc _ _ _))⟩))|(go_at_call 56;(with_reducible refine (foretellref_In.calls ((rd_T74 l0 x4_1).f2) ((rd_T74 l0 x4_1).f1) 1000 false _ A18.out).mono ?_);rintro e w' ⟨rfl,⟨nd,rfl⟩⟩;(try first|exact ⟨rfl,_,World.drewN_drewN _ _ _⟩|exact ⟨rfl,_,Eq.trans (World.drewN_drewN _ _ _) (congrArg (World.drewN _) (Nat.add_assoc _ _ _))⟩)))
             repeat (go_quiet (first|(go_at_call 56;(with_reducible refine (foretellref_In.calls ((rd_T74 l0 x4_1).f1) (-1000) 1000 true _ A16.out).mono ?_);rintro e w' ⟨rfl,⟨nd,rfl⟩⟩;(try first|exact ⟨rfl,_,World.drewN_drewN _ _ _⟩|exact ⟨rfl,_,Eq.trans (World.drewN_drewN _ _ _) (congrArg (World.drewN _) (Nat.add_assoc _ _ _))⟩))|(go_at_call 56;(with_reducible refine (foretellref_In.calls ((rd_T74 l0 x4_1).f2) ((rd_T74 l0 x4_1).f1) 1000 false _ A18.out).mono ?_);rintro e w' ⟨rfl,⟨nd,rfl⟩⟩;(try first|exact ⟨rfl,_,World.drewN_drewN _ _ _⟩|exact ⟨rfl,_,Eq.trans (World.drewN_drewN _ _ _) (congrArg (World.drewN _) (Nat.add_assoc _ _ _))⟩)));try go_wp2_with (first|(go_at_call 56;(with_reducible refine (foretellref_In.calls ((rd_T74 l0 x4_1).f1) (-1000) 1000 true _ A16.out).mono ?_);rintro e w' ⟨rfl,⟨nd,rfl⟩⟩;(try first|exact ⟨rfl,_,World.drewN_drewN _ _ _⟩|exact ⟨rfl,_,Eq.trans (World.drewN_drewN _ _ _) (congrArg (World.drewN _) (Nat.add_assoc _ _ _))⟩))|(go_at_call 56;(with_reducible refine (foretellref_In.calls ((rd_T74 l0 x4_1).f2) ((rd_T74 l0 x4_1).f1) 1000 false _ A18.out).mono ?_);rintro e w' ⟨rfl,⟨nd,rfl⟩⟩;(try first|exact ⟨rfl,_,World.drewN_drewN _ _ _⟩|exact ⟨rfl,_,Eq.trans (World.drewN_drewN _ _ _) (congrArg (World.drewN _) (Nat.add_assoc _ _ _))⟩))))
             go_meet
             case rel=>exact ⟨_,(true),(by first|rfl|(simp;done)|(simp [*];done)),H',⟨by have:=HK1.out;have:=HK2.out;first|omega|exact Nat.le_refl _⟩,⟨by (with_reducible repeat (first|refine zL ?_ _|refine zM ?_|refine zK ?_ _));exact BK205.out⟩,⟨by repeat (first|(with_reducible first|exact HB.out|apply zD|apply zC|apply zE|refine zF ?_ GE205.out)|exact HB.out)⟩⟩
           ·replace c17:=Bool.eq_false_iff.mpr c17
            subst c17
            have H1:(foretellref_variablesFault.j2 k2 l0 x3_1 x4_1 true ((rd_T74 l0 x4_1).f0) ((rd_T74 l0 x4_1).f1) ((rd_T74 l0 x4_1).f2) ((rd_T74 l0 x4_1).f3)) = some r:=by rw [if_neg (show ¬ (false = true) by decide)] at H;exact H
            clear H
            have H:=H1
            clear H1
            have H':=zA H
            clear H
            have hcz23_0:wr.cell? ⟨gb205,0,none⟩ = some (.string ((rd_T74 l0 x4_1).f0)):=(zI BK205.out 0).trans rfl
            have hcz23_1:wr.cell? ⟨gb205,1,none⟩ = some (.int .i64 ((rd_T74 l0 x4_1).f1)):=(zI BK205.out 1).trans rfl
            have hcz23_2:wr.cell? ⟨gb205,2,none⟩ = some (.int .i64 ((rd_T74 l0 x4_1).f2)):=(zI BK205.out 2).trans rfl
            have hcz23_3:wr.cell? ⟨gb205,3,none⟩ = some (.int .i64 ((rd_T74 l0 x4_1).f3)):=(zI BK205.out 3).trans rfl
            have hfz23_0:=zJ BK205.out 0
            have hfz23_1:=zJ BK205.out 1
            have hfz23_2:=zJ BK205.out 2
            have hfz23_3:=zJ BK205.out 3
            go_wp2_with (first|(go_at_call 56;(with_reducible refine (foretellref_In.calls ((rd_T74 l0 x4_1).f1) (-1000) 1000 false _ A16.out).mono ?_);rintro e w' ⟨rfl,⟨nd,rfl⟩⟩;(try first|exact ⟨rfl,_,World.drewN_drewN _ _ _⟩|exact ⟨rfl,_,Eq.trans (World.drewN_drewN _ _ _) (congrArg (World.drewN _) (Nat.add_assoc _ _ _))⟩)))
            repeat (go_quiet (first|(go_at_call 56;(with_reducible refine (foretellref_In.calls ((rd_T74 l0 x4_1).f1) (-1000) 1000 false _ A16.out).mono ?_);rintro e w' ⟨rfl,⟨nd,rfl⟩⟩;(try first|exact ⟨rfl,_,World.drewN_drewN _ _ _⟩|exact ⟨rfl,_,Eq.trans (World.drewN_drewN _ _ _) (congrArg (World.drewN _) (Nat.add_assoc _ _ _))⟩)));try go_wp2_with (first|(go_at_call 56;(with_reducible refine (foretellref_In.calls ((rd_T74 l0 x4_1).f1) (-1000) 1000 false _ A16.out).mono ?_);rintro e w' ⟨rfl,⟨nd,rfl⟩⟩;(try first|exact ⟨rfl,_,World.drewN_drewN _ _ _⟩|exact ⟨rfl,_,Eq.trans (World.drewN_drewN _ _ _) (congrArg (World.drewN _) (Nat.add_assoc _ _ _))⟩))))
            go_meet
            case rel=>exact ⟨_,(true),(by first|rfl|(simp;done)|(simp [*];done)),H',⟨by have:=HK1.out;have:=HK2.out;first|omega|exact Nat.le_refl _⟩,⟨by (with_reducible repeat (first|refine zL ?_ _|refine zM ?_|refine zK ?_ _));exact BK205.out⟩,⟨by repeat (first|(with_reducible first|exact HB.out|apply zD|apply zC|apply zE|refine zF ?_ GE205.out)|exact HB.out)⟩⟩
          case rest =>
           clear HC15
           try clear c1
           try clear c2
           try clear c2b0
           try clear c2b1
           try clear p2
           try clear q2
           try clear hx2
           try clear c3
           try clear c3b0
           try clear c4
           try clear c4b0
           try clear c5
           try clear c6
           try clear p6
           try clear c9
           try clear c9b0
           try clear c10
           try clear c10b0
           try clear c11
           try clear c11b0
           try clear c12
           try clear c12b0
           try clear c12b1
           try clear c17
           try clear c19
           try clear p20
           try clear q20
           try clear hx20
           try clear hcz13_0
           try clear hcz13_1
           try clear hcz13_2
           try clear hcz13_3
           try clear hcz14_0
           try clear hcz14_1
           try clear hcz14_2
           try clear hcz14_3
           try clear hcz21_0
           try clear hcz21_1
           try clear hcz21_2
           try clear hcz21_3
           try clear hcz22_0
           try clear hcz22_1
           try clear hcz22_2
           try clear hcz22_3
           try clear hcz23_0
           try clear hcz23_1
           try clear hcz23_2
           try clear hcz23_3
           try clear hcz8_0
           try clear hcz8_1
           try clear hcz8_2
           try clear hcz8_3
           try clear hfz13_0
           try clear hfz13_1
           try clear hfz13_2
           try clear hfz13_3
           try clear hfz14_0
           try clear hfz14_1
           try clear hfz14_2
           try clear hfz14_3
           try clear hfz21_0
           try clear hfz21_1
           try clear hfz21_2
           try clear hfz21_3
           try clear hfz22_0
           try clear hfz22_1
           try clear hfz22_2
           try clear hfz22_3
           try clear hfz23_0
           try clear hfz23_1
           try clear hfz23_2
           try clear hfz23_3
           try clear hfz8_0
           try clear hfz8_1
           try clear hfz8_2
           try clear hfz8_3
           try clear hx204_0
           try clear hx204_1
           try clear hx204_2
           try clear hx204_3
           try clear hx207_0
           try clear hx207_1
           try clear hx207_2
           try clear hx207_3
           try clear p2
           try clear p204
           try clear p207
           try clear q2
           try clear q204
           try clear q207
           obtain ⟨kq,x58_14,rfl,HA,HJ14,BK205,HB⟩:=hcut
           cases kq with
           | zero=>exact absurd HA.out (by simp [foretellref_variablesFault.j2])
           | succ kj14 =>
            have H:=HA.out
            clear HA
            simp only [foretellref_variablesFault.j2] at H
            by_cases c24:x58_14 = true
            ·subst c24
             have H1:(some 2) = some r:=by rw [if_pos rfl] at H;exact H
             clear H
             have H:=H1
             clear H1
             obtain rfl:=Option.some.inj H
             go_wp2
             repeat (go_quiet (fail);try go_wp2)
             go_ret
             exact ⟨by first|rfl|(simp [errW_none,errW_some] <;> rfl)|(simp [*,errW_none,errW_some] <;> rfl),by repeat (first|(with_reducible first|exact HB.out|apply zD|apply zC|apply zE|refine zF ?_ GE205.out)|exact HB.out)⟩
            ·replace c24:=Bool.eq_false_iff.mpr c24
             subst c24
             have H1:(if (wrap64 (((rd_T74 l0 x4_1).f2) - ((rd_T74 l0 x4_1).f1))) > 63 then (some 1) else (if (wrap64 (x3_1 * (wrap64 ((wrap64 (((rd_T74 l0 x4_1).f2) - ((rd_T74 l0 x4_1).f1))) + 1)))) > 4096 then (some 1) else (foretellref_variablesFault.l0 kj14 l0 (wrap64 (x3_1 * (wrap64 ((wrap64 (((rd_T74 l0 x4_1).f2) - ((rd_T74 l0 x4_1).f1))) + 1)))) (wrap64 (x4_1 + 1))))) = some r:=by rw [if_neg (show ¬ (false = true) by decide)] at H;exact H
             clear H
             have H:=H1
             clear H1
             by_cases c25:(wrap64 (((rd_T74 l0 x4_1).f2) - ((rd_T74 l0 x4_1).f1))) > 63
             ·rw [if_pos c25] at H
              have c25b0:decide (63 < (wrap64 (((rd_T74 l0 x4_1).f2) - ((rd_T74 l0 x4_1).f1)))) = true:=zQ c25
              clear c25
              obtain rfl:=Option.some.inj H
              have hcz26_0:wc.cell? ⟨gb205,0,none⟩ = some (.string ((rd_T74 l0 x4_1).f0)):=(zI BK205.out 0).trans rfl
              have hcz26_1:wc.cell? ⟨gb205,1,none⟩ = some (.int .i64 ((rd_T74 l0 x4_1).f1)):=(zI BK205.out 1).trans rfl
              have hcz26_2:wc.cell? ⟨gb205,2,none⟩ = some (.int .i64 ((rd_T74 l0 x4_1).f2)):=(zI BK205.out 2).trans rfl
              have hcz26_3:wc.cell? ⟨gb205,3,none⟩ = some (.int .i64 ((rd_T74 l0 x4_1).f3)):=(zI BK205.out 3).trans rfl
              have hfz26_0:=zJ BK205.out 0
              have hfz26_1:=zJ BK205.out 1
              have hfz26_2:=zJ BK205.out 2
              have hfz26_3:=zJ BK205.out 3
              go_wp2
              repeat (go_quiet (fail);try go_wp2)
              go_ret
              exact ⟨by first|rfl|(simp [errW_none,errW_some] <;> rfl)|(simp [*,errW_none,errW_some] <;> rfl),by repeat (first|(with_reducible first|exact HB.out|apply zD|apply zC|apply zE|refine zF ?_ GE205.out)|exact HB.out)⟩
             ·rw [if_neg c25] at H
              have c25b0:decide (63 < (wrap64 (((rd_T74 l0 x4_1).f2) - ((rd_T74 l0 x4_1).f1)))) = false:=zR c25
              clear c25
              by_cases c27:(wrap64 (x3_1 * (wrap64 ((wrap64 (((rd_T74 l0 x4_1).f2) - ((rd_T74 l0 x4_1).f1))) + 1)))) > 4096
              ·rw [if_pos c27] at H
               have c27b0:decide (4096 < (wrap64 (x3_1 * (wrap64 ((wrap64 (((rd_T74 l0 x4_1).f2) - ((rd_T74 l0 x4_1).f1))) + 1))))) = true:=zQ c27
               clear c27
               obtain rfl:=Option.some.inj H
               have hcz28_0:wc.cell? ⟨gb205,0,none⟩ = some (.string ((rd_T74 l0 x4_1).f0)):=(zI BK205.out 0).trans rfl
               have hcz28_1:wc.cell? ⟨gb205,1,none⟩ = some (.int .i64 ((rd_T74 l0 x4_1).f1)):=(zI BK205.out 1).trans rfl
               have hcz28_2:wc.cell? ⟨gb205,2,none⟩ = some (.int .i64 ((rd_T74 l0 x4_1).f2)):=(zI BK205.out 2).trans rfl
               have hcz28_3:wc.cell? ⟨gb205,3,none⟩ = some (.int .i64 ((rd_T74 l0 x4_1).f3)):=(zI BK205.out 3).trans rfl
               have hfz28_0:=zJ BK205.out 0
               have hfz28_1:=zJ BK205.out 1
               have hfz28_2:=zJ BK205.out 2
               have hfz28_3:=zJ BK205.out 3
               go_wp2
               repeat (go_quiet (fail);try go_wp2)
               go_ret
               exact ⟨by first|rfl|(simp [errW_none,errW_some] <;> rfl)|(simp [*,errW_none,errW_some] <;> rfl),by repeat (first|(with_reducible first|exact HB.out|apply zD|apply zC|apply zE|refine zF ?_ GE205.out)|exact HB.out)⟩
              ·rw [if_neg c27] at H
               have c27b0:decide (4096 < (wrap64 (x3_1 * (wrap64 ((wrap64 (((rd_T74 l0 x4_1).f2) - ((rd_T74 l0 x4_1).f1))) + 1))))) = false:=zR c27
               clear c27
               have H':=zA H
               clear H
               have hcz29_0:wc.cell? ⟨gb205,0,none⟩ = some (.string ((rd_T74 l0 x4_1).f0)):=(zI BK205.out 0).trans rfl
               have hcz29_1:wc.cell? ⟨gb205,1,none⟩ = some (.int .i64 ((rd_T74 l0 x4_1).f1)):=(zI BK205.out 1).trans rfl
               have hcz29_2:wc.cell? ⟨gb205,2,none⟩ = some (.int .i64 ((rd_T74 l0 x4_1).f2)):=(zI BK205.out 2).trans rfl
               have hcz29_3:wc.cell? ⟨gb205,3,none⟩ = some (.int .i64 ((rd_T74 l0 x4_1).f3)):=(zI BK205.out 3).trans rfl
               have hfz29_0:=zJ BK205.out 0
               have hfz29_1:=zJ BK205.out 1
               have hfz29_2:=zJ BK205.out 2
               have hfz29_3:=zJ BK205.out 3
               go_wp2
               repeat (go_quiet (fail);try go_wp2)
               go_roundg kj14
               case measure=>have:=HK1.out;have:=HK2.out;have:=HJ14.out;omega
               case rel=>exact ⟨(wrap64 (x3_1 * (wrap64 ((wrap64 (((rd_T74 l0 x4_1).f2) - ((rd_T74 l0 x4_1).f1))) + 1)))),(wrap64 (x4_1 + 1)),(by first|rfl|(simp;done)|(simp [*];done)),(by first|rfl|(simp;done)|(simp [*];done)),H',⟨by have:=HK1.out;have:=HK2.out;have:=HJ14.out;omega⟩,⟨by repeat (first|(with_reducible first|exact HB.out|apply zD|apply zC|apply zE|refine zF ?_ GE205.out)|exact HB.out)⟩⟩
      ·replace c6:=Bool.eq_false_iff.mpr c6
       subst c6
       have H1:(some 6) = some r:=by rw [if_neg (show ¬ (false = true) by decide)] at H;exact H
       clear H
       have H:=H1
       clear H1
       obtain rfl:=Option.some.inj H
       have p204:0 ≤ (x4_1:Int):=zP (by assumption)
       have q204:x4_1 < (l0.length:Int):=zP (by assumption)
       obtain ⟨ad204,e204,hx204_0,hx204_1,hx204_2,hx204_3⟩:=at_T74 HR0.out x4_1 p204 q204
       cases e204
       replace hx204_0:=(HB.out.cell (zB w _ hx204_0)).trans hx204_0
       replace hx204_1:=(HB.out.cell (zB w _ hx204_1)).trans hx204_1
       replace hx204_2:=(HB.out.cell (zB w _ hx204_2)).trans hx204_2
       replace hx204_3:=(HB.out.cell (zB w _ hx204_3)).trans hx204_3
       replace p204:=eq_true p204
       replace q204:=eq_true q204
       go_wp2_with (first|((with_reducible refine zV (N:=5) rfl ?_);refine zW ?hg (N:=5) ?hd (cs:=#[.string (⟨#[]⟩:ByteArray),.int .i64 0,.int .i64 0,.int .i64 0]) (t:=74) ?hr ?_;(case hd=>rfl);(case hg=>rfl);(case hr=>first|(go_simp;done)|(go_simp;rfl));intro gb205 hg w30 hbox hb;have n0_:=zA (zH (by repeat (first|(with_reducible first|exact HB.out|apply zD|apply zC|apply zE)|exact HB.out)) hb);have n1_:=zA (hbox);have n2_:=zA ((by rw [hg];exact (zG (by repeat (first|(with_reducible first|exact HB.out|apply zD|apply zC|apply zE)|exact HB.out))):w.heap.size ≤ gb205));have n3_:=zA ((by rw [hg];exact (zG (by repeat (first|(with_reducible first|exact HB.out|apply zD|apply zC|apply zE)|exact HB.out))):w.heap.size ≤ gb205));clear HB;have HB:=n0_;have BK205:=n1_;have GW205:=n2_;have GE205:=n3_;clear n0_ n1_ n2_ n3_;clear hb hbox hg;have hcz31_0:w30.cell? ⟨gb205,0,none⟩ = some (.string (⟨#[]⟩:ByteArray)):=(zI BK205.out 0).trans rfl;have hcz31_1:w30.cell? ⟨gb205,1,none⟩ = some (.int .i64 0):=(zI BK205.out 1).trans rfl;have hcz31_2:w30.cell? ⟨gb205,2,none⟩ = some (.int .i64 0):=(zI BK205.out 2).trans rfl;have hcz31_3:w30.cell? ⟨gb205,3,none⟩ = some (.int .i64 0):=(zI BK205.out 3).trans rfl;have hfz31_0:=zJ BK205.out 0;have hfz31_1:=zJ BK205.out 1;have hfz31_2:=zJ BK205.out 2;have hfz31_3:=zJ BK205.out 3)|(go_at_call 68;(with_reducible refine (foretellref_NameMay.calls k1 ((rd_T74 l0 x4_1).f0) false _ A5.out).mono ?_);rintro e w' ⟨rfl,⟨nd,rfl⟩⟩;(try first|exact ⟨rfl,_,World.drewN_drewN _ _ _⟩|exact ⟨rfl,_,Eq.trans (World.drewN_drewN _ _ _) (congrArg (World.drewN _) (Nat.add_assoc _ _ _))⟩)))
       repeat (go_quiet (first|((with_reducible refine zV (N:=5) rfl ?_);refine zW ?hg (N:=5) ?hd (cs:=#[.string (⟨#[]⟩:ByteArray),.int .i64 0,.int .i64 0,.int .i64 0]) (t:=74) ?hr ?_;(case hd=>rfl);(case hg=>rfl);(case hr=>first|(go_simp;done)|(go_simp;rfl));intro gb205 hg w30 hbox hb;have n0_:=zA (zH (by repeat (first|(with_reducible first|exact HB.out|apply zD|apply zC|apply zE)|exact HB.out)) hb);have n1_:=zA (hbox);have n2_:=zA ((by rw [hg];exact (zG (by repeat (first|(with_reducible first|exact HB.out|apply zD|apply zC|apply zE)|exact HB.out))):w.heap.size ≤ gb205));have n3_:=zA ((by rw [hg];exact (zG (by repeat (first|(with_reducible first|exact HB.out|apply zD|apply zC|apply zE)|exact HB.out))):w.heap.size ≤ gb205));clear HB;have HB:=n0_;have BK205:=n1_;have GW205:=n2_;have GE205:=n3_;clear n0_ n1_ n2_ n3_;clear hb hbox hg;have hcz31_0:w30.cell? ⟨gb205,0,none⟩ = some (.string (⟨#[]⟩:ByteArray)):=(zI BK205.out 0).trans rfl;have hcz31_1:w30.cell? ⟨gb205,1,none⟩ = some (.int .i64 0):=(zI BK205.out 1).trans rfl;have hcz31_2:w30.cell? ⟨gb205,2,none⟩ = some (.int .i64 0):=(zI BK205.out 2).trans rfl;have hcz31_3:w30.cell? ⟨gb205,3,none⟩ = some (.int .i64 0):=(zI BK205.out 3).trans rfl;have hfz31_0:=zJ BK205.out 0;have hfz31_1:=zJ BK205.out 1;have hfz31_2:=zJ BK205.out 2;have hfz31_3:=zJ BK205.out 3)|(go_at_call 68;(with_reducible refine (foretellref_NameMay.calls k1 ((rd_T74 l0 x4_1).f0) false _ A5.out).mono ?_);rintro e w' ⟨rfl,⟨nd,rfl⟩⟩;(try first|exact ⟨rfl,_,World.drewN_drewN _ _ _⟩|exact ⟨rfl,_,Eq.trans (World.drewN_drewN _ _ _) (congrArg (World.drewN _) (Nat.add_assoc _ _ _))⟩)));try go_wp2_with (first|((with_reducible refine zV (N:=5) rfl ?_);refine zW ?hg (N:=5) ?hd (cs:=#[.string (⟨#[]⟩:ByteArray),.int .i64 0,.int .i64 0,.int .i64 0]) (t:=74) ?hr ?_;(case hd=>rfl);(case hg=>rfl);(case hr=>first|(go_simp;done)|(go_simp;rfl));intro gb205 hg w30 hbox hb;have n0_:=zA (zH (by repeat (first|(with_reducible first|exact HB.out|apply zD|apply zC|apply zE)|exact HB.out)) hb);have n1_:=zA (hbox);have n2_:=zA ((by rw [hg];exact (zG (by repeat (first|(with_reducible first|exact HB.out|apply zD|apply zC|apply zE)|exact HB.out))):w.heap.size ≤ gb205));have n3_:=zA ((by rw [hg];exact (zG (by repeat (first|(with_reducible first|exact HB.out|apply zD|apply zC|apply zE)|exact HB.out))):w.heap.size ≤ gb205));clear HB;have HB:=n0_;have BK205:=n1_;have GW205:=n2_;have GE205:=n3_;clear n0_ n1_ n2_ n3_;clear hb hbox hg;have hcz31_0:w30.cell? ⟨gb205,0,none⟩ = some (.string (⟨#[]⟩:ByteArray)):=(zI BK205.out 0).trans rfl;have hcz31_1:w30.cell? ⟨gb205,1,none⟩ = some (.int .i64 0):=(zI BK205.out 1).trans rfl;have hcz31_2:w30.cell? ⟨gb205,2,none⟩ = some (.int .i64 0):=(zI BK205.out 2).trans rfl;have hcz31_3:w30.cell? ⟨gb205,3,none⟩ = some (.int .i64 0):=(zI BK205.out 3).trans rfl;have hfz31_0:=zJ BK205.out 0;have hfz31_1:=zJ BK205.out 1;have hfz31_2:=zJ BK205.out 2;have hfz31_3:=zJ BK205.out 3)|(go_at_call 68;(with_reducible refine (foretellref_NameMay.calls k1 ((rd_T74 l0 x4_1).f0) false _ A5.out).mono ?_);rintro e w' ⟨rfl,⟨nd,rfl⟩⟩;(try first|exact ⟨rfl,_,World.drewN_drewN _ _ _⟩|exact ⟨rfl,_,Eq.trans (World.drewN_drewN _ _ _) (congrArg (World.drewN _) (Nat.add_assoc _ _ _))⟩))))
       go_ret
       exact ⟨by first|rfl|(simp [errW_none,errW_some] <;> rfl)|(simp [*,errW_none,errW_some] <;> rfl),by repeat (first|(with_reducible first|exact HB.out|apply zD|apply zC|apply zE|refine zF ?_ GE205.out)|exact HB.out)⟩
     ·rw [if_neg c4] at H
      exact absurd H (by simp)
    ·rw [if_neg c3] at H
     have c3b0:decide (x4_1 < (l0.length:Int)) = false:=zR c3
     clear c3
     obtain rfl:=Option.some.inj H
     go_wp2
     repeat (go_quiet (fail);try go_wp2)
     go_ret
     exact ⟨by first|rfl|(simp [errW_none,errW_some] <;> rfl)|(simp [*,errW_none,errW_some] <;> rfl),by repeat (first|(with_reducible first|exact HB.out|apply zD|apply zC|apply zE)|exact HB.out)⟩
mutual
def foretellref_PartsOf.j0:Nat → Int → Bool → Option (Int × Int)
 | 0,_,_=>none
 | k + 1,x4,x5=>if x5 = true then (some (0,0)) else (if x4 = 10 then (foretellref_PartsOf.j1 k x4 (x4 == 10)) else (if x4 = 14 then (foretellref_PartsOf.j1 k x4 (x4 == 14)) else (if x4 = 17 then (foretellref_PartsOf.j1 k x4 (x4 == 17)) else (foretellref_PartsOf.j1 k x4 (x4 == 18)))))
def foretellref_PartsOf.j1:Nat → Int → Bool → Option (Int × Int)
 | 0,_,_=>none
 | k + 1,x4,x11=>if x11 = true then (some (1,0)) else (if x4 = 3 then (some (2,0)) else (if x4 = 4 then (some (2,0)) else (if x4 = 5 then (some (2,0)) else (if x4 = 6 then (some (2,0)) else (if x4 = 7 then (some (2,0)) else (if x4 = 8 then (some (2,0)) else (if x4 = 9 then (some (2,0)) else (if x4 = 15 then (some (2,0)) else (if x4 = 16 then (some (2,0)) else (some (0,13)))))))))))
end
def foretellref_PartsOf.f (k:Nat) (a0:Int):Option (Int × Int):=if a0 = 1 then (foretellref_PartsOf.j0 k a0 (a0 == 1)) else (if a0 = 2 then (foretellref_PartsOf.j0 k a0 (a0 == 2)) else (if a0 = 11 then (foretellref_PartsOf.j0 k a0 (a0 == 11)) else (if a0 = 12 then (foretellref_PartsOf.j0 k a0 (a0 == 12)) else (foretellref_PartsOf.j0 k a0 (a0 == 13)))))
theorem foretellref_PartsOf.mono_l:∀ k,(∀ y0 y1,LeO (foretellref_PartsOf.j0 k y0 y1) (foretellref_PartsOf.j0 (k + 1) y0 y1))∧(∀ y0 y1,LeO (foretellref_PartsOf.j1 k y0 y1) (foretellref_PartsOf.j1 (k + 1) y0 y1))
 | 0=>⟨fun _ _ r h=>by simp [foretellref_PartsOf.j0] at h,fun _ _ r h=>by simp [foretellref_PartsOf.j1] at h⟩
 | k + 1=>by
  obtain ⟨ih0,ih1⟩:=foretellref_PartsOf.mono_l k
  refine ⟨?_,?_⟩
  ·intro y0 y1
   unfold foretellref_PartsOf.j0
   repeat' first
   | (with_reducible exact ih0 _ _)
   | (with_reducible exact ih1 _ _)
   | (with_reducible exact LeO.refl _)
   | (with_reducible exact LeO.none _)
   | (with_reducible refine LeO.ite ?_ ?_)
   | (with_reducible refine LeO.bind ?_ (fun _=>?_))
   | exact ih0 _ _
   | exact ih1 _ _
   | exact LeO.none _
   | refine LeO.ite ?_ ?_
   | refine LeO.bind ?_ (fun _=>?_)
  ·intro y0 y1
   unfold foretellref_PartsOf.j1
   repeat' first
   | (with_reducible exact ih0 _ _)
   | (with_reducible exact ih1 _ _)
   | (with_reducible exact LeO.refl _)
   | (with_reducible exact LeO.none _)
   | (with_reducible refine LeO.ite ?_ ?_)
   | (with_reducible refine LeO.bind ?_ (fun _=>?_))
   | exact ih0 _ _
   | exact ih1 _ _
   | exact LeO.none _
   | refine LeO.ite ?_ ?_
   | refine LeO.bind ?_ (fun _=>?_)
theorem foretellref_PartsOf.mono:∀ a0 k,LeO (foretellref_PartsOf.f k a0) (foretellref_PartsOf.f (k + 1) a0):=by
 intro a0 k
 obtain ⟨ih0,ih1⟩:=foretellref_PartsOf.mono_l k
 unfold foretellref_PartsOf.f
 repeat' first
   | (with_reducible exact ih0 _ _)
   | (with_reducible exact ih1 _ _)
   | (with_reducible exact LeO.refl _)
   | (with_reducible exact LeO.none _)
   | (with_reducible refine LeO.ite ?_ ?_)
   | (with_reducible refine LeO.bind ?_ (fun _=>?_))
   | exact ih0 _ _
   | exact ih1 _ _
   | exact LeO.none _
   | refine LeO.ite ?_ ?_
   | refine LeO.bind ?_ (fun _=>?_)
set_option maxHeartbeats 8000000 in
set_option maxRecDepth 100000 in
theorem foretellref_PartsOf.calls (k:Nat) (a0:Int) (r1:Int) (r2:Int) (w:World) (h:foretellref_PartsOf.f k a0 = some (r1,r2)) :
  Calls Tryd.prog 115 #[.int .i64 a0] w fun e w'=>e = .returned (.tuple #[.int .i64 r1,.int .i64 r2])∧Drawn0 w w':=by
 have H:(if a0 = 1 then (foretellref_PartsOf.j0 k a0 (a0 == 1)) else (if a0 = 2 then (foretellref_PartsOf.j0 k a0 (a0 == 2)) else (if a0 = 11 then (foretellref_PartsOf.j0 k a0 (a0 == 11)) else (if a0 = 12 then (foretellref_PartsOf.j0 k a0 (a0 == 12)) else (foretellref_PartsOf.j0 k a0 (a0 == 13)))))) = some (r1,r2):=h
 clear h
 have HC2:=zA H
 clear H
 go_enter Tryd.func115,Tryd.ntmps115
 go_upto_if 5 with (fail)
 go_cut [5] (fun v5 wc=>∃ (kq:Nat) (x5_1:Bool),v5 = .bool x5_1∧Aside0 (foretellref_PartsOf.j0 kq a0 x5_1 = some (r1,r2))∧Aside0 (kq ≤ k)∧Drawn0 w wc)
 case first =>
  have H:=HC2.out
  clear HC2
  by_cases c3:a0 = 1
  ·rw [if_pos c3] at H
   have c3b0:(a0 == 1) = true:=beq_iff_eq.mpr c3
   have c3b1:(a0 != 1) = false:=bne_eq_false_iff_eq.mpr c3
   clear c3
   (first|rw [c3b0]|(simp only [i64_w,i32_w];rw [c3b0])|skip)
   have H':=zA H
   clear H
   go_wp2
   go_meet
   case rel=>exact ⟨_,((a0 == 1)),(by first|rfl|(simp;done)|(simp [*];done)),H',⟨by first|omega|exact Nat.le_refl _⟩,by repeat (first|exact Drawn0.refl _|apply Drawn0.step)⟩
  ·rw [if_neg c3] at H
   have c3b0:(a0 == 1) = false:=beq_eq_false_iff_ne.mpr c3
   have c3b1:(a0 != 1) = true:=bne_iff_ne.mpr c3
   (first|rw [c3b0]|(simp only [i64_w,i32_w];rw [c3b0])|skip)
   by_cases c4:a0 = 2
   ·rw [if_pos c4] at H
    have c4b0:(a0 == 2) = true:=beq_iff_eq.mpr c4
    have c4b1:(a0 != 2) = false:=bne_eq_false_iff_eq.mpr c4
    clear c4
    have H':=zA H
    clear H
    go_wp2
    go_meet
    case rel=>exact ⟨_,((a0 == 2)),(by first|rfl|(simp;done)|(simp [*];done)),H',⟨by first|omega|exact Nat.le_refl _⟩,by repeat (first|exact Drawn0.refl _|apply Drawn0.step)⟩
   ·rw [if_neg c4] at H
    have c4b0:(a0 == 2) = false:=beq_eq_false_iff_ne.mpr c4
    have c4b1:(a0 != 2) = true:=bne_iff_ne.mpr c4
    by_cases c5:a0 = 11
    ·rw [if_pos c5] at H
     have c5b0:(a0 == 11) = true:=beq_iff_eq.mpr c5
     have c5b1:(a0 != 11) = false:=bne_eq_false_iff_eq.mpr c5
     clear c5
     have H':=zA H
     clear H
     go_wp2
     go_meet
     case rel=>exact ⟨_,((a0 == 11)),(by first|rfl|(simp;done)|(simp [*];done)),H',⟨by first|omega|exact Nat.le_refl _⟩,by repeat (first|exact Drawn0.refl _|apply Drawn0.step)⟩
    ·rw [if_neg c5] at H
     have c5b0:(a0 == 11) = false:=beq_eq_false_iff_ne.mpr c5
     have c5b1:(a0 != 11) = true:=bne_iff_ne.mpr c5
     by_cases c6:a0 = 12
     ·rw [if_pos c6] at H
      have c6b0:(a0 == 12) = true:=beq_iff_eq.mpr c6
      have c6b1:(a0 != 12) = false:=bne_eq_false_iff_eq.mpr c6
      clear c6
      have H':=zA H
      clear H
      go_wp2
      go_meet
      case rel=>exact ⟨_,((a0 == 12)),(by first|rfl|(simp;done)|(simp [*];done)),H',⟨by first|omega|exact Nat.le_refl _⟩,by repeat (first|exact Drawn0.refl _|apply Drawn0.step)⟩
     ·rw [if_neg c6] at H
      have c6b0:(a0 == 12) = false:=beq_eq_false_iff_ne.mpr c6
      have c6b1:(a0 != 12) = true:=bne_iff_ne.mpr c6
      have H':=zA H
      clear H
      go_wp2
      go_meet
      case rel=>exact ⟨_,((a0 == 13)),(by first|rfl|(simp;done)|(simp [*];done)),H',⟨by first|omega|exact Nat.le_refl _⟩,by repeat (first|exact Drawn0.refl _|apply Drawn0.step)⟩
 case rest =>
  clear HC2
  try clear c1
  try clear p2
  try clear c3
  try clear c3b0
  try clear c3b1
  try clear c4
  try clear c4b0
  try clear c4b1
  try clear c5
  try clear c5b0
  try clear c5b1
  try clear c6
  try clear c6b0
  try clear c6b1
  obtain ⟨kq,x5_1,rfl,HA,HJ1,⟨mc1,rfl⟩⟩:=hcut
  cases kq with
  | zero=>exact absurd HA.out (by simp [foretellref_PartsOf.j0])
  | succ kj1 =>
   have H:=HA.out
   clear HA
   simp only [foretellref_PartsOf.j0] at H
   by_cases c7:x5_1 = true
   ·subst c7
    have H1:(some (0,0)) = some (r1,r2):=by rw [if_pos rfl] at H;exact H
    clear H
    have H:=H1
    clear H1
    simp only [Option.some.injEq,Prod.mk.injEq] at H
    obtain ⟨rfl,rfl⟩:=H
    go_wp2
    go_ret2
    exact ⟨by first|rfl|(simp;done)|(simp [*];done),by repeat (first|exact Drawn0.refl _|apply Drawn0.step)⟩
   ·replace c7:=Bool.eq_false_iff.mpr c7
    subst c7
    have H1:(if a0 = 10 then (foretellref_PartsOf.j1 kj1 a0 (a0 == 10)) else (if a0 = 14 then (foretellref_PartsOf.j1 kj1 a0 (a0 == 14)) else (if a0 = 17 then (foretellref_PartsOf.j1 kj1 a0 (a0 == 17)) else (foretellref_PartsOf.j1 kj1 a0 (a0 == 18))))) = some (r1,r2):=by rw [if_neg (show ¬ (false = true) by decide)] at H;exact H
    clear H
    have H:=H1
    clear H1
    have HC8:=zA H
    clear H
    go_upto_if 11 with (fail)
    go_cut [11] (fun v11 wc=>∃ (kq:Nat) (x11_7:Bool),v11 = .bool x11_7∧Aside0 (foretellref_PartsOf.j1 kq a0 x11_7 = some (r1,r2))∧Aside0 (kq ≤ kj1)∧Drawn0 w wc)
    case first =>
     have H:=HC8.out
     clear HC8
     by_cases c9:a0 = 10
     ·rw [if_pos c9] at H
      have c9b0:(a0 == 10) = true:=beq_iff_eq.mpr c9
      have c9b1:(a0 != 10) = false:=bne_eq_false_iff_eq.mpr c9
      clear c9
      (first|rw [c9b0]|(simp only [i64_w,i32_w];rw [c9b0])|skip)
      have H':=zA H
      clear H
      go_wp2
      go_meet
      case rel=>exact ⟨_,((a0 == 10)),(by first|rfl|(simp;done)|(simp [*];done)),H',⟨by have:=HJ1.out;first|omega|exact Nat.le_refl _⟩,by repeat (first|exact Drawn0.refl _|apply Drawn0.step)⟩
     ·rw [if_neg c9] at H
      have c9b0:(a0 == 10) = false:=beq_eq_false_iff_ne.mpr c9
      have c9b1:(a0 != 10) = true:=bne_iff_ne.mpr c9
      (first|rw [c9b0]|(simp only [i64_w,i32_w];rw [c9b0])|skip)
      by_cases c10:a0 = 14
      ·rw [if_pos c10] at H
       have c10b0:(a0 == 14) = true:=beq_iff_eq.mpr c10
       have c10b1:(a0 != 14) = false:=bne_eq_false_iff_eq.mpr c10
       clear c10
       have H':=zA H
       clear H
       go_wp2
       go_meet
       case rel=>exact ⟨_,((a0 == 14)),(by first|rfl|(simp;done)|(simp [*];done)),H',⟨by have:=HJ1.out;first|omega|exact Nat.le_refl _⟩,by repeat (first|exact Drawn0.refl _|apply Drawn0.step)⟩
      ·rw [if_neg c10] at H
       have c10b0:(a0 == 14) = false:=beq_eq_false_iff_ne.mpr c10
       have c10b1:(a0 != 14) = true:=bne_iff_ne.mpr c10
       by_cases c11:a0 = 17
       ·rw [if_pos c11] at H
        have c11b0:(a0 == 17) = true:=beq_iff_eq.mpr c11
        have c11b1:(a0 != 17) = false:=bne_eq_false_iff_eq.mpr c11
        clear c11
        have H':=zA H
        clear H
        go_wp2
        go_meet
        case rel=>exact ⟨_,((a0 == 17)),(by first|rfl|(simp;done)|(simp [*];done)),H',⟨by have:=HJ1.out;first|omega|exact Nat.le_refl _⟩,by repeat (first|exact Drawn0.refl _|apply Drawn0.step)⟩
       ·rw [if_neg c11] at H
        have c11b0:(a0 == 17) = false:=beq_eq_false_iff_ne.mpr c11
        have c11b1:(a0 != 17) = true:=bne_iff_ne.mpr c11
        have H':=zA H
        clear H
        go_wp2
        go_meet
        case rel=>exact ⟨_,((a0 == 18)),(by first|rfl|(simp;done)|(simp [*];done)),H',⟨by have:=HJ1.out;first|omega|exact Nat.le_refl _⟩,by repeat (first|exact Drawn0.refl _|apply Drawn0.step)⟩
    case rest =>
     clear HC8
     try clear c1
     try clear p2
     try clear c3
     try clear c3b0
     try clear c3b1
     try clear c4
     try clear c4b0
     try clear c4b1
     try clear c5
     try clear c5b0
     try clear c5b1
     try clear c6
     try clear c6b0
     try clear c6b1
     try clear c7
     try clear c9
     try clear c9b0
     try clear c9b1
     try clear c10
     try clear c10b0
     try clear c10b1
     try clear c11
     try clear c11b0
     try clear c11b1
     try clear p2
     obtain ⟨kq,x11_7,rfl,HA,HJ7,⟨mc7,rfl⟩⟩:=hcut
     cases kq with
     | zero=>exact absurd HA.out (by simp [foretellref_PartsOf.j1])
     | succ kj7 =>
      have H:=HA.out
      clear HA
      simp only [foretellref_PartsOf.j1] at H
      by_cases c12:x11_7 = true
      ·subst c12
       have H1:(some (1,0)) = some (r1,r2):=by rw [if_pos rfl] at H;exact H
       clear H
       have H:=H1
       clear H1
       simp only [Option.some.injEq,Prod.mk.injEq] at H
       obtain ⟨rfl,rfl⟩:=H
       go_wp2
       go_ret2
       exact ⟨by first|rfl|(simp;done)|(simp [*];done),by repeat (first|exact Drawn0.refl _|apply Drawn0.step)⟩
      ·replace c12:=Bool.eq_false_iff.mpr c12
       subst c12
       have H1:(if a0 = 3 then (some (2,0)) else (if a0 = 4 then (some (2,0)) else (if a0 = 5 then (some (2,0)) else (if a0 = 6 then (some (2,0)) else (if a0 = 7 then (some (2,0)) else (if a0 = 8 then (some (2,0)) else (if a0 = 9 then (some (2,0)) else (if a0 = 15 then (some (2,0)) else (if a0 = 16 then (some (2,0)) else (some (0,13))))))))))) = some (r1,r2):=by rw [if_neg (show ¬ (false = true) by decide)] at H;exact H
       clear H
       have H:=H1
       clear H1
       by_cases c13:a0 = 3
       ·rw [if_pos c13] at H
        have c13b0:(a0 == 3) = true:=beq_iff_eq.mpr c13
        have c13b1:(a0 != 3) = false:=bne_eq_false_iff_eq.mpr c13
        clear c13
        simp only [Option.some.injEq,Prod.mk.injEq] at H
        obtain ⟨rfl,rfl⟩:=H
        go_wp2
        go_ret2
        exact ⟨by first|rfl|(simp;done)|(simp [*];done),by repeat (first|exact Drawn0.refl _|apply Drawn0.step)⟩
       ·rw [if_neg c13] at H
        have c13b0:(a0 == 3) = false:=beq_eq_false_iff_ne.mpr c13
        have c13b1:(a0 != 3) = true:=bne_iff_ne.mpr c13
        by_cases c14:a0 = 4
        ·rw [if_pos c14] at H
         have c14b0:(a0 == 4) = true:=beq_iff_eq.mpr c14
         have c14b1:(a0 != 4) = false:=bne_eq_false_iff_eq.mpr c14
         clear c14
         simp only [Option.some.injEq,Prod.mk.injEq] at H
         obtain ⟨rfl,rfl⟩:=H
         go_wp2
         go_ret2
         exact ⟨by first|rfl|(simp;done)|(simp [*];done),by repeat (first|exact Drawn0.refl _|apply Drawn0.step)⟩
        ·rw [if_neg c14] at H
         have c14b0:(a0 == 4) = false:=beq_eq_false_iff_ne.mpr c14
         have c14b1:(a0 != 4) = true:=bne_iff_ne.mpr c14
         by_cases c15:a0 = 5
         ·rw [if_pos c15] at H
          have c15b0:(a0 == 5) = true:=beq_iff_eq.mpr c15
          have c15b1:(a0 != 5) = false:=bne_eq_false_iff_eq.mpr c15
          clear c15
          simp only [Option.some.injEq,Prod.mk.injEq] at H
          obtain ⟨rfl,rfl⟩:=H
          go_wp2
          go_ret2
          exact ⟨by first|rfl|(simp;done)|(simp [*];done),by repeat (first|exact Drawn0.refl _|apply Drawn0.step)⟩
         ·rw [if_neg c15] at H
          have c15b0:(a0 == 5) = false:=beq_eq_false_iff_ne.mpr c15
          have c15b1:(a0 != 5) = true:=bne_iff_ne.mpr c15
          by_cases c16:a0 = 6
          ·rw [if_pos c16] at H
           have c16b0:(a0 == 6) = true:=beq_iff_eq.mpr c16
           have c16b1:(a0 != 6) = false:=bne_eq_false_iff_eq.mpr c16
           clear c16
           simp only [Option.some.injEq,Prod.mk.injEq] at H
           obtain ⟨rfl,rfl⟩:=H
           go_wp2
           go_ret2
           exact ⟨by first|rfl|(simp;done)|(simp [*];done),by repeat (first|exact Drawn0.refl _|apply Drawn0.step)⟩
          ·rw [if_neg c16] at H
           have c16b0:(a0 == 6) = false:=beq_eq_false_iff_ne.mpr c16
           have c16b1:(a0 != 6) = true:=bne_iff_ne.mpr c16
           by_cases c17:a0 = 7
           ·rw [if_pos c17] at H
            have c17b0:(a0 == 7) = true:=beq_iff_eq.mpr c17
            have c17b1:(a0 != 7) = false:=bne_eq_false_iff_eq.mpr c17
            clear c17
            simp only [Option.some.injEq,Prod.mk.injEq] at H
            obtain ⟨rfl,rfl⟩:=H
            go_wp2
            go_ret2
            exact ⟨by first|rfl|(simp;done)|(simp [*];done),by repeat (first|exact Drawn0.refl _|apply Drawn0.step)⟩
           ·rw [if_neg c17] at H
            have c17b0:(a0 == 7) = false:=beq_eq_false_iff_ne.mpr c17
            have c17b1:(a0 != 7) = true:=bne_iff_ne.mpr c17
            by_cases c18:a0 = 8
            ·rw [if_pos c18] at H
             have c18b0:(a0 == 8) = true:=beq_iff_eq.mpr c18
             have c18b1:(a0 != 8) = false:=bne_eq_false_iff_eq.mpr c18
             clear c18
             simp only [Option.some.injEq,Prod.mk.injEq] at H
             obtain ⟨rfl,rfl⟩:=H
             go_wp2
             go_ret2
             exact ⟨by first|rfl|(simp;done)|(simp [*];done),by repeat (first|exact Drawn0.refl _|apply Drawn0.step)⟩
            ·rw [if_neg c18] at H
             have c18b0:(a0 == 8) = false:=beq_eq_false_iff_ne.mpr c18
             have c18b1:(a0 != 8) = true:=bne_iff_ne.mpr c18
             by_cases c19:a0 = 9
             ·rw [if_pos c19] at H
              have c19b0:(a0 == 9) = true:=beq_iff_eq.mpr c19
              have c19b1:(a0 != 9) = false:=bne_eq_false_iff_eq.mpr c19
              clear c19
              simp only [Option.some.injEq,Prod.mk.injEq] at H
              obtain ⟨rfl,rfl⟩:=H
              go_wp2
              go_ret2
              exact ⟨by first|rfl|(simp;done)|(simp [*];done),by repeat (first|exact Drawn0.refl _|apply Drawn0.step)⟩
             ·rw [if_neg c19] at H
              have c19b0:(a0 == 9) = false:=beq_eq_false_iff_ne.mpr c19
              have c19b1:(a0 != 9) = true:=bne_iff_ne.mpr c19
              by_cases c20:a0 = 15
              ·rw [if_pos c20] at H
               have c20b0:(a0 == 15) = true:=beq_iff_eq.mpr c20
               have c20b1:(a0 != 15) = false:=bne_eq_false_iff_eq.mpr c20
               clear c20
               simp only [Option.some.injEq,Prod.mk.injEq] at H
               obtain ⟨rfl,rfl⟩:=H
               go_wp2
               go_ret2
               exact ⟨by first|rfl|(simp;done)|(simp [*];done),by repeat (first|exact Drawn0.refl _|apply Drawn0.step)⟩
              ·rw [if_neg c20] at H
               have c20b0:(a0 == 15) = false:=beq_eq_false_iff_ne.mpr c20
               have c20b1:(a0 != 15) = true:=bne_iff_ne.mpr c20
               by_cases c21:a0 = 16
               ·rw [if_pos c21] at H
                have c21b0:(a0 == 16) = true:=beq_iff_eq.mpr c21
                have c21b1:(a0 != 16) = false:=bne_eq_false_iff_eq.mpr c21
                clear c21
                simp only [Option.some.injEq,Prod.mk.injEq] at H
                obtain ⟨rfl,rfl⟩:=H
                go_wp2
                go_ret2
                exact ⟨by first|rfl|(simp;done)|(simp [*];done),by repeat (first|exact Drawn0.refl _|apply Drawn0.step)⟩
               ·rw [if_neg c21] at H
                have c21b0:(a0 == 16) = false:=beq_eq_false_iff_ne.mpr c21
                have c21b1:(a0 != 16) = true:=bne_iff_ne.mpr c21
                simp only [Option.some.injEq,Prod.mk.injEq] at H
                obtain ⟨rfl,rfl⟩:=H
                go_wp2
                go_ret2
                exact ⟨by first|rfl|(simp;done)|(simp [*];done),by repeat (first|exact Drawn0.refl _|apply Drawn0.step)⟩
def foretellref_endOf.l0:Nat → List (S94) → Int → Int → Option (Int × Int)
 | 0,_,_,_=>none
 | k + 1,x0,x6,x7=>if x7 < (x0.length:Int) then (if 0 ≤ x7 then ((foretellref_PartsOf.f k ((rd_T94 x0 x7).f0)).bind fun bt212=>(if bt212.2 = 0 then (if (wrap64 ((wrap64 (x6 + bt212.1)) - 1)) = 0 then (some (wrap64 (x7 + 1),0)) else (foretellref_endOf.l0 k x0 (wrap64 ((wrap64 (x6 + bt212.1)) - 1)) (wrap64 (x7 + 1)))) else (some (0,bt212.2)))) else (none)) else (some (0,4))
def foretellref_endOf.f (k:Nat) (l0:List (S94)) (a1:Int):Option (Int × Int):=foretellref_endOf.l0 k l0 1 a1
theorem foretellref_endOf.mono_l:∀ k,(∀ y0 y1 y2,LeO (foretellref_endOf.l0 k y0 y1 y2) (foretellref_endOf.l0 (k + 1) y0 y1 y2))
 | 0=>fun _ _ _ r h=>by simp [foretellref_endOf.l0] at h
 | k + 1=>by
  have ih0:=foretellref_endOf.mono_l k
  ·intro y0 y1 y2
   unfold foretellref_endOf.l0
   repeat' first
   | (with_reducible exact ih0 _ _ _)
   | (with_reducible exact foretellref_PartsOf.mono _ _)
   | (with_reducible exact LeO.refl _)
   | (with_reducible exact LeO.none _)
   | (with_reducible refine LeO.ite ?_ ?_)
   | (with_reducible refine LeO.bind ?_ (fun _=>?_))
   | exact ih0 _ _ _
   | exact foretellref_PartsOf.mono _ _
   | exact LeO.none _
   | refine LeO.ite ?_ ?_
   | refine LeO.bind ?_ (fun _=>?_)
theorem foretellref_endOf.mono:∀ a0 a1 k,LeO (foretellref_endOf.f k a0 a1) (foretellref_endOf.f (k + 1) a0 a1):=by
 intro a0 a1 k
 have ih0:=foretellref_endOf.mono_l k
 unfold foretellref_endOf.f
 repeat' first
   | (with_reducible exact ih0 _ _ _)
   | (with_reducible exact foretellref_PartsOf.mono _ _)
   | (with_reducible exact LeO.refl _)
   | (with_reducible exact LeO.none _)
   | (with_reducible refine LeO.ite ?_ ?_)
   | (with_reducible refine LeO.bind ?_ (fun _=>?_))
   | exact ih0 _ _ _
   | exact foretellref_PartsOf.mono _ _
   | exact LeO.none _
   | refine LeO.ite ?_ ?_
   | refine LeO.bind ?_ (fun _=>?_)
set_option maxHeartbeats 8000000 in
set_option maxRecDepth 100000 in
theorem foretellref_endOf.calls (k:Nat) (A0:Option Addr) (c0:Nat) (l0:List (S94)) (a1:Int) (r1:Int) (r2:Int) (w:World) (hr0:Kd.C k94 w A0 l0.length l0) (hc0:l0.length ≤ c0) (h:foretellref_endOf.f k l0 a1 = some (r1,r2)) :
  Calls Tryd.prog 92 #[.slice A0 l0.length c0,.int .i64 a1] w fun e w'=>e = .returned (.tuple #[.int .i64 r1,.int .i64 r2])∧Drawn0 w w':=by
 have HR0:=zA hr0
 have HC0:=zA hc0
 clear hr0 hc0
 have H:(foretellref_endOf.l0 k l0 1 a1) = some (r1,r2):=h
 clear h
 have H':=zA H
 clear H
 go_enter Tryd.func92,Tryd.ntmps92
 go_wp2
 go_loopg [6,7] k (fun kq v6 v7 w'=>∃ (x6_1:Int) (x7_1:Int),v6 = .int .i64 x6_1∧v7 = .int .i64 x7_1∧Aside0 (foretellref_endOf.l0 kq l0 x6_1 x7_1 = some (r1,r2))∧Aside0 (kq ≤ k)∧Drawn0 w w')
 case atStart=>exact ⟨(1),(a1),(by first|rfl|(simp;done)|(simp [*];done)),(by first|rfl|(simp;done)|(simp [*];done)),H',⟨Nat.le_refl _⟩,by repeat (first|exact Drawn0.refl _|apply Drawn0.step)⟩
 case round =>
  clear H'
  try clear p2
  obtain ⟨x6_1,x7_1,rfl,rfl,HA,HK1,⟨m1,rfl⟩⟩:=hrel
  cases gk with
  | zero=>exact absurd HA.out (by simp [foretellref_endOf.l0])
  | succ k1 =>
   have H:=HA.out
   clear HA
   simp only [foretellref_endOf.l0] at H
   by_cases c3:x7_1 < (l0.length:Int)
   ·rw [if_pos c3] at H
    have c3b0:decide (x7_1 < (l0.length:Int)) = true:=zQ c3
    clear c3
    by_cases c4:0 ≤ x7_1
    ·rw [if_pos c4] at H
     have c4b0:decide (0 ≤ x7_1) = true:=zQ c4
     clear c4
     replace H:=zb.mp H
     obtain ⟨⟨t212,t213⟩,A50,H⟩:=H
     replace H:(if t213 = 0 then (if (wrap64 ((wrap64 (x6_1 + t212)) - 1)) = 0 then (some (wrap64 (x7_1 + 1),0)) else (foretellref_endOf.l0 k1 l0 (wrap64 ((wrap64 (x6_1 + t212)) - 1)) (wrap64 (x7_1 + 1)))) else (some (0,t213))) = some (r1,r2):=H
     have A5:=zA A50
     clear A50
     by_cases c6:t213 = 0
     ·rw [if_pos c6] at H
      have c6b0:(t213 == 0) = true:=beq_iff_eq.mpr c6
      have c6b1:(t213 != 0) = false:=bne_eq_false_iff_eq.mpr c6
      clear c6
      by_cases c7:(wrap64 ((wrap64 (x6_1 + t212)) - 1)) = 0
      ·rw [if_pos c7] at H
       have c7b0:((wrap64 ((wrap64 (x6_1 + t212)) - 1)) == 0) = true:=beq_iff_eq.mpr c7
       have c7b1:((wrap64 ((wrap64 (x6_1 + t212)) - 1)) != 0) = false:=bne_eq_false_iff_eq.mpr c7
       clear c7
       simp only [Option.some.injEq,Prod.mk.injEq] at H
       obtain ⟨rfl,rfl⟩:=H
       have p211:0 ≤ (x7_1:Int):=zP (by assumption)
       have q211:x7_1 < (l0.length:Int):=zP (by assumption)
       obtain ⟨ad211,e211,hx211_0,hx211_1⟩:=at_T94 HR0.out x7_1 p211 q211
       cases e211
       replace p211:=eq_true p211
       replace q211:=eq_true q211
       go_wp2_with (first|((with_reducible refine zU (f:=115) rfl ?_);refine goesL_ (some 23) rfl rfl Tryd.func115 (by kernel_rfl) rfl #[.int .i64 ((rd_T94 l0 x7_1).f0)] rfl (by (try simp only [zx,zy,zz]);first|done|rfl|(simp only [zd,zt];rfl)) ?_;(with_reducible refine (foretellref_PartsOf.calls k1 ((rd_T94 l0 x7_1).f0) t212 t213 _ A5.out).mono ?_);rintro e w' ⟨rfl,⟨nd,rfl⟩⟩;refine ⟨_,rfl,?_⟩))
       go_ret2
       exact ⟨by first|rfl|(simp;done)|(simp [*];done),by repeat (first|exact Drawn0.refl _|apply Drawn0.step)⟩
      ·rw [if_neg c7] at H
       have c7b0:((wrap64 ((wrap64 (x6_1 + t212)) - 1)) == 0) = false:=beq_eq_false_iff_ne.mpr c7
       have c7b1:((wrap64 ((wrap64 (x6_1 + t212)) - 1)) != 0) = true:=bne_iff_ne.mpr c7
       have H':=zA H
       clear H
       have p211:0 ≤ (x7_1:Int):=zP (by assumption)
       have q211:x7_1 < (l0.length:Int):=zP (by assumption)
       obtain ⟨ad211,e211,hx211_0,hx211_1⟩:=at_T94 HR0.out x7_1 p211 q211
       cases e211
       replace p211:=eq_true p211
       replace q211:=eq_true q211
       go_wp2_with (first|((with_reducible refine zU (f:=115) rfl ?_);refine goesL_ (some 23) rfl rfl Tryd.func115 (by kernel_rfl) rfl #[.int .i64 ((rd_T94 l0 x7_1).f0)] rfl (by (try simp only [zx,zy,zz]);first|done|rfl|(simp only [zd,zt];rfl)) ?_;(with_reducible refine (foretellref_PartsOf.calls k1 ((rd_T94 l0 x7_1).f0) t212 t213 _ A5.out).mono ?_);rintro e w' ⟨rfl,⟨nd,rfl⟩⟩;refine ⟨_,rfl,?_⟩))
       go_roundg k1
       case measure=>have:=HK1.out;omega
       case rel=>exact ⟨(wrap64 ((wrap64 (x6_1 + t212)) - 1)),(wrap64 (x7_1 + 1)),(by first|rfl|(simp;done)|(simp [*];done)),(by first|rfl|(simp;done)|(simp [*];done)),H',⟨by have:=HK1.out;omega⟩,by repeat (first|exact Drawn0.refl _|apply Drawn0.step)⟩
     ·rw [if_neg c6] at H
      have c6b0:(t213 == 0) = false:=beq_eq_false_iff_ne.mpr c6
      have c6b1:(t213 != 0) = true:=bne_iff_ne.mpr c6
      simp only [Option.some.injEq,Prod.mk.injEq] at H
      obtain ⟨rfl,rfl⟩:=H
      have p211:0 ≤ (x7_1:Int):=zP (by assumption)
      have q211:x7_1 < (l0.length:Int):=zP (by assumption)
      obtain ⟨ad211,e211,hx211_0,hx211_1⟩:=at_T94 HR0.out x7_1 p211 q211
      cases e211
      replace p211:=eq_true p211
      replace q211:=eq_true q211
      go_wp2_with (first|((with_reducible refine zU (f:=115) rfl ?_);refine goesL_ (some 23) rfl rfl Tryd.func115 (by kernel_rfl) rfl #[.int .i64 ((rd_T94 l0 x7_1).f0)] rfl (by (try simp only [zx,zy,zz]);first|done|rfl|(simp only [zd,zt];rfl)) ?_;(with_reducible refine (foretellref_PartsOf.calls k1 ((rd_T94 l0 x7_1).f0) t212 t213 _ A5.out).mono ?_);rintro e w' ⟨rfl,⟨nd,rfl⟩⟩;refine ⟨_,rfl,?_⟩))
      go_ret2
      exact ⟨by first|rfl|(simp;done)|(simp [*];done),by repeat (first|exact Drawn0.refl _|apply Drawn0.step)⟩
    ·rw [if_neg c4] at H
     exact absurd H (by simp)
   ·rw [if_neg c3] at H
    have c3b0:decide (x7_1 < (l0.length:Int)) = false:=zR c3
    clear c3
    simp only [Option.some.injEq,Prod.mk.injEq] at H
    obtain ⟨rfl,rfl⟩:=H
    go_wp2
    go_ret2
    exact ⟨by first|rfl|(simp;done)|(simp [*];done),by repeat (first|exact Drawn0.refl _|apply Drawn0.step)⟩
def foretellref_EndsOf.l0:Nat → List (S94) → List Int → Int → Option (List Int × Int)
 | 0,_,_,_=>none
 | k + 1,x0,x6,x7=>if x7 < (x0.length:Int) then ((foretellref_endOf.f k x0 x7).bind fun bt216=>(if x6.length < 17592186044416 then (foretellref_EndsOf.l0 k x0 (x6 ++ [bt216.1]) (wrap64 (x7 + 1))) else (none))) else (some (x6,0))
def foretellref_EndsOf.f (k:Nat) (l0:List (S94)):Option (List Int × Int):=if (l0.length:Int) > 60 then (some (([]:List Int),1)) else ((foretellref_endOf.f k l0 0).bind fun bt214=>(if bt214.2 = 0 then (if bt214.1 < (l0.length:Int) then (some (([]:List Int),3)) else (foretellref_EndsOf.l0 k l0 ([]:List Int) 0)) else (some (([]:List Int),bt214.2))))
theorem foretellref_EndsOf.mono_l:∀ k,(∀ y0 y1 y2,LeO (foretellref_EndsOf.l0 k y0 y1 y2) (foretellref_EndsOf.l0 (k + 1) y0 y1 y2))
 | 0=>fun _ _ _ r h=>by simp [foretellref_EndsOf.l0] at h
 | k + 1=>by
  have ih0:=foretellref_EndsOf.mono_l k
  ·intro y0 y1 y2
   unfold foretellref_EndsOf.l0
   repeat' first
   | (with_reducible exact ih0 _ _ _)
   | (with_reducible exact foretellref_endOf.mono _ _ _)
   | (with_reducible exact LeO.refl _)
   | (with_reducible exact LeO.none _)
   | (with_reducible refine LeO.ite ?_ ?_)
   | (with_reducible refine LeO.bind ?_ (fun _=>?_))
   | exact ih0 _ _ _
   | exact foretellref_endOf.mono _ _ _
   | exact LeO.none _
   | refine LeO.ite ?_ ?_
   | refine LeO.bind ?_ (fun _=>?_)
theorem foretellref_EndsOf.mono:∀ a0 k,LeO (foretellref_EndsOf.f k a0) (foretellref_EndsOf.f (k + 1) a0):=by
 intro a0 k
 have ih0:=foretellref_EndsOf.mono_l k
 unfold foretellref_EndsOf.f
 repeat' first
   | (with_reducible exact ih0 _ _ _)
   | (with_reducible exact foretellref_endOf.mono _ _ _)
   | (with_reducible exact LeO.refl _)
   | (with_reducible exact LeO.none _)
   | (with_reducible refine LeO.ite ?_ ?_)
   | (with_reducible refine LeO.bind ?_ (fun _=>?_))
   | exact ih0 _ _ _
   | exact foretellref_endOf.mono _ _ _
   | exact LeO.none _
   | refine LeO.ite ?_ ?_
   | refine LeO.bind ?_ (fun _=>?_)
set_option maxHeartbeats 8000000 in
set_option maxRecDepth 100000 in
theorem foretellref_EndsOf.calls (k:Nat) (A0:Option Addr) (c0:Nat) (l0:List (S94)) (r1:List Int) (r2:Int) (w:World) (hr0:Kd.C k94 w A0 l0.length l0) (hc0:l0.length ≤ c0) (h:foretellref_EndsOf.f k l0 = some (r1,r2)) :
  Calls Tryd.prog 74 #[.slice A0 l0.length c0] w fun e w'=>∃ v0_:Value,e = .returned (.tuple #[v0_,.int .i64 r2])∧Kd.R (Kd.int .i64) 3 w' w.heap.size (fun _=>True) v0_ r1∧Below w.heap.size w w':=by
 have HR0:=zA hr0
 have HC0:=zA hc0
 clear hr0 hc0
 have HB:=zA (Below.refl w.heap.size w)
 have H:(if (l0.length:Int) > 60 then (some (([]:List Int),1)) else ((foretellref_endOf.f k l0 0).bind fun bt214=>(if bt214.2 = 0 then (if bt214.1 < (l0.length:Int) then (some (([]:List Int),3)) else (foretellref_EndsOf.l0 k l0 ([]:List Int) 0)) else (some (([]:List Int),bt214.2))))) = some (r1,r2):=h
 clear h
 by_cases c2:(l0.length:Int) > 60
 ·rw [if_pos c2] at H
  have c2b0:decide (60 < (l0.length:Int)) = true:=zQ c2
  have c2b1:decide (60 < l0.length) = true:=zQ (by omega)
  clear c2
  simp only [Option.some.injEq,Prod.mk.injEq] at H
  obtain ⟨rfl,rfl⟩:=H
  go_enter Tryd.func74,Tryd.ntmps74
  go_wp2
  go_ret2
  exact ⟨_,by first|rfl|(simp [errW_none,errW_some] <;> rfl)|(simp [*,errW_none,errW_some] <;> rfl),by first|exact Kd.R_nil _ _ _ _ _|exact Kd.N_nil _ _ _ _ _|exact Kd.V_nil _ _ _ _ _|exact Kd.Q_nil _ _ _ _ _|exact Kd.S_nil _ _ _ _ _,by repeat (first|(with_reducible first|exact HB.out|apply zD|apply zC|apply zE)|exact HB.out)⟩
 ·rw [if_neg c2] at H
  have c2b0:decide (60 < (l0.length:Int)) = false:=zR c2
  have c2b1:decide (60 < l0.length) = false:=zR (by omega)
  clear c2
  replace H:=zb.mp H
  obtain ⟨⟨t214,t215⟩,A30,H⟩:=H
  replace H:(if t215 = 0 then (if t214 < (l0.length:Int) then (some (([]:List Int),3)) else (foretellref_EndsOf.l0 k l0 ([]:List Int) 0)) else (some (([]:List Int),t215))) = some (r1,r2):=H
  have A3:=zA A30
  clear A30
  by_cases c4:t215 = 0
  ·rw [if_pos c4] at H
   have c4b0:(t215 == 0) = true:=beq_iff_eq.mpr c4
   have c4b1:(t215 != 0) = false:=bne_eq_false_iff_eq.mpr c4
   clear c4
   by_cases c5:t214 < (l0.length:Int)
   ·rw [if_pos c5] at H
    have c5b0:decide (t214 < (l0.length:Int)) = true:=zQ c5
    clear c5
    simp only [Option.some.injEq,Prod.mk.injEq] at H
    obtain ⟨rfl,rfl⟩:=H
    go_enter Tryd.func74,Tryd.ntmps74
    go_wp2_with (first|((with_reducible refine zU (f:=92) rfl ?_);refine goesL_ (some 15) rfl rfl Tryd.func92 (by kernel_rfl) rfl #[.slice A0 l0.length c0,.int .i64 0] rfl (by (try simp only [zx,zy,zz]);first|done|rfl|(simp only [zd,zt];rfl)) ?_;(with_reducible refine (foretellref_endOf.calls k _ _ l0 0 t214 t215 _ ?side1 ?side2 A3.out).mono ?_);(case side1=>repeat (first|exact HR0.out|(with_reducible refine Kd.C_alloc ?_ _)|(with_reducible refine Kd.C_drewN ?_ _)|(with_reducible refine Kd.C_drew ?_)));(case side2=>exact HC0.out);rintro e w' ⟨rfl,⟨nd,rfl⟩⟩;refine ⟨_,rfl,?_⟩))
    go_ret2
    exact ⟨_,by first|rfl|(simp [errW_none,errW_some] <;> rfl)|(simp [*,errW_none,errW_some] <;> rfl),by first|exact Kd.R_nil _ _ _ _ _|exact Kd.N_nil _ _ _ _ _|exact Kd.V_nil _ _ _ _ _|exact Kd.Q_nil _ _ _ _ _|exact Kd.S_nil _ _ _ _ _,by repeat (first|(with_reducible first|exact HB.out|apply zD|apply zC|apply zE)|exact HB.out)⟩
   ·rw [if_neg c5] at H
    have c5b0:decide (t214 < (l0.length:Int)) = false:=zR c5
    clear c5
    have H':=zA H
    clear H
    go_enter Tryd.func74,Tryd.ntmps74
    go_wp2_with (first|((with_reducible refine zU (f:=92) rfl ?_);refine goesL_ (some 15) rfl rfl Tryd.func92 (by kernel_rfl) rfl #[.slice A0 l0.length c0,.int .i64 0] rfl (by (try simp only [zx,zy,zz]);first|done|rfl|(simp only [zd,zt];rfl)) ?_;(with_reducible refine (foretellref_endOf.calls k _ _ l0 0 t214 t215 _ ?side1 ?side2 A3.out).mono ?_);(case side1=>repeat (first|exact HR0.out|(with_reducible refine Kd.C_alloc ?_ _)|(with_reducible refine Kd.C_drewN ?_ _)|(with_reducible refine Kd.C_drew ?_)));(case side2=>exact HC0.out);rintro e w' ⟨rfl,⟨nd,rfl⟩⟩;refine ⟨_,rfl,?_⟩))
    go_loopg [6,7] k (fun kq v6 v7 w'=>∃ (x6_1:List Int) (x7_1:Int),v7 = .int .i64 x7_1∧Aside0 (foretellref_EndsOf.l0 kq l0 x6_1 x7_1 = some (r1,r2))∧Aside0 (kq ≤ k)∧Aside0 (Kd.R (Kd.int .i64) 3 w' w.heap.size (fun _=>True) v6 x6_1)∧Aside0 (Below w.heap.size w w'))
    case atStart=>exact ⟨(([]:List Int)),(0),(by first|rfl|(simp;done)|(simp [*];done)),H',⟨Nat.le_refl _⟩,⟨by first|exact Kd.R_nil _ _ _ _ _|exact Kd.N_nil _ _ _ _ _|exact Kd.V_nil _ _ _ _ _|exact Kd.Q_nil _ _ _ _ _|exact Kd.S_nil _ _ _ _ _⟩,⟨by repeat (first|(with_reducible first|exact HB.out|apply zD|apply zC|apply zE)|exact HB.out)⟩⟩
    case round =>
     clear H'
     try clear c2
     try clear c2b0
     try clear c2b1
     try clear p2
     try clear c4
     try clear c4b0
     try clear c4b1
     try clear c5
     try clear c5b0
     obtain ⟨x6_1,x7_1,rfl,HA,HK1,HO_6,HB⟩:=hrel
     cases gk with
     | zero=>exact absurd HA.out (by simp [foretellref_EndsOf.l0])
     | succ k1 =>
      have H:=HA.out
      clear HA
      simp only [foretellref_EndsOf.l0] at H
      by_cases c6:x7_1 < (l0.length:Int)
      ·rw [if_pos c6] at H
       have c6b0:decide (x7_1 < (l0.length:Int)) = true:=zQ c6
       clear c6
       replace H:=zb.mp H
       obtain ⟨⟨t216,t217⟩,A70,H⟩:=H
       replace H:(if x6_1.length < 17592186044416 then (foretellref_EndsOf.l0 k1 l0 (x6_1 ++ [t216]) (wrap64 (x7_1 + 1))) else (none)) = some (r1,r2):=H
       have A7:=zA A70
       clear A70
       by_cases c8:x6_1.length < 17592186044416
       ·rw [if_pos c8] at H
        have LMc8:=zA c8
        clear c8
        obtain ⟨y218,hy218⟩:∃ y_:List Int,y_ = (x6_1 ++ [t216]):=⟨_,rfl⟩
        replace H:(foretellref_EndsOf.l0 k1 l0 y218 (wrap64 (x7_1 + 1))) = some (r1,r2):=by first|(rw [hy218];with_reducible exact H)|(have H2_:=(Option.bind_some _ _).symm.trans H;rw [hy218];with_reducible exact H2_)|(have H2_:=(Option.bind_some _ _).symm.trans H;with_reducible exact H2_)|with_reducible exact H|(rw [hy218];exact H)|exact H
        have Ny218:=zA hy218
        clear hy218
        have H':=zA H
        clear H
        go_wp2_with (first|((with_reducible refine zU (f:=92) rfl ?_);refine goesL_ (some 34) rfl rfl Tryd.func92 (by kernel_rfl) rfl #[.slice A0 l0.length c0,.int .i64 x7_1] rfl (by (try simp only [zx,zy,zz]);first|done|rfl|(simp only [zd,zt];rfl)) ?_;(with_reducible refine (foretellref_endOf.calls k1 _ _ l0 x7_1 t216 t217 _ ?side1 ?side2 A7.out).mono ?_);(case side1=>repeat (first|exact (zT HR0.out HB.out)|(with_reducible refine Kd.C_alloc ?_ _)|(with_reducible refine Kd.C_drewN ?_ _)|(with_reducible refine Kd.C_drew ?_)));(case side2=>exact HC0.out);rintro e w' ⟨rfl,⟨nd,rfl⟩⟩;refine ⟨_,rfl,?_⟩)|((with_reducible refine gate_builtin (b:=.append) (xs:=#[.tmp 37,.tmp 39]) rfl ?_);at_builtin;refine Kd.R_append (Kd.int .i64) (w0:=w) w.heap.size rfl (.tmp 37) (.tmp 39) 37 3 (.int .i64 0) 8 rfl Tryd.underlying37 info3 rfl (by decide) (by omega) u6 x6_1 t216 [.int .i64 t216] (fun _=>True) (fun _=>False) rfl rfl ?aP (fun _ hk=>hk.elim) ?aF ?aO ?aB ?aS ?aL ?_;(case aP=>exact rfl);(case aB=>exact (by repeat (first|(with_reducible first|exact HB.out|apply zD|apply zC|apply zE)|exact HB.out)));(case aF=>exact (fun _ _=>trivial));(case aO=>exact (by (with_reducible repeat (first|apply Kd.R_alloc|apply Kd.R_drewN|apply Kd.R_drew));exact HO_6.out));(case aS=>exact (zG (by repeat (first|(with_reducible first|exact HB.out|apply zD|apply zC|apply zE)|exact HB.out))));(case aL=>have:=LMc8.out;omega);intro v219 w9 ho hb hg hat;rw [← Ny218.out] at ho;have n0_:=zA (hb);have n1_:=zA (ho);clear HB;clear HO_6;have HB:=n0_;have HO220:=n1_;clear n0_ n1_;clear ho hb hg hat))
        go_roundg k1
        case measure=>have:=HK1.out;omega
        case rel=>exact ⟨(y218),(wrap64 (x7_1 + 1)),(by first|rfl|(simp;done)|(simp [*];done)),H',⟨by have:=HK1.out;omega⟩,⟨by (with_reducible repeat (first|apply Kd.R_alloc|apply Kd.R_drewN|apply Kd.R_drew));exact HO220.out⟩,⟨by repeat (first|(with_reducible first|exact HB.out|apply zD|apply zC|apply zE)|exact HB.out)⟩⟩
       ·rw [if_neg c8] at H
        exact absurd H (by simp)
      ·rw [if_neg c6] at H
       have c6b0:decide (x7_1 < (l0.length:Int)) = false:=zR c6
       clear c6
       simp only [Option.some.injEq,Prod.mk.injEq] at H
       obtain ⟨rfl,rfl⟩:=H
       go_wp2
       go_ret2
       exact ⟨_,by first|rfl|(simp [errW_none,errW_some] <;> rfl)|(simp [*,errW_none,errW_some] <;> rfl),by (with_reducible repeat (first|apply Kd.R_alloc|apply Kd.R_drewN|apply Kd.R_drew));exact HO_6.out,by repeat (first|(with_reducible first|exact HB.out|apply zD|apply zC|apply zE)|exact HB.out)⟩
  ·rw [if_neg c4] at H
   have c4b0:(t215 == 0) = false:=beq_eq_false_iff_ne.mpr c4
   have c4b1:(t215 != 0) = true:=bne_iff_ne.mpr c4
   simp only [Option.some.injEq,Prod.mk.injEq] at H
   obtain ⟨rfl,rfl⟩:=H
   go_enter Tryd.func74,Tryd.ntmps74
   go_wp2_with (first|((with_reducible refine zU (f:=92) rfl ?_);refine goesL_ (some 15) rfl rfl Tryd.func92 (by kernel_rfl) rfl #[.slice A0 l0.length c0,.int .i64 0] rfl (by (try simp only [zx,zy,zz]);first|done|rfl|(simp only [zd,zt];rfl)) ?_;(with_reducible refine (foretellref_endOf.calls k _ _ l0 0 t214 t215 _ ?side1 ?side2 A3.out).mono ?_);(case side1=>repeat (first|exact HR0.out|(with_reducible refine Kd.C_alloc ?_ _)|(with_reducible refine Kd.C_drewN ?_ _)|(with_reducible refine Kd.C_drew ?_)));(case side2=>exact HC0.out);rintro e w' ⟨rfl,⟨nd,rfl⟩⟩;refine ⟨_,rfl,?_⟩))
   go_ret2
   exact ⟨_,by first|rfl|(simp [errW_none,errW_some] <;> rfl)|(simp [*,errW_none,errW_some] <;> rfl),by first|exact Kd.R_nil _ _ _ _ _|exact Kd.N_nil _ _ _ _ _|exact Kd.V_nil _ _ _ _ _|exact Kd.Q_nil _ _ _ _ _|exact Kd.S_nil _ _ _ _ _,by repeat (first|(with_reducible first|exact HB.out|apply zD|apply zC|apply zE)|exact HB.out)⟩
def foretellref_makesTruth.f (a0:Int):Option (Bool):=(foretellref_In.f a0 6 12).bind fun t221=>(some t221)
set_option maxHeartbeats 8000000 in
set_option maxRecDepth 100000 in
theorem foretellref_makesTruth.calls (a0:Int) (r:Bool) (w:World) (h:foretellref_makesTruth.f a0 = some r) :
  Calls Tryd.prog 89 #[.int .i64 a0] w fun e w'=>e = .returned (.bool r)∧Drawn0 w w':=by
 have H:((foretellref_In.f a0 6 12).bind fun t221=>(some t221)) = some r:=h
 clear h
 replace H:=zb.mp H
 obtain ⟨t221,A20,H⟩:=H
 replace H:(some t221) = some r:=H
 have A2:=zA A20
 clear A20
 obtain rfl:=Option.some.inj H
 go_enter Tryd.func89,Tryd.ntmps89
 go_wp2_with (first|((with_reducible refine zU (f:=56) rfl ?_);refine goesL_ (some 4) rfl rfl Tryd.func56 (by kernel_rfl) rfl #[.int .i64 a0,.int .i64 6,.int .i64 12] rfl (by (try simp only [zx,zy,zz]);first|done|rfl|(simp only [zd,zt];rfl)) ?_;(with_reducible refine (foretellref_In.calls a0 6 12 t221 _ A2.out).mono ?_);rintro e w' ⟨rfl,⟨nd,rfl⟩⟩;refine ⟨_,rfl,?_⟩))
 go_ret
 exact ⟨by first|rfl|(simp;done)|(simp [*];done),by repeat (first|exact Drawn0.refl _|apply Drawn0.step)⟩
def foretellref_Ops.l0:Nat → List (S94) → Int → List (S94) → Int → Option ((List (S94)))
 | 0,_,_,_,_=>none
 | k + 1,x0,x2,x7,x8=>if x8 < x2 then (if 0 ≤ x8 then (if x8 < (x0.length:Int) then (if x7.length < 8796093022208 then (foretellref_Ops.l0 k x0 x2 (x7 ++ [(⟨(rd_T94 x0 x8).f0,(rd_T94 x0 x8).f1⟩:S94)]) (wrap64 (x8 + 1))) else (none)) else (none)) else (none)) else (some x7)
def foretellref_Ops.f (k:Nat) (l0:List (S94)) (a1:Int) (a2:Int):Option ((List (S94))):=foretellref_Ops.l0 k l0 a2 ([]:List (S94)) a1
theorem foretellref_Ops.mono_l:∀ k,(∀ y0 y1 y2 y3,LeO (foretellref_Ops.l0 k y0 y1 y2 y3) (foretellref_Ops.l0 (k + 1) y0 y1 y2 y3))
 | 0=>fun _ _ _ _ r h=>by simp [foretellref_Ops.l0] at h
 | k + 1=>by
  have ih0:=foretellref_Ops.mono_l k
  ·intro y0 y1 y2 y3
   unfold foretellref_Ops.l0
   repeat' first
   | (with_reducible exact ih0 _ _ _ _)
   | (with_reducible exact LeO.refl _)
   | (with_reducible exact LeO.none _)
   | (with_reducible refine LeO.ite ?_ ?_)
   | (with_reducible refine LeO.bind ?_ (fun _=>?_))
   | exact ih0 _ _ _ _
   | exact LeO.none _
   | refine LeO.ite ?_ ?_
   | refine LeO.bind ?_ (fun _=>?_)
theorem foretellref_Ops.mono:∀ a0 a1 a2 k,LeO (foretellref_Ops.f k a0 a1 a2) (foretellref_Ops.f (k + 1) a0 a1 a2):=by
 intro a0 a1 a2 k
 have ih0:=foretellref_Ops.mono_l k
 unfold foretellref_Ops.f
 repeat' first
   | (with_reducible exact ih0 _ _ _ _)
   | (with_reducible exact LeO.refl _)
   | (with_reducible exact LeO.none _)
   | (with_reducible refine LeO.ite ?_ ?_)
   | (with_reducible refine LeO.bind ?_ (fun _=>?_))
   | exact ih0 _ _ _ _
   | exact LeO.none _
   | refine LeO.ite ?_ ?_
   | refine LeO.bind ?_ (fun _=>?_)
set_option maxHeartbeats 8000000 in
set_option maxRecDepth 100000 in
theorem foretellref_Ops.calls (k:Nat) (A0:Option Addr) (c0:Nat) (l0:List (S94)) (a1:Int) (a2:Int) (r:List (S94)) (w:World) (hr0:Kd.C k94 w A0 l0.length l0) (hc0:l0.length ≤ c0) (h:foretellref_Ops.f k l0 a1 a2 = some r) :
  Calls Tryd.prog 116 #[.slice A0 l0.length c0,.int .i64 a1,.int .i64 a2] w fun e w'=>∃ v0_:Value,e = .returned (v0_)∧Kd.R k94 94 w' w.heap.size (fun _=>True) v0_ r∧Below w.heap.size w w':=by
 have hu94:=Tryd.underlying94
 have HR0:=zA hr0
 have HC0:=zA hc0
 clear hr0 hc0
 have HB:=zA (Below.refl w.heap.size w)
 have H:(foretellref_Ops.l0 k l0 a2 ([]:List (S94)) a1) = some r:=h
 clear h
 have H':=zA H
 clear H
 go_enter Tryd.func116,Tryd.ntmps116
 go_wp2
 go_loopg [7,8] k (fun kq v7 v8 w'=>∃ (x7_1:List (S94)) (x8_1:Int),v8 = .int .i64 x8_1∧Aside0 (foretellref_Ops.l0 kq l0 a2 x7_1 x8_1 = some r)∧Aside0 (kq ≤ k)∧Aside0 (Kd.R k94 94 w' w.heap.size (fun _=>True) v7 x7_1)∧Aside0 (Below w.heap.size w w'))
 case atStart=>exact ⟨(([]:List (S94))),(a1),(by first|rfl|(simp;done)|(simp [*];done)),H',⟨Nat.le_refl _⟩,⟨by first|exact Kd.R_nil _ _ _ _ _|exact Kd.N_nil _ _ _ _ _|exact Kd.V_nil _ _ _ _ _|exact Kd.Q_nil _ _ _ _ _|exact Kd.S_nil _ _ _ _ _⟩,⟨by repeat (first|(with_reducible first|exact HB.out|apply zD|apply zC|apply zE)|exact HB.out)⟩⟩
 case round =>
  clear H'
  try clear c1
  try clear p2
  obtain ⟨x7_1,x8_1,rfl,HA,HK1,HO_7,HB⟩:=hrel
  cases gk with
  | zero=>exact absurd HA.out (by simp [foretellref_Ops.l0])
  | succ k1 =>
   have H:=HA.out
   clear HA
   simp only [foretellref_Ops.l0] at H
   by_cases c4:x8_1 < a2
   ·rw [if_pos c4] at H
    have c4b0:decide (x8_1 < a2) = true:=zQ c4
    clear c4
    by_cases c5:0 ≤ x8_1
    ·rw [if_pos c5] at H
     have c5b0:decide (0 ≤ x8_1) = true:=zQ c5
     clear c5
     by_cases c6:x8_1 < (l0.length:Int)
     ·rw [if_pos c6] at H
      have c6b0:decide (x8_1 < (l0.length:Int)) = true:=zQ c6
      clear c6
      by_cases c7:x7_1.length < 8796093022208
      ·rw [if_pos c7] at H
       have LMc7:=zA c7
       clear c7
       obtain ⟨y223,hy223⟩:∃ y_:List (S94),y_ = (x7_1 ++ [(⟨(rd_T94 l0 x8_1).f0,(rd_T94 l0 x8_1).f1⟩:S94)]):=⟨_,rfl⟩
       replace H:(foretellref_Ops.l0 k1 l0 a2 y223 (wrap64 (x8_1 + 1))) = some r:=by first|(rw [hy223];with_reducible exact H)|(have H2_:=(Option.bind_some _ _).symm.trans H;rw [hy223];with_reducible exact H2_)|(have H2_:=(Option.bind_some _ _).symm.trans H;with_reducible exact H2_)|with_reducible exact H|(rw [hy223];exact H)|exact H
       have Ny223:=zA hy223
       clear hy223
       have H':=zA H
       clear H
       have p222:0 ≤ (x8_1:Int):=zP (by assumption)
       have q222:x8_1 < (l0.length:Int):=zP (by assumption)
       obtain ⟨ad222,e222,hx222_0,hx222_1⟩:=at_T94 HR0.out x8_1 p222 q222
       cases e222
       replace hx222_0:=(HB.out.cell (zB w _ hx222_0)).trans hx222_0
       replace hx222_1:=(HB.out.cell (zB w _ hx222_1)).trans hx222_1
       replace p222:=eq_true p222
       replace q222:=eq_true q222
       go_wp2_with (first|((with_reducible refine gate_builtin (b:=.append) (xs:=#[.tmp 15,.tmp 20]) rfl ?_);at_builtin;refine Kd.R_append k94 (w0:=w) w.heap.size rfl (.tmp 15) (.tmp 20) 45 94 (.agg #[(.int .i64 0),(.int .i64 0)]) 16 rfl Tryd.underlying45 info94 rfl (by decide) (by omega) u7 x7_1 (⟨(rd_T94 l0 x8_1).f0,(rd_T94 l0 x8_1).f1⟩:S94) [.int .i64 ((rd_T94 l0 x8_1).f0),.int .i64 ((rd_T94 l0 x8_1).f1)] (fun _=>True) (fun _=>False) rfl rfl ?aP (fun _ hk=>hk.elim) ?aF ?aO ?aB ?aS ?aL ?_;(case aP=>exact k94_mkM _ _ _ (⟨(rd_T94 l0 x8_1).f0,(rd_T94 l0 x8_1).f1⟩:S94));(case aB=>exact (by repeat (first|(with_reducible first|exact HB.out|apply zD|apply zC|apply zE)|exact HB.out)));(case aF=>exact (fun _ _=>trivial));(case aO=>exact (by (with_reducible repeat (first|apply Kd.R_alloc|apply Kd.R_drewN|apply Kd.R_drew));exact HO_7.out));(case aS=>exact (zG (by repeat (first|(with_reducible first|exact HB.out|apply zD|apply zC|apply zE)|exact HB.out))));(case aL=>have:=LMc7.out;omega);intro v224 w8 ho hb hg hat;rw [← Ny223.out] at ho;have n0_:=zA (hb);have n1_:=zA (ho);clear HB;clear HO_7;have HB:=n0_;have HO225:=n1_;clear n0_ n1_;clear ho hb hg hat))
       go_roundg k1
       case measure=>have:=HK1.out;omega
       case rel=>exact ⟨(y223),(wrap64 (x8_1 + 1)),(by first|rfl|(simp;done)|(simp [*];done)),H',⟨by have:=HK1.out;omega⟩,⟨by (with_reducible repeat (first|apply Kd.R_alloc|apply Kd.R_drewN|apply Kd.R_drew));exact HO225.out⟩,⟨by repeat (first|(with_reducible first|exact HB.out|apply zD|apply zC|apply zE)|exact HB.out)⟩⟩
      ·rw [if_neg c7] at H
       exact absurd H (by simp)
     ·rw [if_neg c6] at H
      exact absurd H (by simp)
    ·rw [if_neg c5] at H
     exact absurd H (by simp)
   ·rw [if_neg c4] at H
    have c4b0:decide (x8_1 < a2) = false:=zR c4
    clear c4
    obtain rfl:=Option.some.inj H
    go_wp2
    go_ret
    exact ⟨_,by first|rfl|(simp [errW_none,errW_some] <;> rfl)|(simp [*,errW_none,errW_some] <;> rfl),by (with_reducible repeat (first|apply Kd.R_alloc|apply Kd.R_drewN|apply Kd.R_drew));exact HO_7.out,by repeat (first|(with_reducible first|exact HB.out|apply zD|apply zC|apply zE)|exact HB.out)⟩
def foretellref_SplitOf.l0:Nat → List (S94) → List (List (S94)) → Int → Int → Int → Option ((List (List (S94))) × Int)
 | 0,_,_,_,_,_=>none
 | k + 1,x0,x6,x7,x9,x10=>if x10 < x7 then ((foretellref_endOf.f k x0 x9).bind fun bt233=>((foretellref_Ops.f k x0 x9 bt233.1).bind fun t235=>(if x6.length < 5864062014805 then (foretellref_SplitOf.l0 k x0 (x6 ++ [t235]) x7 bt233.1 (wrap64 (x10 + 1))) else (none)))) else (some (x6,0))
def foretellref_SplitOf.f (k:Nat) (l0:List (S94)):Option ((List (List (S94))) × Int):=(foretellref_EndsOf.f k l0).bind fun bt226=>(if bt226.2 = 0 then (if 0 < (l0.length:Int) then ((foretellref_PartsOf.f k ((rd_T94 l0 0).f0)).bind fun bt231=>(foretellref_SplitOf.l0 k l0 ([]:List (List (S94))) bt231.1 1 0)) else (none)) else (some (([]:List (List (S94))),bt226.2)))
theorem foretellref_SplitOf.mono_l:∀ k,(∀ y0 y1 y2 y3 y4,LeO (foretellref_SplitOf.l0 k y0 y1 y2 y3 y4) (foretellref_SplitOf.l0 (k + 1) y0 y1 y2 y3 y4))
 | 0=>fun _ _ _ _ _ r h=>by simp [foretellref_SplitOf.l0] at h
 | k + 1=>by
  have ih0:=foretellref_SplitOf.mono_l k
  ·intro y0 y1 y2 y3 y4
   unfold foretellref_SplitOf.l0
   repeat' first
   | (with_reducible exact ih0 _ _ _ _ _)
   | (with_reducible exact foretellref_EndsOf.mono _ _)
   | (with_reducible exact foretellref_Ops.mono _ _ _ _)
   | (with_reducible exact foretellref_PartsOf.mono _ _)
   | (with_reducible exact foretellref_endOf.mono _ _ _)
   | (with_reducible exact LeO.refl _)
   | (with_reducible exact LeO.none _)
   | (with_reducible refine LeO.ite ?_ ?_)
   | (with_reducible refine LeO.bind ?_ (fun _=>?_))
   | exact ih0 _ _ _ _ _
   | exact foretellref_EndsOf.mono _ _
   | exact foretellref_Ops.mono _ _ _ _
   | exact foretellref_PartsOf.mono _ _
   | exact foretellref_endOf.mono _ _ _
   | exact LeO.none _
   | refine LeO.ite ?_ ?_
   | refine LeO.bind ?_ (fun _=>?_)
theorem foretellref_SplitOf.mono:∀ a0 k,LeO (foretellref_SplitOf.f k a0) (foretellref_SplitOf.f (k + 1) a0):=by
 intro a0 k
 have ih0:=foretellref_SplitOf.mono_l k
 unfold foretellref_SplitOf.f
 repeat' first
   | (with_reducible exact ih0 _ _ _ _ _)
   | (with_reducible exact foretellref_EndsOf.mono _ _)
   | (with_reducible exact foretellref_Ops.mono _ _ _ _)
   | (with_reducible exact foretellref_PartsOf.mono _ _)
   | (with_reducible exact foretellref_endOf.mono _ _ _)
   | (with_reducible exact LeO.refl _)
   | (with_reducible exact LeO.none _)
   | (with_reducible refine LeO.ite ?_ ?_)
   | (with_reducible refine LeO.bind ?_ (fun _=>?_))
   | exact ih0 _ _ _ _ _
   | exact foretellref_EndsOf.mono _ _
   | exact foretellref_Ops.mono _ _ _ _
   | exact foretellref_PartsOf.mono _ _
   | exact foretellref_endOf.mono _ _ _
   | exact LeO.none _
   | refine LeO.ite ?_ ?_
   | refine LeO.bind ?_ (fun _=>?_)
set_option maxHeartbeats 8000000 in
set_option maxRecDepth 100000 in
theorem foretellref_SplitOf.calls (k:Nat) (A0:Option Addr) (c0:Nat) (l0:List (S94)) (r1:List (List (S94))) (r2:Int) (w:World) (hr0:Kd.C k94 w A0 l0.length l0) (hc0:l0.length ≤ c0) (h:foretellref_SplitOf.f k l0 = some (r1,r2)) :
  Calls Tryd.prog 101 #[.slice A0 l0.length c0] w fun e w'=>∃ v0_:Value,e = .returned (.tuple #[v0_,.int .i64 r2])∧Kd.S (Kd.slice 94 k94) 45 w' w.heap.size (fun _=>True) v0_ r1∧Below w.heap.size w w':=by
 have HR0:=zA hr0
 have HC0:=zA hc0
 clear hr0 hc0
 have HB:=zA (Below.refl w.heap.size w)
 have H:((foretellref_EndsOf.f k l0).bind fun bt226=>(if bt226.2 = 0 then (if 0 < (l0.length:Int) then ((foretellref_PartsOf.f k ((rd_T94 l0 0).f0)).bind fun bt231=>(foretellref_SplitOf.l0 k l0 ([]:List (List (S94))) bt231.1 1 0)) else (none)) else (some (([]:List (List (S94))),bt226.2)))) = some (r1,r2):=h
 clear h
 replace H:=zb.mp H
 obtain ⟨⟨t226,t227⟩,A20,H⟩:=H
 replace H:(if t227 = 0 then (if 0 < (l0.length:Int) then ((foretellref_PartsOf.f k ((rd_T94 l0 0).f0)).bind fun bt231=>(foretellref_SplitOf.l0 k l0 ([]:List (List (S94))) bt231.1 1 0)) else (none)) else (some (([]:List (List (S94))),t227))) = some (r1,r2):=H
 have A2:=zA A20
 clear A20
 by_cases c3:t227 = 0
 ·rw [if_pos c3] at H
  have c3b0:(t227 == 0) = true:=beq_iff_eq.mpr c3
  have c3b1:(t227 != 0) = false:=bne_eq_false_iff_eq.mpr c3
  clear c3
  by_cases c4:0 < (l0.length:Int)
  ·rw [if_pos c4] at H
   have c4b0:decide (0 < (l0.length:Int)) = true:=zQ c4
   have c4b1:decide (0 < l0.length) = true:=zQ (by omega)
   clear c4
   replace H:=zb.mp H
   obtain ⟨⟨t231,t232⟩,A50,H⟩:=H
   replace H:(foretellref_SplitOf.l0 k l0 ([]:List (List (S94))) t231 1 0) = some (r1,r2):=H
   have A5:=zA A50
   clear A50
   have H':=zA H
   clear H
   go_enter Tryd.func101,Tryd.ntmps101
   go_wp2_with (first|((with_reducible refine zU (f:=74) rfl ?_);refine goesL_ (some 16) rfl rfl Tryd.func74 (by kernel_rfl) rfl #[.slice A0 l0.length c0] rfl (by (try simp only [zx,zy,zz]);first|done|rfl|(simp only [zd,zt];rfl)) ?_;(with_reducible refine (foretellref_EndsOf.calls k _ _ l0 t226 t227 _ ?side1 ?side2 A2.out).mono ?_);(case side1=>repeat (first|exact HR0.out|(with_reducible refine Kd.C_alloc ?_ _)|(with_reducible refine Kd.C_drewN ?_ _)|(with_reducible refine Kd.C_drew ?_)));(case side2=>exact HC0.out);rintro e w6 ⟨v228,rfl,ho0,hb⟩;refine ⟨_,rfl,?_⟩;have n0_:=zA (Kd.R_lower ho0 (zG (by repeat (first|(with_reducible first|exact HB.out|apply zD|apply zC|apply zE)|exact HB.out))));have n1_:=zA (zH (by repeat (first|(with_reducible first|exact HB.out|apply zD|apply zC|apply zE)|exact HB.out)) hb);clear HB;have HO229:=n0_;have HB:=n1_;clear n0_ n1_;(try clear hb);(try clear hb2);(try clear hk);(try clear hi);(try clear ho0);have p230:0 ≤ (0:Int):=(by omega);have q230:0 < (l0.length:Int):=zP (by assumption);obtain ⟨ad230,e230,hx230_0,hx230_1⟩:=at_T94 HR0.out 0 p230 q230;cases e230;have qi230:(0 < l0.length) = True:=eq_true (by omega);(try rw [show ((0:Int)).toNat = 0 from rfl] at hx230_0);(try rw [show 0 * 2 = 0 from rfl] at hx230_0);(try rw [Addr.add_zero'] at hx230_0);(try rw [show ((0:Int)).toNat = 0 from rfl] at hx230_1);(try rw [show 0 * 2 = 0 from rfl] at hx230_1);(try rw [Addr.add_zero'] at hx230_1);replace hx230_0:=(HB.out.cell (zB w _ hx230_0)).trans hx230_0;replace hx230_1:=(HB.out.cell (zB w _ hx230_1)).trans hx230_1;replace p230:=eq_true p230;replace q230:=eq_true q230)|((with_reducible refine zU (f:=115) rfl ?_);refine goesL_ (some 27) rfl rfl Tryd.func115 (by kernel_rfl) rfl #[.int .i64 ((rd_T94 l0 0).f0)] rfl (by (try simp only [zx,zy,zz]);first|done|rfl|(simp only [zd,zt];rfl)) ?_;(with_reducible refine (foretellref_PartsOf.calls k ((rd_T94 l0 0).f0) t231 t232 _ A5.out).mono ?_);rintro e w' ⟨rfl,⟨nd,rfl⟩⟩;refine ⟨_,rfl,?_⟩))
   go_loopg [6,9,10] k (fun kq v6 v9 v10 w'=>∃ (x6_1:List (List (S94))) (x9_1:Int) (x10_1:Int),v9 = .int .i64 x9_1∧v10 = .int .i64 x10_1∧Aside0 (foretellref_SplitOf.l0 kq l0 x6_1 t231 x9_1 x10_1 = some (r1,r2))∧Aside0 (kq ≤ k)∧Aside0 (Kd.S (Kd.slice 94 k94) 45 w' w.heap.size (fun _=>True) v6 x6_1)∧Aside0 (Below w.heap.size w w'))
   case atStart=>exact ⟨(([]:List (List (S94)))),(1),(0),(by first|rfl|(simp;done)|(simp [*];done)),(by first|rfl|(simp;done)|(simp [*];done)),H',⟨Nat.le_refl _⟩,⟨by first|exact Kd.S_nil _ _ _ _ _|exact Kd.N_nil _ _ _ _ _|exact Kd.V_nil _ _ _ _ _|exact Kd.Q_nil _ _ _ _ _|exact Kd.R_nil _ _ _ _ _⟩,⟨by repeat (first|(with_reducible first|exact HB.out|apply zD|apply zC|apply zE)|exact HB.out)⟩⟩
   case round =>
    clear H'
    try clear c1
    try clear p2
    try clear q2
    try clear hx2
    try clear qi2
    try clear c3
    try clear c3b0
    try clear c3b1
    try clear c4
    try clear c4b0
    try clear c4b1
    try clear hx230_0
    try clear hx230_1
    try clear p230
    try clear q230
    obtain ⟨x6_1,x9_1,x10_1,rfl,rfl,HA,HK1,HO_6,HB⟩:=hrel
    cases gk with
    | zero=>exact absurd HA.out (by simp [foretellref_SplitOf.l0])
    | succ k1 =>
     have H:=HA.out
     clear HA
     simp only [foretellref_SplitOf.l0] at H
     by_cases c7:x10_1 < t231
     ·rw [if_pos c7] at H
      have c7b0:decide (x10_1 < t231) = true:=zQ c7
      clear c7
      replace H:=zb.mp H
      obtain ⟨⟨t233,t234⟩,A80,H⟩:=H
      replace H:((foretellref_Ops.f k1 l0 x9_1 t233).bind fun t235=>(if x6_1.length < 5864062014805 then (foretellref_SplitOf.l0 k1 l0 (x6_1 ++ [t235]) t231 t233 (wrap64 (x10_1 + 1))) else (none))) = some (r1,r2):=H
      have A8:=zA A80
      clear A80
      replace H:=zb.mp H
      obtain ⟨t235,A90,H⟩:=H
      replace H:(if x6_1.length < 5864062014805 then (foretellref_SplitOf.l0 k1 l0 (x6_1 ++ [t235]) t231 t233 (wrap64 (x10_1 + 1))) else (none)) = some (r1,r2):=H
      have A9:=zA A90
      clear A90
      by_cases c10:x6_1.length < 5864062014805
      ·rw [if_pos c10] at H
       have LMc10:=zA c10
       clear c10
       obtain ⟨y238,hy238⟩:∃ y_:List (List (S94)),y_ = (x6_1 ++ [t235]):=⟨_,rfl⟩
       replace H:(foretellref_SplitOf.l0 k1 l0 y238 t231 t233 (wrap64 (x10_1 + 1))) = some (r1,r2):=by first|(rw [hy238];with_reducible exact H)|(have H2_:=(Option.bind_some _ _).symm.trans H;rw [hy238];with_reducible exact H2_)|(have H2_:=(Option.bind_some _ _).symm.trans H;with_reducible exact H2_)|with_reducible exact H|(rw [hy238];exact H)|exact H
       have Ny238:=zA hy238
       clear hy238
       have H':=zA H
       clear H
       go_wp2_with (first|((with_reducible refine zU (f:=92) rfl ?_);refine goesL_ (some 38) rfl rfl Tryd.func92 (by kernel_rfl) rfl #[.slice (some ad230) l0.length c0,.int .i64 x9_1] rfl (by (try simp only [zx,zy,zz]);first|done|rfl|(simp only [zd,zt];rfl)) ?_;(with_reducible refine (foretellref_endOf.calls k1 _ _ l0 x9_1 t233 t234 _ ?side1 ?side2 A8.out).mono ?_);(case side1=>repeat (first|exact (zT HR0.out HB.out)|(with_reducible refine Kd.C_alloc ?_ _)|(with_reducible refine Kd.C_drewN ?_ _)|(with_reducible refine Kd.C_drew ?_)));(case side2=>exact HC0.out);rintro e w' ⟨rfl,⟨nd,rfl⟩⟩;refine ⟨_,rfl,?_⟩)|((with_reducible refine zU (f:=116) rfl ?_);refine goesL_ (some 44) rfl rfl Tryd.func116 (by kernel_rfl) rfl #[.slice (some ad230) l0.length c0,.int .i64 x9_1,.int .i64 t233] rfl (by (try simp only [zx,zy,zz]);first|done|rfl|(simp only [zd,zt];rfl)) ?_;(with_reducible refine (foretellref_Ops.calls k1 _ _ l0 x9_1 t233 t235 _ ?side1 ?side2 A9.out).mono ?_);(case side1=>repeat (first|exact (zT HR0.out (by repeat (first|(with_reducible first|exact HB.out|apply zD|apply zC|apply zE)|exact HB.out)))|(with_reducible refine Kd.C_alloc ?_ _)|(with_reducible refine Kd.C_drewN ?_ _)|(with_reducible refine Kd.C_drew ?_)));(case side2=>exact HC0.out);rintro e w11 ⟨v236,rfl,ho0,hb⟩;refine ⟨_,rfl,?_⟩;have n0_:=zA (Kd.S_elder' (by (with_reducible repeat (first|apply Kd.S_alloc|apply Kd.S_drewN|apply Kd.S_drew));exact HO_6.out) (Kd.R_base ho0) hb);have n1_:=zA (Kd.R_lower ho0 (zG (by repeat (first|(with_reducible first|exact HB.out|apply zD|apply zC|apply zE)|exact HB.out))));have n2_:=zA (zH (by repeat (first|(with_reducible first|exact HB.out|apply zD|apply zC|apply zE)|exact HB.out)) hb);clear HO_6;clear HB;have HO_6:=n0_;have HO237:=n1_;have HB:=n2_;clear n0_ n1_ n2_;(try clear hb);(try clear hb2);(try clear hk);(try clear hi);(try clear ho0);obtain ⟨Ao13,co13,eo13⟩:=Kd.R_slice HO237.out;subst eo13)|((with_reducible refine gate_builtin (b:=.append) (xs:=#[.tmp 45,.tmp 47]) rfl ?_);at_builtin;refine Kd.S_append (Kd.slice 94 k94) (w0:=w) w.heap.size rfl (.tmp 45) (.tmp 47) 33 45 (.slice none 0 0) 24 rfl Tryd.underlying33 info45 rfl (by decide) (by omega) u6 x6_1 t235 [.slice Ao13 t235.length co13] (fun _=>True) (fun k_=>some k_ = (.slice Ao13 t235.length co13:Value).ownBlock) rfl rfl ?aP (fun k_ hk_=>((Kd.R_mono (ok':=fun k_=>((fun _=>True)) k_∧some k_ ≠ (u6:Value).ownBlock) (Kd.R_apart' (HO237.out) (Kd.S_typed HO_6.out) (by decide)) (fun k_ hk=>⟨trivial,hk.2⟩))).1 k_ hk_.symm) ?aF ?aO ?aB ?aS ?aL ?_;(case aP=>exact Kd.M_row (Kd.R_mono (Kd.R_tight rfl (Kd.R_mono (ok':=fun k_=>((fun _=>True)) k_∧some k_ ≠ (u6:Value).ownBlock) (Kd.R_apart' (HO237.out) (Kd.S_typed HO_6.out) (by decide)) (fun k_ hk=>⟨trivial,hk.2⟩))) (fun _ h_=>h_)));(case aB=>exact (by repeat (first|(with_reducible first|exact HB.out|apply zD|apply zC|apply zE)|exact HB.out)));(case aF=>exact (fun _ _=>trivial));(case aO=>exact (by (with_reducible repeat (first|apply Kd.S_alloc|apply Kd.S_drewN|apply Kd.S_drew));exact Kd.S_mono HO_6.out (fun k_ hk=>⟨trivial,fun e_=>hk.2 e_⟩)));(case aS=>exact (zG (by repeat (first|(with_reducible first|exact HB.out|apply zD|apply zC|apply zE)|exact HB.out))));(case aL=>have:=LMc10.out;omega);intro v239 w12 ho hb hg hat;rw [← Ny238.out] at ho;have n0_:=zA (hb);have n1_:=zA (ho);clear HB;clear HO_6;clear HO237;have HB:=n0_;have HO240:=n1_;clear n0_ n1_;clear ho hb hg hat))
       go_roundg k1
       case measure=>have:=HK1.out;omega
       case rel=>exact ⟨(y238),(t233),(wrap64 (x10_1 + 1)),(by first|rfl|(simp;done)|(simp [*];done)),(by first|rfl|(simp;done)|(simp [*];done)),H',⟨by have:=HK1.out;omega⟩,⟨by (with_reducible repeat (first|apply Kd.S_alloc|apply Kd.S_drewN|apply Kd.S_drew));exact HO240.out⟩,⟨by repeat (first|(with_reducible first|exact HB.out|apply zD|apply zC|apply zE)|exact HB.out)⟩⟩
      ·rw [if_neg c10] at H
       exact absurd H (by simp)
     ·rw [if_neg c7] at H
      have c7b0:decide (x10_1 < t231) = false:=zR c7
      clear c7
      simp only [Option.some.injEq,Prod.mk.injEq] at H
      obtain ⟨rfl,rfl⟩:=H
      go_wp2
      go_ret2
      exact ⟨_,by first|rfl|(simp [errW_none,errW_some] <;> rfl)|(simp [*,errW_none,errW_some] <;> rfl),by (with_reducible repeat (first|apply Kd.S_alloc|apply Kd.S_drewN|apply Kd.S_drew));exact HO_6.out,by repeat (first|(with_reducible first|exact HB.out|apply zD|apply zC|apply zE)|exact HB.out)⟩
  ·rw [if_neg c4] at H
   exact absurd H (by simp)
 ·rw [if_neg c3] at H
  have c3b0:(t227 == 0) = false:=beq_eq_false_iff_ne.mpr c3
  have c3b1:(t227 != 0) = true:=bne_iff_ne.mpr c3
  simp only [Option.some.injEq,Prod.mk.injEq] at H
  obtain ⟨rfl,rfl⟩:=H
  go_enter Tryd.func101,Tryd.ntmps101
  go_wp2_with (first|((with_reducible refine zU (f:=74) rfl ?_);refine goesL_ (some 16) rfl rfl Tryd.func74 (by kernel_rfl) rfl #[.slice A0 l0.length c0] rfl (by (try simp only [zx,zy,zz]);first|done|rfl|(simp only [zd,zt];rfl)) ?_;(with_reducible refine (foretellref_EndsOf.calls k _ _ l0 t226 t227 _ ?side1 ?side2 A2.out).mono ?_);(case side1=>repeat (first|exact HR0.out|(with_reducible refine Kd.C_alloc ?_ _)|(with_reducible refine Kd.C_drewN ?_ _)|(with_reducible refine Kd.C_drew ?_)));(case side2=>exact HC0.out);rintro e w14 ⟨v228,rfl,ho0,hb⟩;refine ⟨_,rfl,?_⟩;have n0_:=zA (Kd.R_lower ho0 (zG (by repeat (first|(with_reducible first|exact HB.out|apply zD|apply zC|apply zE)|exact HB.out))));have n1_:=zA (zH (by repeat (first|(with_reducible first|exact HB.out|apply zD|apply zC|apply zE)|exact HB.out)) hb);clear HB;have HO229:=n0_;have HB:=n1_;clear n0_ n1_;(try clear hb);(try clear hb2);(try clear hk);(try clear hi);(try clear ho0)))
  go_ret2
  exact ⟨_,by first|rfl|(simp [errW_none,errW_some] <;> rfl)|(simp [*,errW_none,errW_some] <;> rfl),by first|exact Kd.S_nil _ _ _ _ _|exact Kd.N_nil _ _ _ _ _|exact Kd.V_nil _ _ _ _ _|exact Kd.Q_nil _ _ _ _ _|exact Kd.R_nil _ _ _ _ _,by repeat (first|(with_reducible first|exact HB.out|apply zD|apply zC|apply zE)|exact HB.out)⟩
def foretellref_takesTruth.f (a0:Int):Option (Bool):=(foretellref_In.f a0 8 10).bind fun t241=>(some t241)
set_option maxHeartbeats 8000000 in
set_option maxRecDepth 100000 in
theorem foretellref_takesTruth.calls (a0:Int) (r:Bool) (w:World) (h:foretellref_takesTruth.f a0 = some r) :
  Calls Tryd.prog 113 #[.int .i64 a0] w fun e w'=>e = .returned (.bool r)∧Drawn0 w w':=by
 have H:((foretellref_In.f a0 8 10).bind fun t241=>(some t241)) = some r:=h
 clear h
 replace H:=zb.mp H
 obtain ⟨t241,A20,H⟩:=H
 replace H:(some t241) = some r:=H
 have A2:=zA A20
 clear A20
 obtain rfl:=Option.some.inj H
 go_enter Tryd.func113,Tryd.ntmps113
 go_wp2_with (first|((with_reducible refine zU (f:=56) rfl ?_);refine goesL_ (some 4) rfl rfl Tryd.func56 (by kernel_rfl) rfl #[.int .i64 a0,.int .i64 8,.int .i64 10] rfl (by (try simp only [zx,zy,zz]);first|done|rfl|(simp only [zd,zt];rfl)) ?_;(with_reducible refine (foretellref_In.calls a0 8 10 t241 _ A2.out).mono ?_);rintro e w' ⟨rfl,⟨nd,rfl⟩⟩;refine ⟨_,rfl,?_⟩))
 go_ret
 exact ⟨by first|rfl|(simp;done)|(simp [*];done),by repeat (first|exact Drawn0.refl _|apply Drawn0.step)⟩
mutual
def foretellref_typed.l0:Nat → List (S94) → List (List (S94)) → Int → Option (Int)
 | 0,_,_,_=>none
 | k + 1,x0,x3,x5=>if x5 < (x3.length:Int) then (if 0 ≤ x5 then (if 0 < ((rd_L4 x3 x5).length:Int) then ((foretellref_makesTruth.f ((rd_T94 (rd_L4 x3 x5) 0).f0)).bind fun t248=>(if 0 < (x0.length:Int) then ((foretellref_takesTruth.f ((rd_T94 x0 0).f0)).bind fun t250=>(if (t248 != t250) = true then (some 5) else ((foretellref_typed.f k (rd_L4 x3 x5)).bind fun t252=>(if t252 = 0 then (foretellref_typed.l0 k x0 x3 (wrap64 (x5 + 1))) else (some 5))))) else (none))) else (none)) else (none)) else (some 0)
def foretellref_typed.f:Nat → List (S94) → Option (Int)
 | 0,_=>none
 | k + 1,l0=>(foretellref_SplitOf.f k l0).bind fun bt242=>(foretellref_typed.l0 k l0 bt242.1 0)
end
theorem foretellref_typed.mono_l:∀ k,(∀ y0,LeO (foretellref_typed.f k y0) (foretellref_typed.f (k + 1) y0))∧(∀ y0 y1 y2,LeO (foretellref_typed.l0 k y0 y1 y2) (foretellref_typed.l0 (k + 1) y0 y1 y2))
 | 0=>⟨fun _ r h=>by simp [foretellref_typed.f] at h,fun _ _ _ r h=>by simp [foretellref_typed.l0] at h⟩
 | k + 1=>by
  obtain ⟨ih0,ih1⟩:=foretellref_typed.mono_l k
  refine ⟨?_,?_⟩
  ·intro y0
   unfold foretellref_typed.f
   repeat' first
   | (with_reducible exact ih0 _)
   | (with_reducible exact ih1 _ _ _)
   | (with_reducible exact foretellref_SplitOf.mono _ _)
   | (with_reducible exact LeO.refl _)
   | (with_reducible exact LeO.none _)
   | (with_reducible refine LeO.ite ?_ ?_)
   | (with_reducible refine LeO.bind ?_ (fun _=>?_))
   | exact ih0 _
   | exact ih1 _ _ _
   | exact foretellref_SplitOf.mono _ _
   | exact LeO.none _
   | refine LeO.ite ?_ ?_
   | refine LeO.bind ?_ (fun _=>?_)
  ·intro y0 y1 y2
   unfold foretellref_typed.l0
   repeat' first
   | (with_reducible exact ih0 _)
   | (with_reducible exact ih1 _ _ _)
   | (with_reducible exact foretellref_SplitOf.mono _ _)
   | (with_reducible exact LeO.refl _)
   | (with_reducible exact LeO.none _)
   | (with_reducible refine LeO.ite ?_ ?_)
   | (with_reducible refine LeO.bind ?_ (fun _=>?_))
   | exact ih0 _
   | exact ih1 _ _ _
   | exact foretellref_SplitOf.mono _ _
   | exact LeO.none _
   | refine LeO.ite ?_ ?_
   | refine LeO.bind ?_ (fun _=>?_)
theorem foretellref_typed.mono:∀ a0 k,LeO (foretellref_typed.f k a0) (foretellref_typed.f (k + 1) a0):=by
 intro a0 k
 obtain ⟨ih0,ih1⟩:=foretellref_typed.mono_l k
 exact ih0 a0
def foretellref_typed.T5:Bool × List (List Nat × List Nat):=(true,[([],[]),([],[]),([0,1],[0,1]),([2],[2]),([3],[3]),([4],[4]),([5],[5]),([6],[6]),([],[]),([8],[8]),([9],[9]),([10],[10]),([11,7],[11]),([7,12],[7,12]),([13,12],[13]),([14],[14]),([14],[14]),([15,16,14],[14,15,16]),([17,14],[14,17]),([18,14,14],[14,18]),([19,14],[14,19]),([14,20],[14,20])])
def foretellref_typed.B5:List Nat:=[0,0,3,7,15,31,63,127,0,256,768,1792,4095,8191,16383,32767,32767,131071,262143,524287,1048575,2097151]
theorem foretellref_typed.tab5:rtab .any (opsOf Tryd.f88 5) = foretellref_typed.T5:=by kernel_rfl
theorem foretellref_typed.bits5:waitsOk foretellref_typed.T5.2 foretellref_typed.B5 = true:=by kernel_rfl
set_option maxHeartbeats 8000000 in
set_option maxRecDepth 100000 in
theorem foretellref_typed.calls (k:Nat):∀ (A0:Option Addr) (c0:Nat) (l0:List (S94)) (r:Int) (w:World) (hr0:Kd.C k94 w A0 l0.length l0) (hc0:l0.length ≤ c0) (h:foretellref_typed.f k l0 = some r),
  Calls Tryd.prog 88 #[.slice A0 l0.length c0] w fun e w'=>e = .returned (.int .i64 r)∧Below w.heap.size w w':=by
 induction k using Nat.strongRecOn with
 | _ k ih =>
 intro A0 c0 l0 r w hr0 hc0 h
 cases k with
 | zero=>exact absurd h (by simp [foretellref_typed.f])
 | succ k =>
 simp only [foretellref_typed.f] at h
 have HR0:=zA hr0
 have HC0:=zA hc0
 clear hr0 hc0
 have HB:=zA (Below.refl w.heap.size w)
 have H:((foretellref_SplitOf.f k l0).bind fun bt242=>(foretellref_typed.l0 k l0 bt242.1 0)) = some r:=h
 clear h
 replace H:=zb.mp H
 obtain ⟨⟨t242,t243⟩,A20,H⟩:=H
 replace H:(foretellref_typed.l0 k l0 t242 0) = some r:=H
 have A2:=zA A20
 clear A20
 have H':=zA H
 clear H
 go_enter Tryd.func88,Tryd.ntmps88
 go_wp2_with (first|((with_reducible refine zU (f:=101) rfl ?_);refine goesL_ (some 8) rfl rfl Tryd.func101 (by kernel_rfl) rfl #[.slice A0 l0.length c0] rfl (by (try simp only [zx,zy,zz]);first|done|rfl|(simp only [zd,zt];rfl)) ?_;(with_reducible refine (foretellref_SplitOf.calls k _ _ l0 t242 t243 _ ?side1 ?side2 A2.out).mono ?_);(case side1=>repeat (first|exact HR0.out|(with_reducible refine Kd.C_alloc ?_ _)|(with_reducible refine Kd.C_drewN ?_ _)|(with_reducible refine Kd.C_drew ?_)));(case side2=>exact HC0.out);rintro e w3 ⟨v244,rfl,ho0,hb⟩;refine ⟨_,rfl,?_⟩;have n0_:=zA (Kd.S_lower ho0 (zG (by repeat (first|(with_reducible first|exact HB.out|apply zD|apply zC|apply zE)|exact HB.out))));have n1_:=zA (zH (by repeat (first|(with_reducible first|exact HB.out|apply zD|apply zC|apply zE)|exact HB.out)) hb);clear HB;have HO245:=n0_;have HB:=n1_;clear n0_ n1_;(try clear hb);(try clear hb2);(try clear hk);(try clear hi);(try clear ho0)))
 go_loopg [5] k (fun kq v5 w'=>∃ (x5_1:Int),v5 = .int .i64 x5_1∧Aside0 (foretellref_typed.l0 kq l0 t242 x5_1 = some r)∧Aside0 (kq ≤ k)∧Aside0 (Kd.S (Kd.slice 94 k94) 45 w' w.heap.size (fun _=>True) v244 t242)∧Aside0 (Below w.heap.size w w'))
 case atStart=>exact ⟨(0),(by first|rfl|(simp;done)|(simp [*];done)),H',⟨Nat.le_refl _⟩,⟨by (with_reducible repeat (first|apply Kd.S_alloc|apply Kd.S_drewN|apply Kd.S_drew));exact HO245.out⟩,⟨by repeat (first|(with_reducible first|exact HB.out|apply zD|apply zC|apply zE)|exact HB.out)⟩⟩
 case round =>
  clear H'
  try clear c1
  try clear p2
  obtain ⟨x5_1,rfl,HA,HK1,HO_3,HB⟩:=hrel
  cases gk with
  | zero=>exact absurd HA.out (by simp [foretellref_typed.l0])
  | succ k1 =>
   have H:=HA.out
   clear HA
   simp only [foretellref_typed.l0] at H
   by_cases c4:x5_1 < (t242.length:Int)
   ·rw [if_pos c4] at H
    have c4b0:decide (x5_1 < (t242.length:Int)) = true:=zQ c4
    clear c4
    by_cases c5:0 ≤ x5_1
    ·rw [if_pos c5] at H
     have c5b0:decide (0 ≤ x5_1) = true:=zQ c5
     clear c5
     by_cases c6:0 < ((rd_L4 t242 x5_1).length:Int)
     ·rw [if_pos c6] at H
      have c6b0:decide (0 < ((rd_L4 t242 x5_1).length:Int)) = true:=zQ c6
      have c6b1:decide (0 < (rd_L4 t242 x5_1).length) = true:=zQ (by omega)
      clear c6
      replace H:=zb.mp H
      obtain ⟨t248,A70,H⟩:=H
      replace H:(if 0 < (l0.length:Int) then ((foretellref_takesTruth.f ((rd_T94 l0 0).f0)).bind fun t250=>(if (t248 != t250) = true then (some 5) else ((foretellref_typed.f k1 (rd_L4 t242 x5_1)).bind fun t252=>(if t252 = 0 then (foretellref_typed.l0 k1 l0 t242 (wrap64 (x5_1 + 1))) else (some 5))))) else (none)) = some r:=H
      have A7:=zA A70
      clear A70
      by_cases c8:0 < (l0.length:Int)
      ·rw [if_pos c8] at H
       have c8b0:decide (0 < (l0.length:Int)) = true:=zQ c8
       have c8b1:decide (0 < l0.length) = true:=zQ (by omega)
       clear c8
       replace H:=zb.mp H
       obtain ⟨t250,A90,H⟩:=H
       replace H:(if (t248 != t250) = true then (some 5) else ((foretellref_typed.f k1 (rd_L4 t242 x5_1)).bind fun t252=>(if t252 = 0 then (foretellref_typed.l0 k1 l0 t242 (wrap64 (x5_1 + 1))) else (some 5)))) = some r:=H
       have A9:=zA A90
       clear A90
       by_cases c10:(t248 != t250) = true
       ·rw [if_pos c10] at H
        have c10b0:(t248 != t250) = true:=c10
        (try (have c10b1:decide (t248 = t250) = false:=by simpa using c10))
        (try (have c10b2:(t248 == t250) = false:=by simpa using c10))
        (try (have c10b3:¬ (t248 = t250):=by simpa using c10))
        clear c10
        obtain rfl:=Option.some.inj H
        obtain ⟨Ao11,co11,eo11⟩:=Kd.S_slice HO_3.out
        subst eo11
        try go_wp2
        have n0_:=zA (Kd.S_drew HO_3.out)
        have n1_:=zA (zE HB.out)
        clear HO_3
        clear HB
        have HO_3:=n0_
        have HB:=n1_
        clear n0_ n1_
        have p246:0 ≤ (x5_1:Int):=zP (by assumption)
        have q246:x5_1 < (t242.length:Int):=zP (by assumption)
        obtain ⟨ad246,A246_0,c246_0,e246,hx246_0,hl246_0,hi246_0⟩:=at_L4 (Kd.S_reads' HO_3.out).2.2 x5_1 p246 q246
        cases e246
        obtain ⟨ce246,hce246,hMe246,hcc246⟩:=Kd.S_get HO_3.out [] x5_1 p246 (by first|exact q246|exact zP (by assumption)|(have e_:=(Kd.S_reads' HO_3.out).1;omega))
        obtain ⟨ve246_0,rfl,ge246_0⟩:=hMe246
        have hv246_0:=hcc246 0 _ rfl
        rw [Nat.add_zero,show ((Kd.slice 94 k94)).sz = 1 from rfl,Nat.mul_one] at hv246_0
        replace hv246_0:=Option.some.inj (hv246_0.symm.trans hx246_0)
        rw [hv246_0] at ge246_0
        have HL246_0:=zA (show Kd.R k94 94 _ _ _ _ (rd_L4 t242 x5_1) from ge246_0)
        clear hv246_0 ge246_0
        clear hcc246 hce246
        have HR246_0:=zA hi246_0
        have HC246_0:=zA hl246_0
        clear hi246_0 hl246_0
        replace p246:=eq_true p246
        replace q246:=eq_true q246
        have p247:0 ≤ (0:Int):=(by omega)
        have q247:0 < ((rd_L4 t242 x5_1).length:Int):=zP (by assumption)
        obtain ⟨ad247,e247,hx247_0,hx247_1⟩:=at_T94 (by repeat (first|(with_reducible exact HR246_0.out)|(with_reducible refine Kd.C_alloc ?_ _)|(with_reducible refine Kd.C_drewN ?_ _)|(with_reducible refine Kd.C_drew ?_)|exact HR246_0.out)) 0 p247 q247
        cases e247
        have qi247:(0 < (rd_L4 t242 x5_1).length) = True:=eq_true (by omega)
        (try rw [show ((0:Int)).toNat = 0 from rfl] at hx247_0)
        (try rw [show 0 * 2 = 0 from rfl] at hx247_0)
        (try rw [Addr.add_zero'] at hx247_0)
        (try rw [show ((0:Int)).toNat = 0 from rfl] at hx247_1)
        (try rw [show 0 * 2 = 0 from rfl] at hx247_1)
        (try rw [Addr.add_zero'] at hx247_1)
        replace p247:=eq_true p247
        replace q247:=eq_true q247
        have p249:0 ≤ (0:Int):=(by omega)
        have q249:0 < (l0.length:Int):=zP (by assumption)
        obtain ⟨ad249,e249,hx249_0,hx249_1⟩:=at_T94 HR0.out 0 p249 q249
        have hw249_1:=hx249_1
        (try rw [show ((0:Int)).toNat = 0 from rfl] at hw249_1)
        (try rw [show 0 * 2 = 0 from rfl] at hw249_1)
        (try rw [Addr.add_zero'] at hw249_1)
        have hw249_0:=hx249_0
        (try rw [show ((0:Int)).toNat = 0 from rfl] at hw249_0)
        (try rw [show 0 * 2 = 0 from rfl] at hw249_0)
        (try rw [Addr.add_zero'] at hw249_0)
        cases e249
        have qi249:(0 < l0.length) = True:=eq_true (by omega)
        (try rw [show ((0:Int)).toNat = 0 from rfl] at hx249_0)
        (try rw [show 0 * 2 = 0 from rfl] at hx249_0)
        (try rw [Addr.add_zero'] at hx249_0)
        (try rw [show ((0:Int)).toNat = 0 from rfl] at hx249_1)
        (try rw [show 0 * 2 = 0 from rfl] at hx249_1)
        (try rw [Addr.add_zero'] at hx249_1)
        replace hx249_0:=(HB.out.cell (zB w _ hx249_0)).trans hx249_0
        replace hx249_1:=(HB.out.cell (zB w _ hx249_1)).trans hx249_1
        replace p249:=eq_true p249
        replace q249:=eq_true q249
        refine start_ (n:=22) (S:=fun w'=>w'.cell? (ad246.add (x5_1).toNat) = some (.slice (some ad247) (rd_L4 t242 x5_1).length c246_0)∧w'.cell? ad247 = some (.int .i64 ((rd_T94 (rd_L4 t242 x5_1) 0).f0))∧w'.cell? ⟨ad247.block,ad247.off + 1,none⟩ = some (.int .i64 ((rd_T94 (rd_L4 t242 x5_1) 0).f1))∧w'.cell? ad249 = some (.int .i64 ((rd_T94 l0 0).f0))∧w'.cell? ⟨ad249.block,ad249.off + 1,none⟩ = some (.int .i64 ((rd_T94 l0 0).f1))) (ds:=[]) #[false,false,false,false,false,false,false,false,false,false,false,false,false,false,false,false,false,false,false,false,false,false] (by kernel_rfl) rfl rfl ⟨hx246_0,hx247_0,hx247_1,((HB.out.cell (zB w _ hw249_0)).trans hw249_0),((HB.out.cell (zB w _ hw249_1)).trans hw249_1)⟩ (fun hHeld=>?_);refine with_tabW foretellref_typed.tab5 foretellref_typed.bits5 (fun HT_ HW_=>?_)
        generalize wr.drew = w12 at HO_3 HB HL246_0 HR246_0 hx246_0 hx247_0 hx247_1 hx249_0 hx249_1 hHeld ⊢
        refine pure_ (i:=0) (N:=some 17) (v:=?_) (a':=?_) #[true,false,false,false,false,false,false,false,false,false,false,false,false,false,false,false,false,false,false,false,false,false] rfl rfl (any_of HT_.out (by kernel_rfl)) (fun _ _ _ h=>h) (Or.inl ⟨by rfl,?_⟩) ?_ ?_
        rotate_left
        ·intro w'
         go_simp
         with_reducible rfl
        rotate_left
        ·simp only [Act.put,zX,zY,zZ,i64_w,i32_w]
         rfl
        refine pure_ (i:=1) (N:=some 18) (v:=?_) (a':=?_) #[true,true,false,false,false,false,false,false,false,false,false,false,false,false,false,false,false,false,false,false,false,false] rfl rfl (any_of HT_.out (by kernel_rfl)) (fun _ _ _ h=>h) (Or.inl ⟨by rfl,?_⟩) ?_ ?_
        rotate_left
        ·intro w'
         go_simp
         with_reducible rfl
        rotate_left
        ·simp only [Act.put,zX,zY,zZ,i64_w,i32_w]
         rfl
        refine pure_ (i:=2) (N:=some 19) (v:=?_) (a':=?_) #[true,true,true,false,false,false,false,false,false,false,false,false,false,false,false,false,false,false,false,false,false,false] rfl rfl (any_of HT_.out (by kernel_rfl)) (fun _ _ _ h=>h) (Or.inl ⟨by rfl,?_⟩) ?_ ?_
        rotate_left
        ·intro w'
         go_simp
         with_reducible rfl
        rotate_left
        ·simp only [Act.put,zX,zY,zZ,i64_w,i32_w]
         rfl
        refine pure_ (i:=8) (N:=some 25) (v:=?_) (a':=?_) #[true,true,true,false,false,false,false,false,true,false,false,false,false,false,false,false,false,false,false,false,false,false] rfl rfl (any_of HT_.out (by kernel_rfl)) (fun _ _ _ h=>h) (Or.inl ⟨by rfl,?_⟩) ?_ ?_
        rotate_left
        ·intro w'
         go_simp
         with_reducible rfl
        rotate_left
        ·simp only [Act.put,zX,zY,zZ,i64_w,i32_w]
         rfl
        refine pure_ (i:=9) (N:=some 26) (v:=?_) (a':=?_) #[true,true,true,false,false,false,false,false,true,true,false,false,false,false,false,false,false,false,false,false,false,false] rfl rfl (any_of HT_.out (by kernel_rfl)) (fun _ _ _ h=>h) (Or.inl ⟨by rfl,?_⟩) ?_ ?_
        rotate_left
        ·intro w'
         go_simp
         with_reducible rfl
        rotate_left
        ·simp only [Act.put,zX,zY,zZ,i64_w,i32_w]
         rfl
        refine pure_ (i:=10) (N:=some 27) (v:=?_) (a':=?_) #[true,true,true,false,false,false,false,false,true,true,true,false,false,false,false,false,false,false,false,false,false,false] rfl rfl (any_of HT_.out (by kernel_rfl)) (fun _ _ _ h=>h) (Or.inl ⟨by rfl,?_⟩) ?_ ?_
        rotate_left
        ·intro w'
         go_simp
         with_reducible rfl
        rotate_left
        ·simp only [Act.put,zX,zY,zZ,i64_w,i32_w]
         rfl
        refine take_ (i:=3) (N:=some 20) (v:=?_) (a':=?_) #[true,true,true,true,false,false,false,false,true,true,true,false,false,false,false,false,false,false,false,false,false,false] rfl rfl (take_ofW HT_.out HW_.out (by kernel_rfl)) (fun _ _ _ h=>h) (Or.inl ⟨by rfl,?_⟩) hHeld ?_ ?_
        rotate_left
        ·rintro w' ⟨s0,s1,s2,s3,s4⟩
         go_simp
         with_reducible rfl
        rotate_left
        ·simp only [Act.put,zX,zY,zZ,i64_w,i32_w]
         rfl
        refine pure_ (i:=4) (N:=some 21) (v:=?_) (a':=?_) #[true,true,true,true,true,false,false,false,true,true,true,false,false,false,false,false,false,false,false,false,false,false] rfl rfl (any_of HT_.out (by kernel_rfl)) (fun _ _ _ h=>h) (Or.inl ⟨by rfl,?_⟩) ?_ ?_
        rotate_left
        ·intro w'
         go_simp
         with_reducible rfl
        rotate_left
        ·simp only [Act.put,zX,zY,zZ,i64_w,i32_w]
         rfl
        refine pure_ (i:=5) (N:=some 22) (v:=?_) (a':=?_) #[true,true,true,true,true,true,false,false,true,true,true,false,false,false,false,false,false,false,false,false,false,false] rfl rfl (any_of HT_.out (by kernel_rfl)) (fun _ _ _ h=>h) (Or.inl ⟨by rfl,?_⟩) ?_ ?_
        rotate_left
        ·intro w'
         go_simp
         with_reducible rfl
        rotate_left
        ·simp only [Act.put,zX,zY,zZ,i64_w,i32_w]
         rfl
        refine take_ (i:=6) (N:=some 23) (v:=?_) (a':=?_) #[true,true,true,true,true,true,true,false,true,true,true,false,false,false,false,false,false,false,false,false,false,false] rfl rfl (take_ofW HT_.out HW_.out (by kernel_rfl)) (fun _ _ _ h=>h) (Or.inl ⟨by rfl,?_⟩) hHeld ?_ ?_
        rotate_left
        ·rintro w' ⟨s0,s1,s2,s3,s4⟩
         go_simp
         with_reducible rfl
        rotate_left
        ·simp only [Act.put,zX,zY,zZ,i64_w,i32_w]
         rfl
        refine take_ (i:=11) (N:=some 28) (v:=?_) (a':=?_) #[true,true,true,true,true,true,true,false,true,true,true,true,false,false,false,false,false,false,false,false,false,false] rfl rfl (take_ofW HT_.out HW_.out (by kernel_rfl)) (fun _ _ _ h=>h) (Or.inl ⟨by rfl,?_⟩) hHeld ?_ ?_
        rotate_left
        ·rintro w' ⟨s0,s1,s2,s3,s4⟩
         go_simp
         with_reducible rfl
        rotate_left
        ·simp only [Act.put,zX,zY,zZ,i64_w,i32_w]
         rfl
        refine one_ (i:=7) (N:=some 24) #[true,true,true,true,true,true,true,true,true,true,true,true,false,false,false,false,false,false,false,false,false,false] rfl rfl (one_of HT_.out (by kernel_rfl)) (by decide) (fun K hK=>?_)
        refine goes_ Tryd.func89 (by kernel_rfl) rfl #[.int .i64 ((rd_T94 (rd_L4 t242 x5_1) 0).f0)] (by rfl) rfl rfl (by (try simp only [zx,zy,zz]);first|done|rfl|(simp only [zd,zt];rfl)) ?_
        with_reducible refine (foretellref_makesTruth.calls ((rd_T94 (rd_L4 t242 x5_1) 0).f0) t248 _ A7.out).mono ?_
        rintro e w' ⟨rfl,⟨nd,rfl⟩⟩
        refine ⟨_,rfl,?_⟩
        refine hK.out _ _ ⟨hHeld.1,hHeld.2.1,hHeld.2.2.1,((HB.out.cell (zB w _ hw249_0)).trans hw249_0),((HB.out.cell (zB w _ hw249_1)).trans hw249_1)⟩ (fun hHeld=>?_)
        clear hK K
        refine norm_ (a':=?_) ?_ ?_
        rotate_left
        ·show Act.put _ (some 24) _ = _
         simp only [Act.put,zX,zY,zZ,i64_w,i32_w]
         rfl
        refine one_ (i:=12) (N:=some 29) #[true,true,true,true,true,true,true,true,true,true,true,true,true,false,false,false,false,false,false,false,false,false] rfl rfl (one_of HT_.out (by kernel_rfl)) (by decide) (fun K hK=>?_)
        refine goes_ Tryd.func113 (by kernel_rfl) rfl #[.int .i64 ((rd_T94 l0 0).f0)] (by rfl) rfl rfl (by (try simp only [zx,zy,zz]);first|done|rfl|(simp only [zd,zt];rfl)) ?_
        with_reducible refine (foretellref_takesTruth.calls ((rd_T94 l0 0).f0) t250 _ A9.out).mono ?_
        rintro e w' ⟨rfl,⟨nd,rfl⟩⟩
        refine ⟨_,rfl,?_⟩
        refine hK.out _ _ ⟨hHeld.1,hHeld.2.1,hHeld.2.2.1,((HB.out.cell (zB w _ hw249_0)).trans hw249_0),((HB.out.cell (zB w _ hw249_1)).trans hw249_1)⟩ (fun hHeld=>?_)
        clear hK K
        refine norm_ (a':=?_) ?_ ?_
        rotate_left
        ·show Act.put _ (some 29) _ = _
         simp only [Act.put,zX,zY,zZ,i64_w,i32_w]
         rfl
        refine pure_ (i:=13) (N:=some 30) (v:=?_) (a':=?_) #[true,true,true,true,true,true,true,true,true,true,true,true,true,true,false,false,false,false,false,false,false,false] rfl rfl (any_of HT_.out (by kernel_rfl)) (fun _ _ _ h=>h) (Or.inl ⟨by rfl,?_⟩) ?_ ?_
        rotate_left
        ·intro w'
         go_simp
         with_reducible rfl
        rotate_left
        ·simp only [Act.put,zX,zY,zZ,i64_w,i32_w]
         rfl
        refine pure_ (i:=14) (N:=some 31) (v:=?_) (a':=?_) #[true,true,true,true,true,true,true,true,true,true,true,true,true,true,true,false,false,false,false,false,false,false] rfl rfl (any_of HT_.out (by kernel_rfl)) (fun _ _ _ h=>h) (Or.inl ⟨by rfl,?_⟩) ?_ ?_
        rotate_left
        ·intro w'
         go_simp
         with_reducible rfl
        rotate_left
        ·simp only [Act.put,zX,zY,zZ,i64_w,i32_w]
         rfl
        refine pure_ (i:=15) (N:=some 32) (v:=undef) (a':=?_) #[true,true,true,true,true,true,true,true,true,true,true,true,true,true,true,true,false,false,false,false,false,false] rfl rfl (any_of HT_.out (by kernel_rfl)) (fun _ _ _ h=>h) (Or.inr ⟨by rfl,rfl⟩) ?_ ?_
        rotate_left
        ·simp only [Act.put,zX,zY,zZ,i64_w,i32_w]
         rfl
        refine pure_ (i:=16) (N:=some 33) (v:=undef) (a':=?_) #[true,true,true,true,true,true,true,true,true,true,true,true,true,true,true,true,true,false,false,false,false,false] rfl rfl (any_of HT_.out (by kernel_rfl)) (fun _ _ _ h=>h) (Or.inr ⟨by rfl,rfl⟩) ?_ ?_
        rotate_left
        ·simp only [Act.put,zX,zY,zZ,i64_w,i32_w]
         rfl
        refine pure_ (i:=17) (N:=some 34) (v:=undef) (a':=?_) #[true,true,true,true,true,true,true,true,true,true,true,true,true,true,true,true,true,true,false,false,false,false] rfl rfl (any_of HT_.out (by kernel_rfl)) (fun _ _ _ h=>h) (Or.inr ⟨by rfl,rfl⟩) ?_ ?_
        rotate_left
        ·simp only [Act.put,zX,zY,zZ,i64_w,i32_w]
         rfl
        refine pure_ (i:=18) (N:=some 35) (v:=undef) (a':=?_) #[true,true,true,true,true,true,true,true,true,true,true,true,true,true,true,true,true,true,true,false,false,false] rfl rfl (any_of HT_.out (by kernel_rfl)) (fun _ _ _ h=>h) (Or.inr ⟨by rfl,rfl⟩) ?_ ?_
        rotate_left
        ·simp only [Act.put,zX,zY,zZ,i64_w,i32_w]
         rfl
        refine pure_ (i:=19) (N:=some 36) (v:=undef) (a':=?_) #[true,true,true,true,true,true,true,true,true,true,true,true,true,true,true,true,true,true,true,true,false,false] rfl rfl (any_of HT_.out (by kernel_rfl)) (fun _ _ _ h=>h) (Or.inr ⟨by rfl,rfl⟩) ?_ ?_
        rotate_left
        ·simp only [Act.put,zX,zY,zZ,i64_w,i32_w]
         rfl
        refine pure_ (i:=20) (N:=some 37) (v:=undef) (a':=?_) #[true,true,true,true,true,true,true,true,true,true,true,true,true,true,true,true,true,true,true,true,true,false] rfl rfl (any_of HT_.out (by kernel_rfl)) (fun _ _ _ h=>h) (Or.inr ⟨by rfl,rfl⟩) ?_ ?_
        rotate_left
        ·simp only [Act.put,zX,zY,zZ,i64_w,i32_w]
         rfl
        refine pure_ (i:=21) (N:=some 38) (v:=?_) (a':=?_) #[true,true,true,true,true,true,true,true,true,true,true,true,true,true,true,true,true,true,true,true,true,true] rfl rfl (any_of HT_.out (by kernel_rfl)) (fun _ _ _ h=>h) (Or.inl ⟨by rfl,?_⟩) ?_ ?_
        rotate_left
        ·intro w'
         go_simp
         with_reducible rfl
        rotate_left
        ·simp only [Act.put,zX,zY,zZ,i64_w,i32_w]
         rfl
        refine done_ (done_of HT_.out (by kernel_rfl)) ?_
        try go_wp2
        go_ret
        exact ⟨by first|rfl|(simp [errW_none,errW_some] <;> rfl)|(simp [*,errW_none,errW_some] <;> rfl),by repeat (first|(with_reducible first|exact HB.out|apply zD|apply zC|apply zE)|exact HB.out)⟩
       ·rw [if_neg c10] at H
        have c10b0:(t248 != t250) = false:=by simpa using c10
        (try (have c10b1:decide (t248 = t250) = true:=by simpa using c10))
        (try (have c10b2:(t248 == t250) = true:=by simpa using c10))
        clear c10
        replace H:=zb.mp H
        obtain ⟨t252,A130,H⟩:=H
        replace H:(if t252 = 0 then (foretellref_typed.l0 k1 l0 t242 (wrap64 (x5_1 + 1))) else (some 5)) = some r:=H
        have A13:=zA A130
        clear A130
        by_cases c14:t252 = 0
        ·rw [if_pos c14] at H
         have c14b0:(t252 == 0) = true:=beq_iff_eq.mpr c14
         have c14b1:(t252 != 0) = false:=bne_eq_false_iff_eq.mpr c14
         clear c14
         have H':=zA H
         clear H
         obtain ⟨Ao15,co15,eo15⟩:=Kd.S_slice HO_3.out
         subst eo15
         try go_wp2
         have n0_:=zA (Kd.S_drew HO_3.out)
         have n1_:=zA (zE HB.out)
         clear HO_3
         clear HB
         have HO_3:=n0_
         have HB:=n1_
         clear n0_ n1_
         have p246:0 ≤ (x5_1:Int):=zP (by assumption)
         have q246:x5_1 < (t242.length:Int):=zP (by assumption)
         obtain ⟨ad246,A246_0,c246_0,e246,hx246_0,hl246_0,hi246_0⟩:=at_L4 (Kd.S_reads' HO_3.out).2.2 x5_1 p246 q246
         cases e246
         obtain ⟨ce246,hce246,hMe246,hcc246⟩:=Kd.S_get HO_3.out [] x5_1 p246 (by first|exact q246|exact zP (by assumption)|(have e_:=(Kd.S_reads' HO_3.out).1;omega))
         obtain ⟨ve246_0,rfl,ge246_0⟩:=hMe246
         have hv246_0:=hcc246 0 _ rfl
         rw [Nat.add_zero,show ((Kd.slice 94 k94)).sz = 1 from rfl,Nat.mul_one] at hv246_0
         replace hv246_0:=Option.some.inj (hv246_0.symm.trans hx246_0)
         rw [hv246_0] at ge246_0
         have HL246_0:=zA (show Kd.R k94 94 _ _ _ _ (rd_L4 t242 x5_1) from ge246_0)
         clear hv246_0 ge246_0
         clear hcc246 hce246
         have HR246_0:=zA hi246_0
         have HC246_0:=zA hl246_0
         clear hi246_0 hl246_0
         replace p246:=eq_true p246
         replace q246:=eq_true q246
         have p247:0 ≤ (0:Int):=(by omega)
         have q247:0 < ((rd_L4 t242 x5_1).length:Int):=zP (by assumption)
         obtain ⟨ad247,e247,hx247_0,hx247_1⟩:=at_T94 (by repeat (first|(with_reducible exact HR246_0.out)|(with_reducible refine Kd.C_alloc ?_ _)|(with_reducible refine Kd.C_drewN ?_ _)|(with_reducible refine Kd.C_drew ?_)|exact HR246_0.out)) 0 p247 q247
         cases e247
         have qi247:(0 < (rd_L4 t242 x5_1).length) = True:=eq_true (by omega)
         (try rw [show ((0:Int)).toNat = 0 from rfl] at hx247_0)
         (try rw [show 0 * 2 = 0 from rfl] at hx247_0)
         (try rw [Addr.add_zero'] at hx247_0)
         (try rw [show ((0:Int)).toNat = 0 from rfl] at hx247_1)
         (try rw [show 0 * 2 = 0 from rfl] at hx247_1)
         (try rw [Addr.add_zero'] at hx247_1)
         replace p247:=eq_true p247
         replace q247:=eq_true q247
         have p249:0 ≤ (0:Int):=(by omega)
         have q249:0 < (l0.length:Int):=zP (by assumption)
         obtain ⟨ad249,e249,hx249_0,hx249_1⟩:=at_T94 HR0.out 0 p249 q249
         have hw249_1:=hx249_1
         (try rw [show ((0:Int)).toNat = 0 from rfl] at hw249_1)
         (try rw [show 0 * 2 = 0 from rfl] at hw249_1)
         (try rw [Addr.add_zero'] at hw249_1)
         have hw249_0:=hx249_0
         (try rw [show ((0:Int)).toNat = 0 from rfl] at hw249_0)
         (try rw [show 0 * 2 = 0 from rfl] at hw249_0)
         (try rw [Addr.add_zero'] at hw249_0)
         cases e249
         have qi249:(0 < l0.length) = True:=eq_true (by omega)
         (try rw [show ((0:Int)).toNat = 0 from rfl] at hx249_0)
         (try rw [show 0 * 2 = 0 from rfl] at hx249_0)
         (try rw [Addr.add_zero'] at hx249_0)
         (try rw [show ((0:Int)).toNat = 0 from rfl] at hx249_1)
         (try rw [show 0 * 2 = 0 from rfl] at hx249_1)
         (try rw [Addr.add_zero'] at hx249_1)
         replace hx249_0:=(HB.out.cell (zB w _ hx249_0)).trans hx249_0
         replace hx249_1:=(HB.out.cell (zB w _ hx249_1)).trans hx249_1
         replace p249:=eq_true p249
         replace q249:=eq_true q249
         have p251:0 ≤ (x5_1:Int):=zP (by assumption)
         have q251:x5_1 < (t242.length:Int):=zP (by assumption)
         obtain ⟨ad251,A251_0,c251_0,e251,hx251_0,hl251_0,hi251_0⟩:=at_L4 (Kd.S_reads' HO_3.out).2.2 x5_1 p251 q251
         obtain rfl:ad246 = ad251:=(by injection e251)
         obtain ⟨ce251,hce251,hMe251,hcc251⟩:=Kd.S_get HO_3.out [] x5_1 p251 (by first|exact q251|exact zP (by assumption)|(have e_:=(Kd.S_reads' HO_3.out).1;omega))
         obtain ⟨ve251_0,rfl,ge251_0⟩:=hMe251
         have hv251_0:=hcc251 0 _ rfl
         rw [Nat.add_zero,show ((Kd.slice 94 k94)).sz = 1 from rfl,Nat.mul_one] at hv251_0
         replace hv251_0:=Option.some.inj (hv251_0.symm.trans hx251_0)
         rw [hv251_0] at ge251_0
         have HL251_0:=zA (show Kd.R k94 94 _ _ _ _ (rd_L4 t242 x5_1) from ge251_0)
         clear hv251_0 ge251_0
         clear hcc251 hce251
         have HR251_0:=zA hi251_0
         have HC251_0:=zA hl251_0
         clear hi251_0 hl251_0
         replace p251:=eq_true p251
         replace q251:=eq_true q251
         have ea_:=Option.some.inj (hx246_0.symm.trans hx251_0)
         injection ea_ with ea_ en_ ec_
         subst ea_
         subst ec_
         clear en_
         refine start_ (n:=22) (S:=fun w'=>w'.cell? (ad246.add (x5_1).toNat) = some (.slice (some ad247) (rd_L4 t242 x5_1).length c246_0)∧w'.cell? ad247 = some (.int .i64 ((rd_T94 (rd_L4 t242 x5_1) 0).f0))∧w'.cell? ⟨ad247.block,ad247.off + 1,none⟩ = some (.int .i64 ((rd_T94 (rd_L4 t242 x5_1) 0).f1))∧w'.cell? ad249 = some (.int .i64 ((rd_T94 l0 0).f0))∧w'.cell? ⟨ad249.block,ad249.off + 1,none⟩ = some (.int .i64 ((rd_T94 l0 0).f1))∧w'.cell? (ad246.add (x5_1).toNat) = some (.slice (some ad247) (rd_L4 t242 x5_1).length c246_0)) (ds:=[]) #[false,false,false,false,false,false,false,false,false,false,false,false,false,false,false,false,false,false,false,false,false,false] (by kernel_rfl) rfl rfl ⟨hx246_0,hx247_0,hx247_1,((HB.out.cell (zB w _ hw249_0)).trans hw249_0),((HB.out.cell (zB w _ hw249_1)).trans hw249_1),hx251_0⟩ (fun hHeld=>?_);refine with_tabW foretellref_typed.tab5 foretellref_typed.bits5 (fun HT_ HW_=>?_)
         generalize wr.drew = w16 at HO_3 HB HL246_0 HL251_0 HR246_0 HR251_0 hx246_0 hx247_0 hx247_1 hx249_0 hx249_1 hx251_0 hHeld ⊢
         refine pure_ (i:=0) (N:=some 17) (v:=?_) (a':=?_) #[true,false,false,false,false,false,false,false,false,false,false,false,false,false,false,false,false,false,false,false,false,false] rfl rfl (any_of HT_.out (by kernel_rfl)) (fun _ _ _ h=>h) (Or.inl ⟨by rfl,?_⟩) ?_ ?_
         rotate_left
         ·intro w'
          go_simp
          with_reducible rfl
         rotate_left
         ·simp only [Act.put,zX,zY,zZ,i64_w,i32_w]
          rfl
         refine pure_ (i:=1) (N:=some 18) (v:=?_) (a':=?_) #[true,true,false,false,false,false,false,false,false,false,false,false,false,false,false,false,false,false,false,false,false,false] rfl rfl (any_of HT_.out (by kernel_rfl)) (fun _ _ _ h=>h) (Or.inl ⟨by rfl,?_⟩) ?_ ?_
         rotate_left
         ·intro w'
          go_simp
          with_reducible rfl
         rotate_left
         ·simp only [Act.put,zX,zY,zZ,i64_w,i32_w]
          rfl
         refine pure_ (i:=2) (N:=some 19) (v:=?_) (a':=?_) #[true,true,true,false,false,false,false,false,false,false,false,false,false,false,false,false,false,false,false,false,false,false] rfl rfl (any_of HT_.out (by kernel_rfl)) (fun _ _ _ h=>h) (Or.inl ⟨by rfl,?_⟩) ?_ ?_
         rotate_left
         ·intro w'
          go_simp
          with_reducible rfl
         rotate_left
         ·simp only [Act.put,zX,zY,zZ,i64_w,i32_w]
          rfl
         refine pure_ (i:=8) (N:=some 25) (v:=?_) (a':=?_) #[true,true,true,false,false,false,false,false,true,false,false,false,false,false,false,false,false,false,false,false,false,false] rfl rfl (any_of HT_.out (by kernel_rfl)) (fun _ _ _ h=>h) (Or.inl ⟨by rfl,?_⟩) ?_ ?_
         rotate_left
         ·intro w'
          go_simp
          with_reducible rfl
         rotate_left
         ·simp only [Act.put,zX,zY,zZ,i64_w,i32_w]
          rfl
         refine pure_ (i:=9) (N:=some 26) (v:=?_) (a':=?_) #[true,true,true,false,false,false,false,false,true,true,false,false,false,false,false,false,false,false,false,false,false,false] rfl rfl (any_of HT_.out (by kernel_rfl)) (fun _ _ _ h=>h) (Or.inl ⟨by rfl,?_⟩) ?_ ?_
         rotate_left
         ·intro w'
          go_simp
          with_reducible rfl
         rotate_left
         ·simp only [Act.put,zX,zY,zZ,i64_w,i32_w]
          rfl
         refine pure_ (i:=10) (N:=some 27) (v:=?_) (a':=?_) #[true,true,true,false,false,false,false,false,true,true,true,false,false,false,false,false,false,false,false,false,false,false] rfl rfl (any_of HT_.out (by kernel_rfl)) (fun _ _ _ h=>h) (Or.inl ⟨by rfl,?_⟩) ?_ ?_
         rotate_left
         ·intro w'
          go_simp
          with_reducible rfl
         rotate_left
         ·simp only [Act.put,zX,zY,zZ,i64_w,i32_w]
          rfl
         refine take_ (i:=3) (N:=some 20) (v:=?_) (a':=?_) #[true,true,true,true,false,false,false,false,true,true,true,false,false,false,false,false,false,false,false,false,false,false] rfl rfl (take_ofW HT_.out HW_.out (by kernel_rfl)) (fun _ _ _ h=>h) (Or.inl ⟨by rfl,?_⟩) hHeld ?_ ?_
         rotate_left
         ·rintro w' ⟨s0,s1,s2,s3,s4,s5⟩
          go_simp
          with_reducible rfl
         rotate_left
         ·simp only [Act.put,zX,zY,zZ,i64_w,i32_w]
          rfl
         refine pure_ (i:=4) (N:=some 21) (v:=?_) (a':=?_) #[true,true,true,true,true,false,false,false,true,true,true,false,false,false,false,false,false,false,false,false,false,false] rfl rfl (any_of HT_.out (by kernel_rfl)) (fun _ _ _ h=>h) (Or.inl ⟨by rfl,?_⟩) ?_ ?_
         rotate_left
         ·intro w'
          go_simp
          with_reducible rfl
         rotate_left
         ·simp only [Act.put,zX,zY,zZ,i64_w,i32_w]
          rfl
         refine pure_ (i:=5) (N:=some 22) (v:=?_) (a':=?_) #[true,true,true,true,true,true,false,false,true,true,true,false,false,false,false,false,false,false,false,false,false,false] rfl rfl (any_of HT_.out (by kernel_rfl)) (fun _ _ _ h=>h) (Or.inl ⟨by rfl,?_⟩) ?_ ?_
         rotate_left
         ·intro w'
          go_simp
          with_reducible rfl
         rotate_left
         ·simp only [Act.put,zX,zY,zZ,i64_w,i32_w]
          rfl
         refine take_ (i:=6) (N:=some 23) (v:=?_) (a':=?_) #[true,true,true,true,true,true,true,false,true,true,true,false,false,false,false,false,false,false,false,false,false,false] rfl rfl (take_ofW HT_.out HW_.out (by kernel_rfl)) (fun _ _ _ h=>h) (Or.inl ⟨by rfl,?_⟩) hHeld ?_ ?_
         rotate_left
         ·rintro w' ⟨s0,s1,s2,s3,s4,s5⟩
          go_simp
          with_reducible rfl
         rotate_left
         ·simp only [Act.put,zX,zY,zZ,i64_w,i32_w]
          rfl
         refine take_ (i:=11) (N:=some 28) (v:=?_) (a':=?_) #[true,true,true,true,true,true,true,false,true,true,true,true,false,false,false,false,false,false,false,false,false,false] rfl rfl (take_ofW HT_.out HW_.out (by kernel_rfl)) (fun _ _ _ h=>h) (Or.inl ⟨by rfl,?_⟩) hHeld ?_ ?_
         rotate_left
         ·rintro w' ⟨s0,s1,s2,s3,s4,s5⟩
          go_simp
          with_reducible rfl
         rotate_left
         ·simp only [Act.put,zX,zY,zZ,i64_w,i32_w]
          rfl
         refine one_ (i:=7) (N:=some 24) #[true,true,true,true,true,true,true,true,true,true,true,true,false,false,false,false,false,false,false,false,false,false] rfl rfl (one_of HT_.out (by kernel_rfl)) (by decide) (fun K hK=>?_)
         refine goes_ Tryd.func89 (by kernel_rfl) rfl #[.int .i64 ((rd_T94 (rd_L4 t242 x5_1) 0).f0)] (by rfl) rfl rfl (by (try simp only [zx,zy,zz]);first|done|rfl|(simp only [zd,zt];rfl)) ?_
         with_reducible refine (foretellref_makesTruth.calls ((rd_T94 (rd_L4 t242 x5_1) 0).f0) t248 _ A7.out).mono ?_
         rintro e w' ⟨rfl,⟨nd,rfl⟩⟩
         refine ⟨_,rfl,?_⟩
         refine hK.out _ _ ⟨hHeld.1,hHeld.2.1,hHeld.2.2.1,((HB.out.cell (zB w _ hw249_0)).trans hw249_0),((HB.out.cell (zB w _ hw249_1)).trans hw249_1),hHeld.2.2.2.2.2⟩ (fun hHeld=>?_)
         clear hK K
         refine norm_ (a':=?_) ?_ ?_
         rotate_left
         ·show Act.put _ (some 24) _ = _
          simp only [Act.put,zX,zY,zZ,i64_w,i32_w]
          rfl
         refine one_ (i:=12) (N:=some 29) #[true,true,true,true,true,true,true,true,true,true,true,true,true,false,false,false,false,false,false,false,false,false] rfl rfl (one_of HT_.out (by kernel_rfl)) (by decide) (fun K hK=>?_)
         refine goes_ Tryd.func113 (by kernel_rfl) rfl #[.int .i64 ((rd_T94 l0 0).f0)] (by rfl) rfl rfl (by (try simp only [zx,zy,zz]);first|done|rfl|(simp only [zd,zt];rfl)) ?_
         with_reducible refine (foretellref_takesTruth.calls ((rd_T94 l0 0).f0) t250 _ A9.out).mono ?_
         rintro e w' ⟨rfl,⟨nd,rfl⟩⟩
         refine ⟨_,rfl,?_⟩
         refine hK.out _ _ ⟨hHeld.1,hHeld.2.1,hHeld.2.2.1,((HB.out.cell (zB w _ hw249_0)).trans hw249_0),((HB.out.cell (zB w _ hw249_1)).trans hw249_1),hHeld.2.2.2.2.2⟩ (fun hHeld=>?_)
         clear hK K
         refine norm_ (a':=?_) ?_ ?_
         rotate_left
         ·show Act.put _ (some 29) _ = _
          simp only [Act.put,zX,zY,zZ,i64_w,i32_w]
          rfl
         refine pure_ (i:=13) (N:=some 30) (v:=?_) (a':=?_) #[true,true,true,true,true,true,true,true,true,true,true,true,true,true,false,false,false,false,false,false,false,false] rfl rfl (any_of HT_.out (by kernel_rfl)) (fun _ _ _ h=>h) (Or.inl ⟨by rfl,?_⟩) ?_ ?_
         rotate_left
         ·intro w'
          go_simp
          with_reducible rfl
         rotate_left
         ·simp only [Act.put,zX,zY,zZ,i64_w,i32_w]
          rfl
         refine pure_ (i:=14) (N:=some 31) (v:=?_) (a':=?_) #[true,true,true,true,true,true,true,true,true,true,true,true,true,true,true,false,false,false,false,false,false,false] rfl rfl (any_of HT_.out (by kernel_rfl)) (fun _ _ _ h=>h) (Or.inl ⟨by rfl,?_⟩) ?_ ?_
         rotate_left
         ·intro w'
          go_simp
          with_reducible rfl
         rotate_left
         ·simp only [Act.put,zX,zY,zZ,i64_w,i32_w]
          rfl
         refine pure_ (i:=15) (N:=some 32) (v:=?_) (a':=?_) #[true,true,true,true,true,true,true,true,true,true,true,true,true,true,true,true,false,false,false,false,false,false] rfl rfl (any_of HT_.out (by kernel_rfl)) (fun _ _ _ h=>h) (Or.inl ⟨by rfl,?_⟩) ?_ ?_
         rotate_left
         ·intro w'
          go_simp
          with_reducible rfl
         rotate_left
         ·simp only [Act.put,zX,zY,zZ,i64_w,i32_w]
          rfl
         refine pure_ (i:=16) (N:=some 33) (v:=?_) (a':=?_) #[true,true,true,true,true,true,true,true,true,true,true,true,true,true,true,true,true,false,false,false,false,false] rfl rfl (any_of HT_.out (by kernel_rfl)) (fun _ _ _ h=>h) (Or.inl ⟨by rfl,?_⟩) ?_ ?_
         rotate_left
         ·intro w'
          go_simp
          with_reducible rfl
         rotate_left
         ·simp only [Act.put,zX,zY,zZ,i64_w,i32_w]
          rfl
         refine pure_ (i:=17) (N:=some 34) (v:=?_) (a':=?_) #[true,true,true,true,true,true,true,true,true,true,true,true,true,true,true,true,true,true,false,false,false,false] rfl rfl (any_of HT_.out (by kernel_rfl)) (fun _ _ _ h=>h) (Or.inl ⟨by rfl,?_⟩) ?_ ?_
         rotate_left
         ·intro w'
          go_simp
          with_reducible rfl
         rotate_left
         ·simp only [Act.put,zX,zY,zZ,i64_w,i32_w]
          rfl
         refine take_ (i:=18) (N:=some 35) (v:=?_) (a':=?_) #[true,true,true,true,true,true,true,true,true,true,true,true,true,true,true,true,true,true,true,false,false,false] rfl rfl (take_ofW HT_.out HW_.out (by kernel_rfl)) (fun _ _ _ h=>h) (Or.inl ⟨by rfl,?_⟩) hHeld ?_ ?_
         rotate_left
         ·rintro w' ⟨s0,s1,s2,s3,s4,s5⟩
          go_simp
          with_reducible rfl
         rotate_left
         ·simp only [Act.put,zX,zY,zZ,i64_w,i32_w]
          rfl
         refine one_ (i:=19) (N:=some 36) #[true,true,true,true,true,true,true,true,true,true,true,true,true,true,true,true,true,true,true,true,false,false] rfl rfl (one_of HT_.out (by kernel_rfl)) (by decide) (fun K hK=>?_)
         refine goes_ Tryd.func88 (by kernel_rfl) rfl #[.slice (some ad247) (rd_L4 t242 x5_1).length c246_0] (by rfl) rfl rfl (by (try simp only [zx,zy,zz]);first|done|rfl|(simp only [zd,zt];rfl)) ?_
         with_reducible refine (ih k1 (by have:=HK1.out;omega) _ _ (rd_L4 t242 x5_1) t252 _ ?side1 ?side2 A13.out).mono ?_
         (case side1=>repeat (first|exact (by repeat (first|(with_reducible exact HR251_0.out)|(with_reducible refine Kd.C_alloc ?_ _)|(with_reducible refine Kd.C_drewN ?_ _)|(with_reducible refine Kd.C_drew ?_)|exact HR251_0.out))|(with_reducible refine Kd.C_alloc ?_ _)|(with_reducible refine Kd.C_drewN ?_ _)|(with_reducible refine Kd.C_drew ?_)))
         (case side2=>exact HC251_0.out)
         rintro e w17 ⟨rfl,hb⟩
         have HS0_:=(hb.cell (zB _ _ (hHeld.1))).trans (hHeld.1)
         have HS1_:=(hb.cell (zB _ _ (hHeld.2.1))).trans (hHeld.2.1)
         have HS2_:=(hb.cell (zB _ _ (hHeld.2.2.1))).trans (hHeld.2.2.1)
         have HS5_:=(hb.cell (zB _ _ (hHeld.2.2.2.2.2))).trans (hHeld.2.2.2.2.2)
         refine ⟨_,rfl,?_⟩
         have n0_:=zA (Kd.S_below (by (with_reducible repeat (first|apply Kd.S_alloc|apply Kd.S_drewN|apply Kd.S_drew));exact HO_3.out) hb)
         have n1_:=zA (Kd.R_below (by (with_reducible repeat (first|apply Kd.R_alloc|apply Kd.R_drewN|apply Kd.R_drew));exact HL246_0.out) hb)
         have n2_:=zA (Kd.R_below (by (with_reducible repeat (first|apply Kd.R_alloc|apply Kd.R_drewN|apply Kd.R_drew));exact HL251_0.out) hb)
         have n3_:=zA (zT (by repeat (first|(with_reducible exact HR246_0.out)|(with_reducible refine Kd.C_alloc ?_ _)|(with_reducible refine Kd.C_drewN ?_ _)|(with_reducible refine Kd.C_drew ?_)|exact HR246_0.out)) hb)
         have n4_:=zA (zT (by repeat (first|(with_reducible exact HR251_0.out)|(with_reducible refine Kd.C_alloc ?_ _)|(with_reducible refine Kd.C_drewN ?_ _)|(with_reducible refine Kd.C_drew ?_)|exact HR251_0.out)) hb)
         have n5_:=zA (zH (by repeat (first|(with_reducible first|exact HB.out|apply zD|apply zC|apply zE)|exact HB.out)) hb)
         clear HO_3
         clear HL246_0
         clear HL251_0
         clear HR246_0
         clear HR251_0
         clear HB
         have HO_3:=n0_
         have HL246_0:=n1_
         have HL251_0:=n2_
         have HR246_0:=n3_
         have HR251_0:=n4_
         have HB:=n5_
         clear n0_ n1_ n2_ n3_ n4_ n5_
         (try clear hb)
         (try clear hb2)
         (try clear hk)
         (try clear hi)
         refine hK.out _ _ ⟨HS0_,HS1_,HS2_,((HB.out.cell (zB w _ hw249_0)).trans hw249_0),((HB.out.cell (zB w _ hw249_1)).trans hw249_1),HS5_⟩ (fun hHeld=>?_)
         clear hK K
         refine norm_ (a':=?_) ?_ ?_
         rotate_left
         ·show Act.put _ (some 36) _ = _
          simp only [Act.put,zX,zY,zZ,i64_w,i32_w]
          rfl
         refine pure_ (i:=20) (N:=some 37) (v:=?_) (a':=?_) #[true,true,true,true,true,true,true,true,true,true,true,true,true,true,true,true,true,true,true,true,true,false] rfl rfl (any_of HT_.out (by kernel_rfl)) (fun _ _ _ h=>h) (Or.inl ⟨by rfl,?_⟩) ?_ ?_
         rotate_left
         ·intro w'
          go_simp
          with_reducible rfl
         rotate_left
         ·simp only [Act.put,zX,zY,zZ,i64_w,i32_w]
          rfl
         refine pure_ (i:=21) (N:=some 38) (v:=?_) (a':=?_) #[true,true,true,true,true,true,true,true,true,true,true,true,true,true,true,true,true,true,true,true,true,true] rfl rfl (any_of HT_.out (by kernel_rfl)) (fun _ _ _ h=>h) (Or.inl ⟨by rfl,?_⟩) ?_ ?_
         rotate_left
         ·intro w'
          go_simp
          with_reducible rfl
         rotate_left
         ·simp only [Act.put,zX,zY,zZ,i64_w,i32_w]
          rfl
         refine done_ (done_of HT_.out (by kernel_rfl)) ?_
         try go_wp2
         go_roundg k1
         case measure=>have:=HK1.out;omega
         case rel=>exact ⟨(wrap64 (x5_1 + 1)),(by first|rfl|(simp;done)|(simp [*];done)),H',⟨by have:=HK1.out;omega⟩,⟨by (with_reducible repeat (first|apply Kd.S_alloc|apply Kd.S_drewN|apply Kd.S_drew));exact HO_3.out⟩,⟨by repeat (first|(with_reducible first|exact HB.out|apply zD|apply zC|apply zE)|exact HB.out)⟩⟩
        ·rw [if_neg c14] at H
         have c14b0:(t252 == 0) = false:=beq_eq_false_iff_ne.mpr c14
         have c14b1:(t252 != 0) = true:=bne_iff_ne.mpr c14
         obtain rfl:=Option.some.inj H
         obtain ⟨Ao18,co18,eo18⟩:=Kd.S_slice HO_3.out
         subst eo18
         try go_wp2
         have n0_:=zA (Kd.S_drew HO_3.out)
         have n1_:=zA (zE HB.out)
         clear HO_3
         clear HB
         have HO_3:=n0_
         have HB:=n1_
         clear n0_ n1_
         have p246:0 ≤ (x5_1:Int):=zP (by assumption)
         have q246:x5_1 < (t242.length:Int):=zP (by assumption)
         obtain ⟨ad246,A246_0,c246_0,e246,hx246_0,hl246_0,hi246_0⟩:=at_L4 (Kd.S_reads' HO_3.out).2.2 x5_1 p246 q246
         cases e246
         obtain ⟨ce246,hce246,hMe246,hcc246⟩:=Kd.S_get HO_3.out [] x5_1 p246 (by first|exact q246|exact zP (by assumption)|(have e_:=(Kd.S_reads' HO_3.out).1;omega))
         obtain ⟨ve246_0,rfl,ge246_0⟩:=hMe246
         have hv246_0:=hcc246 0 _ rfl
         rw [Nat.add_zero,show ((Kd.slice 94 k94)).sz = 1 from rfl,Nat.mul_one] at hv246_0
         replace hv246_0:=Option.some.inj (hv246_0.symm.trans hx246_0)
         rw [hv246_0] at ge246_0
         have HL246_0:=zA (show Kd.R k94 94 _ _ _ _ (rd_L4 t242 x5_1) from ge246_0)
         clear hv246_0 ge246_0
         clear hcc246 hce246
         have HR246_0:=zA hi246_0
         have HC246_0:=zA hl246_0
         clear hi246_0 hl246_0
         replace p246:=eq_true p246
         replace q246:=eq_true q246
         have p247:0 ≤ (0:Int):=(by omega)
         have q247:0 < ((rd_L4 t242 x5_1).length:Int):=zP (by assumption)
         obtain ⟨ad247,e247,hx247_0,hx247_1⟩:=at_T94 (by repeat (first|(with_reducible exact HR246_0.out)|(with_reducible refine Kd.C_alloc ?_ _)|(with_reducible refine Kd.C_drewN ?_ _)|(with_reducible refine Kd.C_drew ?_)|exact HR246_0.out)) 0 p247 q247
         cases e247
         have qi247:(0 < (rd_L4 t242 x5_1).length) = True:=eq_true (by omega)
         (try rw [show ((0:Int)).toNat = 0 from rfl] at hx247_0)
         (try rw [show 0 * 2 = 0 from rfl] at hx247_0)
         (try rw [Addr.add_zero'] at hx247_0)
         (try rw [show ((0:Int)).toNat = 0 from rfl] at hx247_1)
         (try rw [show 0 * 2 = 0 from rfl] at hx247_1)
         (try rw [Addr.add_zero'] at hx247_1)
         replace p247:=eq_true p247
         replace q247:=eq_true q247
         have p249:0 ≤ (0:Int):=(by omega)
         have q249:0 < (l0.length:Int):=zP (by assumption)
         obtain ⟨ad249,e249,hx249_0,hx249_1⟩:=at_T94 HR0.out 0 p249 q249
         have hw249_1:=hx249_1
         (try rw [show ((0:Int)).toNat = 0 from rfl] at hw249_1)
         (try rw [show 0 * 2 = 0 from rfl] at hw249_1)
         (try rw [Addr.add_zero'] at hw249_1)
         have hw249_0:=hx249_0
         (try rw [show ((0:Int)).toNat = 0 from rfl] at hw249_0)
         (try rw [show 0 * 2 = 0 from rfl] at hw249_0)
         (try rw [Addr.add_zero'] at hw249_0)
         cases e249
         have qi249:(0 < l0.length) = True:=eq_true (by omega)
         (try rw [show ((0:Int)).toNat = 0 from rfl] at hx249_0)
         (try rw [show 0 * 2 = 0 from rfl] at hx249_0)
         (try rw [Addr.add_zero'] at hx249_0)
         (try rw [show ((0:Int)).toNat = 0 from rfl] at hx249_1)
         (try rw [show 0 * 2 = 0 from rfl] at hx249_1)
         (try rw [Addr.add_zero'] at hx249_1)
         replace hx249_0:=(HB.out.cell (zB w _ hx249_0)).trans hx249_0
         replace hx249_1:=(HB.out.cell (zB w _ hx249_1)).trans hx249_1
         replace p249:=eq_true p249
         replace q249:=eq_true q249
         have p251:0 ≤ (x5_1:Int):=zP (by assumption)
         have q251:x5_1 < (t242.length:Int):=zP (by assumption)
         obtain ⟨ad251,A251_0,c251_0,e251,hx251_0,hl251_0,hi251_0⟩:=at_L4 (Kd.S_reads' HO_3.out).2.2 x5_1 p251 q251
         obtain rfl:ad246 = ad251:=(by injection e251)
         obtain ⟨ce251,hce251,hMe251,hcc251⟩:=Kd.S_get HO_3.out [] x5_1 p251 (by first|exact q251|exact zP (by assumption)|(have e_:=(Kd.S_reads' HO_3.out).1;omega))
         obtain ⟨ve251_0,rfl,ge251_0⟩:=hMe251
         have hv251_0:=hcc251 0 _ rfl
         rw [Nat.add_zero,show ((Kd.slice 94 k94)).sz = 1 from rfl,Nat.mul_one] at hv251_0
         replace hv251_0:=Option.some.inj (hv251_0.symm.trans hx251_0)
         rw [hv251_0] at ge251_0
         have HL251_0:=zA (show Kd.R k94 94 _ _ _ _ (rd_L4 t242 x5_1) from ge251_0)
         clear hv251_0 ge251_0
         clear hcc251 hce251
         have HR251_0:=zA hi251_0
         have HC251_0:=zA hl251_0
         clear hi251_0 hl251_0
         replace p251:=eq_true p251
         replace q251:=eq_true q251
         have ea_:=Option.some.inj (hx246_0.symm.trans hx251_0)
         injection ea_ with ea_ en_ ec_
         subst ea_
         subst ec_
         clear en_
         refine start_ (n:=22) (S:=fun w'=>w'.cell? (ad246.add (x5_1).toNat) = some (.slice (some ad247) (rd_L4 t242 x5_1).length c246_0)∧w'.cell? ad247 = some (.int .i64 ((rd_T94 (rd_L4 t242 x5_1) 0).f0))∧w'.cell? ⟨ad247.block,ad247.off + 1,none⟩ = some (.int .i64 ((rd_T94 (rd_L4 t242 x5_1) 0).f1))∧w'.cell? ad249 = some (.int .i64 ((rd_T94 l0 0).f0))∧w'.cell? ⟨ad249.block,ad249.off + 1,none⟩ = some (.int .i64 ((rd_T94 l0 0).f1))∧w'.cell? (ad246.add (x5_1).toNat) = some (.slice (some ad247) (rd_L4 t242 x5_1).length c246_0)) (ds:=[]) #[false,false,false,false,false,false,false,false,false,false,false,false,false,false,false,false,false,false,false,false,false,false] (by kernel_rfl) rfl rfl ⟨hx246_0,hx247_0,hx247_1,((HB.out.cell (zB w _ hw249_0)).trans hw249_0),((HB.out.cell (zB w _ hw249_1)).trans hw249_1),hx251_0⟩ (fun hHeld=>?_);refine with_tabW foretellref_typed.tab5 foretellref_typed.bits5 (fun HT_ HW_=>?_)
         generalize wr.drew = w19 at HO_3 HB HL246_0 HL251_0 HR246_0 HR251_0 hx246_0 hx247_0 hx247_1 hx249_0 hx249_1 hx251_0 hHeld ⊢
         refine pure_ (i:=0) (N:=some 17) (v:=?_) (a':=?_) #[true,false,false,false,false,false,false,false,false,false,false,false,false,false,false,false,false,false,false,false,false,false] rfl rfl (any_of HT_.out (by kernel_rfl)) (fun _ _ _ h=>h) (Or.inl ⟨by rfl,?_⟩) ?_ ?_
         rotate_left
         ·intro w'
          go_simp
          with_reducible rfl
         rotate_left
         ·simp only [Act.put,zX,zY,zZ,i64_w,i32_w]
          rfl
         refine pure_ (i:=1) (N:=some 18) (v:=?_) (a':=?_) #[true,true,false,false,false,false,false,false,false,false,false,false,false,false,false,false,false,false,false,false,false,false] rfl rfl (any_of HT_.out (by kernel_rfl)) (fun _ _ _ h=>h) (Or.inl ⟨by rfl,?_⟩) ?_ ?_
         rotate_left
         ·intro w'
          go_simp
          with_reducible rfl
         rotate_left
         ·simp only [Act.put,zX,zY,zZ,i64_w,i32_w]
          rfl
         refine pure_ (i:=2) (N:=some 19) (v:=?_) (a':=?_) #[true,true,true,false,false,false,false,false,false,false,false,false,false,false,false,false,false,false,false,false,false,false] rfl rfl (any_of HT_.out (by kernel_rfl)) (fun _ _ _ h=>h) (Or.inl ⟨by rfl,?_⟩) ?_ ?_
         rotate_left
         ·intro w'
          go_simp
          with_reducible rfl
         rotate_left
         ·simp only [Act.put,zX,zY,zZ,i64_w,i32_w]
          rfl
         refine pure_ (i:=8) (N:=some 25) (v:=?_) (a':=?_) #[true,true,true,false,false,false,false,false,true,false,false,false,false,false,false,false,false,false,false,false,false,false] rfl rfl (any_of HT_.out (by kernel_rfl)) (fun _ _ _ h=>h) (Or.inl ⟨by rfl,?_⟩) ?_ ?_
         rotate_left
         ·intro w'
          go_simp
          with_reducible rfl
         rotate_left
         ·simp only [Act.put,zX,zY,zZ,i64_w,i32_w]
          rfl
         refine pure_ (i:=9) (N:=some 26) (v:=?_) (a':=?_) #[true,true,true,false,false,false,false,false,true,true,false,false,false,false,false,false,false,false,false,false,false,false] rfl rfl (any_of HT_.out (by kernel_rfl)) (fun _ _ _ h=>h) (Or.inl ⟨by rfl,?_⟩) ?_ ?_
         rotate_left
         ·intro w'
          go_simp
          with_reducible rfl
         rotate_left
         ·simp only [Act.put,zX,zY,zZ,i64_w,i32_w]
          rfl
         refine pure_ (i:=10) (N:=some 27) (v:=?_) (a':=?_) #[true,true,true,false,false,false,false,false,true,true,true,false,false,false,false,false,false,false,false,false,false,false] rfl rfl (any_of HT_.out (by kernel_rfl)) (fun _ _ _ h=>h) (Or.inl ⟨by rfl,?_⟩) ?_ ?_
         rotate_left
         ·intro w'
          go_simp
          with_reducible rfl
         rotate_left
         ·simp only [Act.put,zX,zY,zZ,i64_w,i32_w]
          rfl
         refine take_ (i:=3) (N:=some 20) (v:=?_) (a':=?_) #[true,true,true,true,false,false,false,false,true,true,true,false,false,false,false,false,false,false,false,false,false,false] rfl rfl (take_ofW HT_.out HW_.out (by kernel_rfl)) (fun _ _ _ h=>h) (Or.inl ⟨by rfl,?_⟩) hHeld ?_ ?_
         rotate_left
         ·rintro w' ⟨s0,s1,s2,s3,s4,s5⟩
          go_simp
          with_reducible rfl
         rotate_left
         ·simp only [Act.put,zX,zY,zZ,i64_w,i32_w]
          rfl
         refine pure_ (i:=4) (N:=some 21) (v:=?_) (a':=?_) #[true,true,true,true,true,false,false,false,true,true,true,false,false,false,false,false,false,false,false,false,false,false] rfl rfl (any_of HT_.out (by kernel_rfl)) (fun _ _ _ h=>h) (Or.inl ⟨by rfl,?_⟩) ?_ ?_
         rotate_left
         ·intro w'
          go_simp
          with_reducible rfl
         rotate_left
         ·simp only [Act.put,zX,zY,zZ,i64_w,i32_w]
          rfl
         refine pure_ (i:=5) (N:=some 22) (v:=?_) (a':=?_) #[true,true,true,true,true,true,false,false,true,true,true,false,false,false,false,false,false,false,false,false,false,false] rfl rfl (any_of HT_.out (by kernel_rfl)) (fun _ _ _ h=>h) (Or.inl ⟨by rfl,?_⟩) ?_ ?_
         rotate_left
         ·intro w'
          go_simp
          with_reducible rfl
         rotate_left
         ·simp only [Act.put,zX,zY,zZ,i64_w,i32_w]
          rfl
         refine take_ (i:=6) (N:=some 23) (v:=?_) (a':=?_) #[true,true,true,true,true,true,true,false,true,true,true,false,false,false,false,false,false,false,false,false,false,false] rfl rfl (take_ofW HT_.out HW_.out (by kernel_rfl)) (fun _ _ _ h=>h) (Or.inl ⟨by rfl,?_⟩) hHeld ?_ ?_
         rotate_left
         ·rintro w' ⟨s0,s1,s2,s3,s4,s5⟩
          go_simp
          with_reducible rfl
         rotate_left
         ·simp only [Act.put,zX,zY,zZ,i64_w,i32_w]
          rfl
         refine take_ (i:=11) (N:=some 28) (v:=?_) (a':=?_) #[true,true,true,true,true,true,true,false,true,true,true,true,false,false,false,false,false,false,false,false,false,false] rfl rfl (take_ofW HT_.out HW_.out (by kernel_rfl)) (fun _ _ _ h=>h) (Or.inl ⟨by rfl,?_⟩) hHeld ?_ ?_
         rotate_left
         ·rintro w' ⟨s0,s1,s2,s3,s4,s5⟩
          go_simp
          with_reducible rfl
         rotate_left
         ·simp only [Act.put,zX,zY,zZ,i64_w,i32_w]
          rfl
         refine one_ (i:=7) (N:=some 24) #[true,true,true,true,true,true,true,true,true,true,true,true,false,false,false,false,false,false,false,false,false,false] rfl rfl (one_of HT_.out (by kernel_rfl)) (by decide) (fun K hK=>?_)
         refine goes_ Tryd.func89 (by kernel_rfl) rfl #[.int .i64 ((rd_T94 (rd_L4 t242 x5_1) 0).f0)] (by rfl) rfl rfl (by (try simp only [zx,zy,zz]);first|done|rfl|(simp only [zd,zt];rfl)) ?_
         with_reducible refine (foretellref_makesTruth.calls ((rd_T94 (rd_L4 t242 x5_1) 0).f0) t248 _ A7.out).mono ?_
         rintro e w' ⟨rfl,⟨nd,rfl⟩⟩
         refine ⟨_,rfl,?_⟩
         refine hK.out _ _ ⟨hHeld.1,hHeld.2.1,hHeld.2.2.1,((HB.out.cell (zB w _ hw249_0)).trans hw249_0),((HB.out.cell (zB w _ hw249_1)).trans hw249_1),hHeld.2.2.2.2.2⟩ (fun hHeld=>?_)
         clear hK K
         refine norm_ (a':=?_) ?_ ?_
         rotate_left
         ·show Act.put _ (some 24) _ = _
          simp only [Act.put,zX,zY,zZ,i64_w,i32_w]
          rfl
         refine one_ (i:=12) (N:=some 29) #[true,true,true,true,true,true,true,true,true,true,true,true,true,false,false,false,false,false,false,false,false,false] rfl rfl (one_of HT_.out (by kernel_rfl)) (by decide) (fun K hK=>?_)
         refine goes_ Tryd.func113 (by kernel_rfl) rfl #[.int .i64 ((rd_T94 l0 0).f0)] (by rfl) rfl rfl (by (try simp only [zx,zy,zz]);first|done|rfl|(simp only [zd,zt];rfl)) ?_
         with_reducible refine (foretellref_takesTruth.calls ((rd_T94 l0 0).f0) t250 _ A9.out).mono ?_
         rintro e w' ⟨rfl,⟨nd,rfl⟩⟩
         refine ⟨_,rfl,?_⟩
         refine hK.out _ _ ⟨hHeld.1,hHeld.2.1,hHeld.2.2.1,((HB.out.cell (zB w _ hw249_0)).trans hw249_0),((HB.out.cell (zB w _ hw249_1)).trans hw249_1),hHeld.2.2.2.2.2⟩ (fun hHeld=>?_)
         clear hK K
         refine norm_ (a':=?_) ?_ ?_
         rotate_left
         ·show Act.put _ (some 29) _ = _
          simp only [Act.put,zX,zY,zZ,i64_w,i32_w]
          rfl
         refine pure_ (i:=13) (N:=some 30) (v:=?_) (a':=?_) #[true,true,true,true,true,true,true,true,true,true,true,true,true,true,false,false,false,false,false,false,false,false] rfl rfl (any_of HT_.out (by kernel_rfl)) (fun _ _ _ h=>h) (Or.inl ⟨by rfl,?_⟩) ?_ ?_
         rotate_left
         ·intro w'
          go_simp
          with_reducible rfl
         rotate_left
         ·simp only [Act.put,zX,zY,zZ,i64_w,i32_w]
          rfl
         refine pure_ (i:=14) (N:=some 31) (v:=?_) (a':=?_) #[true,true,true,true,true,true,true,true,true,true,true,true,true,true,true,false,false,false,false,false,false,false] rfl rfl (any_of HT_.out (by kernel_rfl)) (fun _ _ _ h=>h) (Or.inl ⟨by rfl,?_⟩) ?_ ?_
         rotate_left
         ·intro w'
          go_simp
          with_reducible rfl
         rotate_left
         ·simp only [Act.put,zX,zY,zZ,i64_w,i32_w]
          rfl
         refine pure_ (i:=15) (N:=some 32) (v:=?_) (a':=?_) #[true,true,true,true,true,true,true,true,true,true,true,true,true,true,true,true,false,false,false,false,false,false] rfl rfl (any_of HT_.out (by kernel_rfl)) (fun _ _ _ h=>h) (Or.inl ⟨by rfl,?_⟩) ?_ ?_
         rotate_left
         ·intro w'
          go_simp
          with_reducible rfl
         rotate_left
         ·simp only [Act.put,zX,zY,zZ,i64_w,i32_w]
          rfl
         refine pure_ (i:=16) (N:=some 33) (v:=?_) (a':=?_) #[true,true,true,true,true,true,true,true,true,true,true,true,true,true,true,true,true,false,false,false,false,false] rfl rfl (any_of HT_.out (by kernel_rfl)) (fun _ _ _ h=>h) (Or.inl ⟨by rfl,?_⟩) ?_ ?_
         rotate_left
         ·intro w'
          go_simp
          with_reducible rfl
         rotate_left
         ·simp only [Act.put,zX,zY,zZ,i64_w,i32_w]
          rfl
         refine pure_ (i:=17) (N:=some 34) (v:=?_) (a':=?_) #[true,true,true,true,true,true,true,true,true,true,true,true,true,true,true,true,true,true,false,false,false,false] rfl rfl (any_of HT_.out (by kernel_rfl)) (fun _ _ _ h=>h) (Or.inl ⟨by rfl,?_⟩) ?_ ?_
         rotate_left
         ·intro w'
          go_simp
          with_reducible rfl
         rotate_left
         ·simp only [Act.put,zX,zY,zZ,i64_w,i32_w]
          rfl
         refine take_ (i:=18) (N:=some 35) (v:=?_) (a':=?_) #[true,true,true,true,true,true,true,true,true,true,true,true,true,true,true,true,true,true,true,false,false,false] rfl rfl (take_ofW HT_.out HW_.out (by kernel_rfl)) (fun _ _ _ h=>h) (Or.inl ⟨by rfl,?_⟩) hHeld ?_ ?_
         rotate_left
         ·rintro w' ⟨s0,s1,s2,s3,s4,s5⟩
          go_simp
          with_reducible rfl
         rotate_left
         ·simp only [Act.put,zX,zY,zZ,i64_w,i32_w]
          rfl
         refine one_ (i:=19) (N:=some 36) #[true,true,true,true,true,true,true,true,true,true,true,true,true,true,true,true,true,true,true,true,false,false] rfl rfl (one_of HT_.out (by kernel_rfl)) (by decide) (fun K hK=>?_)
         refine goes_ Tryd.func88 (by kernel_rfl) rfl #[.slice (some ad247) (rd_L4 t242 x5_1).length c246_0] (by rfl) rfl rfl (by (try simp only [zx,zy,zz]);first|done|rfl|(simp only [zd,zt];rfl)) ?_
         with_reducible refine (ih k1 (by have:=HK1.out;omega) _ _ (rd_L4 t242 x5_1) t252 _ ?side1 ?side2 A13.out).mono ?_
         (case side1=>repeat (first|exact (by repeat (first|(with_reducible exact HR251_0.out)|(with_reducible refine Kd.C_alloc ?_ _)|(with_reducible refine Kd.C_drewN ?_ _)|(with_reducible refine Kd.C_drew ?_)|exact HR251_0.out))|(with_reducible refine Kd.C_alloc ?_ _)|(with_reducible refine Kd.C_drewN ?_ _)|(with_reducible refine Kd.C_drew ?_)))
         (case side2=>exact HC251_0.out)
         rintro e w20 ⟨rfl,hb⟩
         have HS0_:=(hb.cell (zB _ _ (hHeld.1))).trans (hHeld.1)
         have HS1_:=(hb.cell (zB _ _ (hHeld.2.1))).trans (hHeld.2.1)
         have HS2_:=(hb.cell (zB _ _ (hHeld.2.2.1))).trans (hHeld.2.2.1)
         have HS5_:=(hb.cell (zB _ _ (hHeld.2.2.2.2.2))).trans (hHeld.2.2.2.2.2)
         refine ⟨_,rfl,?_⟩
         have n0_:=zA (Kd.S_below (by (with_reducible repeat (first|apply Kd.S_alloc|apply Kd.S_drewN|apply Kd.S_drew));exact HO_3.out) hb)
         have n1_:=zA (Kd.R_below (by (with_reducible repeat (first|apply Kd.R_alloc|apply Kd.R_drewN|apply Kd.R_drew));exact HL246_0.out) hb)
         have n2_:=zA (Kd.R_below (by (with_reducible repeat (first|apply Kd.R_alloc|apply Kd.R_drewN|apply Kd.R_drew));exact HL251_0.out) hb)
         have n3_:=zA (zT (by repeat (first|(with_reducible exact HR246_0.out)|(with_reducible refine Kd.C_alloc ?_ _)|(with_reducible refine Kd.C_drewN ?_ _)|(with_reducible refine Kd.C_drew ?_)|exact HR246_0.out)) hb)
         have n4_:=zA (zT (by repeat (first|(with_reducible exact HR251_0.out)|(with_reducible refine Kd.C_alloc ?_ _)|(with_reducible refine Kd.C_drewN ?_ _)|(with_reducible refine Kd.C_drew ?_)|exact HR251_0.out)) hb)
         have n5_:=zA (zH (by repeat (first|(with_reducible first|exact HB.out|apply zD|apply zC|apply zE)|exact HB.out)) hb)
         clear HO_3
         clear HL246_0
         clear HL251_0
         clear HR246_0
         clear HR251_0
         clear HB
         have HO_3:=n0_
         have HL246_0:=n1_
         have HL251_0:=n2_
         have HR246_0:=n3_
         have HR251_0:=n4_
         have HB:=n5_
         clear n0_ n1_ n2_ n3_ n4_ n5_
         (try clear hb)
         (try clear hb2)
         (try clear hk)
         (try clear hi)
         refine hK.out _ _ ⟨HS0_,HS1_,HS2_,((HB.out.cell (zB w _ hw249_0)).trans hw249_0),((HB.out.cell (zB w _ hw249_1)).trans hw249_1),HS5_⟩ (fun hHeld=>?_)
         clear hK K
         refine norm_ (a':=?_) ?_ ?_
         rotate_left
         ·show Act.put _ (some 36) _ = _
          simp only [Act.put,zX,zY,zZ,i64_w,i32_w]
          rfl
         refine pure_ (i:=20) (N:=some 37) (v:=?_) (a':=?_) #[true,true,true,true,true,true,true,true,true,true,true,true,true,true,true,true,true,true,true,true,true,false] rfl rfl (any_of HT_.out (by kernel_rfl)) (fun _ _ _ h=>h) (Or.inl ⟨by rfl,?_⟩) ?_ ?_
         rotate_left
         ·intro w'
          go_simp
          with_reducible rfl
         rotate_left
         ·simp only [Act.put,zX,zY,zZ,i64_w,i32_w]
          rfl
         refine pure_ (i:=21) (N:=some 38) (v:=?_) (a':=?_) #[true,true,true,true,true,true,true,true,true,true,true,true,true,true,true,true,true,true,true,true,true,true] rfl rfl (any_of HT_.out (by kernel_rfl)) (fun _ _ _ h=>h) (Or.inl ⟨by rfl,?_⟩) ?_ ?_
         rotate_left
         ·intro w'
          go_simp
          with_reducible rfl
         rotate_left
         ·simp only [Act.put,zX,zY,zZ,i64_w,i32_w]
          rfl
         refine done_ (done_of HT_.out (by kernel_rfl)) ?_
         try go_wp2
         go_ret
         exact ⟨by first|rfl|(simp [errW_none,errW_some] <;> rfl)|(simp [*,errW_none,errW_some] <;> rfl),by repeat (first|(with_reducible first|exact HB.out|apply zD|apply zC|apply zE)|exact HB.out)⟩
      ·rw [if_neg c8] at H
       exact absurd H (by simp)
     ·rw [if_neg c6] at H
      exact absurd H (by simp)
    ·rw [if_neg c5] at H
     exact absurd H (by simp)
   ·rw [if_neg c4] at H
    have c4b0:decide (x5_1 < (t242.length:Int)) = false:=zR c4
    clear c4
    obtain rfl:=Option.some.inj H
    obtain ⟨Ao21,co21,eo21⟩:=Kd.S_slice HO_3.out
    subst eo21
    go_wp2
    go_ret
    exact ⟨by first|rfl|(simp [errW_none,errW_some] <;> rfl)|(simp [*,errW_none,errW_some] <;> rfl),by repeat (first|(with_reducible first|exact HB.out|apply zD|apply zC|apply zE)|exact HB.out)⟩
end Go.Proofs.YtkpddelnkjjflaaDoor.M
