import Derived.StringKeys
import Derived.Test.YtgdijfhdpgdanaaGreatDoorKProductBehindsG13
import Derived.Test.YtgdijfhdpgdanaaGreatDoorKProductBehindsG14
namespace Go.Proofs.YtgdijfhdpgdanaaGreatDoor.B
open Go.Proofs.YtgdijfhdpgdanaaGreatDoor.Al
open Go.World renaming block_lt_of_cell? → zB
open Go.Proofs.YtgdijfhdpgdanaaGreatDoorW.PrintWords renaming below_alloc → zD, below_step → zH, blk_cell → zI, blk_alloc → zK, blk_below → zN, Kd.C_below → zT, gate_dst → zV
open Option renaming bind_eq_some_iff → zb
open Go.Proofs.YtgdijfhdpgdanaaGreatDoor.Sq Go.RowKit Go.Proofs.YtgdijfhdpgdanaaGreatDoorW.PrintWords Go.Proofs.YtgdijfhdpgdanaaGreatDoorW.PrintLast Go.Proofs.YtgdijfhdpgdanaaGreatDoorW.PrintMore
attribute [local go_sem] max2_int min2_int max_two min_two max_three min_three max_four min_four
set_option linter.unusedVariables false
set_option linter.unusedSimpArgs false
section
open Go.Proofs.YtgdijfhdpgdanaaGreatDoor.Hand
def varsL:List S113 → List ByteArray → Int → Int
 | [],_,_=>0
 | v :: r,seen,st=>if nameB v.f0 = false then 6 else if seen.any (fun s=>s.toList == v.f0.toList) = true then 7 else if v.f1 < -1000 ∨ v.f2 > 1000 ∨ v.f1 > v.f2 ∨ v.f3 < v.f1 ∨ v.f3 > v.f2 then 2 else if v.f2 - v.f1 ≥ 64 then 1 else if st * (v.f2 - v.f1 + 1) > 4096 then 1 else varsL r (seen ++ [v.f0]) (st * (v.f2 - v.f1 + 1))
def zBJ.f (l0:List S113):Option Int:=some (if 6 < l0.length then 1 else varsL l0 [] 1)
def vkeys (seen:List ByteArray):List (Value × Value):=seen.map fun s=>(.string s,.agg #[])
theorem zeroU (w:World):(zeroValue 161).run Tryz.prog w = .ok (.agg #[]) w:=by kernel_rfl
theorem vkeys_ok {seen:List ByteArray} (h:∀ s ∈ seen,s.size ≤ 8):∀ p ∈ vkeys seen,∃ l,keyOf Tryz.prog 9 p.1 = some l:=fun p hp=>by
 obtain ⟨s,hs,rfl⟩:=List.mem_map.1 hp
 exact ⟨_,Go.WideMaps.keyOf_string_mk Tryz.underlying9 (Nat.le_trans (h s hs) (by decide))⟩
theorem name_size {s:ByteArray} (h:nameB s = true):s.size ≤ 8:=by
 unfold nameB at h;split at h
 ·cases h
 ·rename_i hc;exact Nat.le_of_not_lt fun h8=>hc (.inr (.inl h8))
theorem vars_step {l:List S113} {j:Nat} (hj:j < l.length) (seen:List ByteArray) (st:Int):varsL (l.drop j) seen st = varsL (zAO l (j:Int) :: l.drop (j + 1)) seen st:=by
 rw [List.drop_eq_getElem_cons hj];have:zAO l (j:Int) = l[j]:=by unfold zAO;simp [hj]
 rw [this]
set_option maxHeartbeats 2000000 in
set_option maxRecDepth 100000 in
theorem zBJ.calls (A0:Option Addr) (c0:Nat) (l0:List S113) (r:Int) (w:World) (hr0:Kd.C k113 w A0 l0.length l0) (hc0:l0.length ≤ c0) (h:zBJ.f l0 = some r) :
  Calls Tryz.prog 106 #[.slice A0 l0.length c0] w fun e w'=>e = .returned (.int .i64 r)∧Below w.heap.size w w':=by
 have h:=Option.some.inj h;have HR:=zA hr0;clear hr0 hc0;by_cases g1:6 < l0.length
 ·have q1:decide ((l0.length:Int) > 6) = true:=zQ (by omega);rw [if_pos g1] at h;subst h;go_enter Tryz.func106,Tryz.ntmps106;go_wp2;go_ret;exact ⟨rfl,Below.refl _ _⟩
 have q1:decide ((l0.length:Int) > 6) = false:=zR (by omega);rw [if_neg g1] at h;have HH:=zA h;have HL:=zA g1;clear h g1;go_enter Tryz.func106,Tryz.ntmps106;go_wp2;rw [run_makeMap];go_simp;go_wp2;have HM:=zA (MapIs.made w);have HB:=zA (zD (Below.refl w.heap.size w) (.map #[] 0));obtain ⟨w1,hw1⟩:∃ w1,w1 = w.alloc (.map #[] 0):=⟨_,rfl⟩;rw [← hw1] at HM HB ⊢;clear hw1 q1;go_loopg [4,15] (l0.length + 1) (fun kq v4 v15 w'=>∃ (j:Nat) (st:Int) (seen:List ByteArray),v4 = .int .i64 st∧v15 = .int .i64 (j:Int)∧Aside0 (kq + j = l0.length + 1)∧Aside0 (0 ≤ st∧st ≤ 4096)∧Aside0 (∀ s ∈ seen,s.size ≤ 8)∧Aside0 (MapIs w' w.heap.size (vkeys seen))∧Aside0 (varsL (l0.drop j) seen st = r)∧Aside0 (Below w.heap.size w w'))
 case atStart=>exact ⟨0,1,[],rfl,rfl,⟨rfl⟩,⟨by decide⟩,⟨fun s hs=>(nomatch hs)⟩,HM,HH,HB⟩
 case round =>
  clear HM HB HH;obtain ⟨j,st,seen,rfl,rfl,HJ,HS,HK,HM,HH,HB⟩:=hrel;by_cases hlt:j < l0.length
  case neg =>
   have hq:decide ((j:Int) < (l0.length:Int)) = false:=zR (by omega);have hr:=HH.out;rw [List.drop_of_length_le (by omega)] at hr;subst hr;go_wp2;go_ret;exact ⟨rfl,HB.out⟩
  have hq:decide ((j:Int) < (l0.length:Int)) = true:=zQ (by omega);have hp:(0 ≤ (j:Int)) = True:=qT (by omega);have hh:=HH.out;rw [vars_step hlt] at hh;obtain ⟨ad,ead,k0,k1,k2,k3⟩:=zBO HR.out (j:Int) (by omega) (by omega);subst ead;replace k0:=(HB.out.cell (zB w _ k0)).trans k0;replace k1:=(HB.out.cell (zB w _ k1)).trans k1;replace k2:=(HB.out.cell (zB w _ k2)).trans k2;replace k3:=(HB.out.cell (zB w _ k3)).trans k3;generalize zAO l0 (j:Int) = v at hh k0 k1 k2 k3;obtain ⟨vn,vl,vh,vi⟩:=v;dsimp only at k0 k1 k2 k3;rw [Int.toNat_natCast] at k0 k1 k2 k3;have HHH:=zA hh;clear hh HH;go_wp2_with fail;obtain ⟨b,hbn⟩:∃ b,nameB vn = b:=⟨_,rfl⟩;refine (zBX.calls vn b _ (by show some (nameB vn) = some b;rw [hbn])).mono ?_;rintro e w2 ⟨rfl,hb2⟩;have HX:=zA (zN (blk_new wr (.cells #[.string vn,.int .i64 vl,.int .i64 vh,.int .i64 vi] 113)) hb2);have HM2:=zA ((HM.out.alloc (.cells #[.string vn,.int .i64 vl,.int .i64 vh,.int .i64 vi] 113)).below hb2 (HM.out.alloc _).lt);have HB2:=zA (zH (zD HB.out _) hb2);obtain ⟨gv,hgv⟩:∃ gv,gv = wr.heap.size:=⟨_,rfl⟩;rw [← hgv] at HX ⊢;have HGV:=zA (show w.heap.size < gv by rw [hgv];exact HM.out.lt);clear hb2 hgv k0 k1 k2 k3 hp hq;have k0:w2.cell? ⟨gv,0,none⟩ = some (.string vn):=zI HX.out 0;cases b with
  | false =>
   have hr:=HHH.out;rw [varsL,if_pos hbn] at hr;subst hr;go_wp2_with fail;go_ret;exact ⟨rfl,HB2.out⟩
  | true =>
  have hnb:=name_size hbn;have hh:=HHH.out;rw [varsL,if_neg (by rw [hbn];decide)] at hh;by_cases hs:seen.any (fun s=>s.toList == vn.toList) = true
  ·rw [if_pos hs] at hh;subst hh;have hlook:=MapIs.look_some HM2.out (Go.Maps.string_keyed Tryz.underlying9) Tryz.underlying160 (vkeys_ok HK.out) (key:=.string vn) (v:=.agg #[]) (Go.WideMaps.keyOf_string_mk Tryz.underlying9 (Nat.le_trans hnb (by decide))) true (fun p hp _=>by obtain ⟨s,_,rfl⟩:=List.mem_map.1 hp;rfl) (by
    obtain ⟨s,hs1,hs2⟩:=List.any_eq_true.1 hs;refine ⟨_,List.mem_map.2 ⟨s,hs1,rfl⟩,?_⟩;have:=beq_iff_eq.1 hs2;rw [ByteArray.toList_eq,ByteArray.toList_eq] at this
    rw [Go.WideShapes.bytes_inj this])
   simp only [if_true] at hlook;clear hs;go_wp2_with fail;go_ret;exact ⟨rfl,zD HB2.out _⟩
  rw [if_neg hs] at hh;have hlook:=MapIs.look_none HM2.out (Go.Maps.string_keyed Tryz.underlying9) Tryz.underlying160 (vkeys_ok HK.out) (zeroU w2) (key:=.string vn) (Go.WideMaps.keyOf_string_mk Tryz.underlying9 (Nat.le_trans hnb (by decide))) true (fun p hp he=>by
   obtain ⟨s,hs1,rfl⟩:=List.mem_map.1 hp;injection he with he;subst he
   exact hs (List.any_eq_true.2 ⟨_,hs1,by simp⟩))
  simp only [if_true] at hlook;have HS2:=zA hs;have HN2:=zA hnb;have HH2:=zA hh;clear hs hnb hh HHH hbn;go_upto_region 13 with fail;have HX3:=zA (zK HX.out (.cells #[] 161));have HM3:=zA (HM2.out.alloc (.cells #[] 161));have HB3:=zA (zD HB2.out (.cells #[] 161));obtain ⟨w3,hw3⟩:∃ w3,w3 = w2.alloc (.cells #[] 161):=⟨_,rfl⟩;rw [← hw3] at HX3 HM3 HB3 ⊢;clear hw3 hlook k0 HX HM2 HB2 HM HB;have k0:w3.cell? ⟨gv,0,none⟩ = some (.string vn):=zI HX3.out 0;go_upto_region 14 with (refine wpList_mapPut_is _ rfl (.tmp 31) (.tmp 33) (.tmp 34) 160 rfl 9 161 (Go.Maps.string_keyed Tryz.underlying9) Tryz.underlying160 w.heap.size _ rfl HM3.out (.string vn) (.agg #[]) (.string vn.data.toList) rfl rfl (Go.WideMaps.keyOf_string_mk Tryz.underlying9 (Nat.le_trans HN2.out (by decide))) (vkeys_ok HK.out) ?hn ?_;(case hn=>(intro p hp he;obtain ⟨s,hs1,rfl⟩:=List.mem_map.1 hp;injection he with he;subst he;exact HS2.out (List.any_eq_true.2 ⟨_,hs1,by simp⟩)));intro w4 hm4 hg4;have HM4:=zA (show MapIs w4 w.heap.size (vkeys (seen ++ [vn])) by unfold vkeys;rw [List.map_append];exact hm4);have HX4:=zA (blk_grown HX3.out hg4 (by have:=HGV.out;intro e;injection e with e;omega));have HB4:=zA (HB3.out.grown hg4 HB3.out.size (fun k hk=>by injection hk with hk;rw [← hk];exact Nat.le_refl _));clear hm4 hg4 k0);clear HX3 HM3 HB3;have k1:w4.cell? ⟨gv,1,none⟩ = some (.int .i64 vl):=zI HX4.out 1;have k2:w4.cell? ⟨gv,2,none⟩ = some (.int .i64 vh):=zI HX4.out 2;have k3:w4.cell? ⟨gv,3,none⟩ = some (.int .i64 vi):=zI HX4.out 3;have hh:=HH2.out;have hst:=HS.out;clear HH2 HS2;by_cases c1:vl < -1000
  ·have q1:decide (vl < -1000) = true:=zQ c1;rw [if_pos (.inl c1)] at hh;subst hh;clear c1 hst;go_wp2;go_ret;exact ⟨rfl,HB4.out⟩
  have q1:decide (vl < -1000) = false:=zR c1;by_cases c2:vh > 1000
  ·have q2:decide (vh > 1000) = true:=zQ c2;rw [if_pos (.inr (.inl c2))] at hh;subst hh;clear c1 c2 hst;go_wp2;go_ret;exact ⟨rfl,HB4.out⟩
  have q2:decide (vh > 1000) = false:=zR c2;by_cases c3:vl > vh
  ·have q3:decide (vl > vh) = true:=zQ c3;rw [if_pos (.inr (.inr (.inl c3)))] at hh;subst hh;clear c1 c2 c3 hst;go_wp2;go_ret;exact ⟨rfl,HB4.out⟩
  have q3:decide (vl > vh) = false:=zR c3;by_cases c4:vi < vl
  ·have q4:decide (vi < vl) = true:=zQ c4;rw [if_pos (.inr (.inr (.inr (.inl c4))))] at hh;subst hh;clear c1 c2 c3 c4 hst;go_wp2;go_ret;exact ⟨rfl,HB4.out⟩
  have q4:decide (vi < vl) = false:=zR c4;by_cases c5:vi > vh
  ·have q5:decide (vi > vh) = true:=zQ c5;rw [if_pos (.inr (.inr (.inr (.inr c5))))] at hh;subst hh;clear c1 c2 c3 c4 c5 hst;go_wp2;go_ret;exact ⟨rfl,HB4.out⟩
  have q5:decide (vi > vh) = false:=zR c5;rw [if_neg (by omega)] at hh;have e1:IntKind.i64.wrap (vh - vl) = vh - vl:=by rw [IntKind.wrap_i64];omega
  by_cases c6:vh - vl ≥ 64
  ·have q6:decide (vh - vl ≥ 64) = true:=zQ c6;rw [if_pos c6] at hh;subst hh;clear c1 c2 c3 c4 c5 c6 hst;go_wp2;go_ret;exact ⟨rfl,HB4.out⟩
  have q6:decide (vh - vl ≥ 64) = false:=zR c6;rw [if_neg c6] at hh;have e2:IntKind.i64.wrap (vh - vl + 1) = vh - vl + 1:=by rw [IntKind.wrap_i64];omega
  obtain ⟨p,hp⟩:∃ p,p = st * (vh - vl + 1):=⟨_,rfl⟩;have hp0:0 ≤ p:=by rw [hp];exact Int.mul_nonneg hst.1 (by omega)
  have hp1:p ≤ 4096 * 64:=by rw [hp];exact Int.mul_le_mul hst.2 (by omega) (by omega) (by omega)
  have e3:IntKind.i64.wrap (st * (vh - vl + 1)) = p:=by rw [← hp,IntKind.wrap_i64];omega
  rw [← hp] at hh;by_cases c7:p > 4096
  ·have q7:decide (p > 4096) = true:=zQ c7;rw [if_pos c7] at hh;subst hh;clear c1 c2 c3 c4 c5 c6 c7 hst hp hp0 hp1;go_wp2;go_ret;exact ⟨rfl,HB4.out⟩
  have q7:decide (p > 4096) = false:=zR c7;rw [if_neg c7] at hh;have HP:=zA (show 0 ≤ p∧p ≤ 4096 from ⟨hp0,by omega⟩);have HH4:=zA hh;have e4:IntKind.i64.wrap ((j:Int) + 1) = ((j + 1:Nat):Int):=by rw [IntKind.wrap_i64];have:=HL.out;omega
  clear hh hst hp hp0 hp1 c1 c2 c3 c4 c5 c6 c7;have HLT:=zA hlt;clear hlt;go_wp2;go_roundg (l0.length - j)
  case measure=>have:=HJ.out;have:=HLT.out;omega
  case rel=>exact ⟨j + 1,p,seen ++ [vn],rfl,rfl,⟨qp HJ HLT⟩,HP,⟨fun s hs=>by
   rcases List.mem_append.1 hs with h|h
   ·exact HK.out s h
   ·rw [List.mem_singleton.1 h];exact HN2.out⟩,HM4,HH4,HB4⟩
end
section
open Go.Proofs.YtgdijfhdpgdanaaGreatDoor.Hand
def setsL (k:Nat):List S104 → List Int → Int → Option Int
 | [],_,_=>some 0
 | s :: r,seen,n=>if s.f0 < 0 ∨ s.f0 ≥ n then some 2 else if seen.any (fun x=>x == s.f0) = true then some 7 else (zBC.f k s.f1 n false).bind fun e=>if e = 0 then setsL k r (seen ++ [s.f0]) n else some e
theorem setsL_mono (n:Int) (k:Nat):∀ l seen,LeO (setsL k l seen n) (setsL (k + 1) l seen n)
 | [],_=>LeO.refl _
 | s :: r,seen=>by
  unfold setsL
  refine LeO.ite (LeO.refl _) (LeO.ite (LeO.refl _) (LeO.bind (zBC.mono _ _ _ k) (fun e=>LeO.ite (setsL_mono n k r _) (LeO.refl _))))
def zBM.f (k:Nat) (l0_0:List S96) (l0_1:List S104) (a1:Int):Option Int:=if a1 ≤ 1000000 then (if 6 < l0_1.length then some 1 else (zBC.f k l0_0 a1 true).bind fun e=>if e = 0 then setsL k l0_1 [] a1 else some e) else none
theorem zBM.mono:∀ a0 a1 a2 k,LeO (zBM.f k a0 a1 a2) (zBM.f (k + 1) a0 a1 a2):=by
 intro a0 a1 a2 k;unfold zBM.f;exact LeO.ite (LeO.ite (LeO.refl _) (LeO.bind (zBC.mono _ _ _ k) (fun e=>LeO.ite (setsL_mono _ k _ _) (LeO.refl _)))) (LeO.none _)
def skeys (seen:List Int):List (Value × Value):=seen.map fun s=>(.int .i64 s,.agg #[])
theorem skeys_ok {seen:List Int} (h:∀ s ∈ seen,0 ≤ s∧s < 1000000):∀ p ∈ skeys seen,∃ l,keyOf Tryz.prog 3 p.1 = some l:=fun p hp=>by
 obtain ⟨s,hs,rfl⟩:=List.mem_map.1 hp
 exact ⟨_,Go.Maps.keyOf_int_mk Tryz.underlying3 (by have:=h s hs;simp [Lit.wf,IntKind.min,IntKind.max,IntKind.signed,IntKind.bits];omega)⟩
theorem sets_step (k:Nat) {l:List S104} {j:Nat} (hj:j < l.length) (seen:List Int) (n:Int):setsL k (l.drop j) seen n = setsL k (zAc l (j:Int) :: l.drop (j + 1)) seen n:=by
 rw [List.drop_eq_getElem_cons hj];have:zAc l (j:Int) = l[j]:=by unfold zAc;simp [hj]
 rw [this]
set_option maxHeartbeats 2000000 in
set_option maxRecDepth 100000 in
theorem zBM.calls (k:Nat) (A0_0:Option Addr) (c0_0:Nat) (l0_0:List S96) (A0_1:Option Addr) (c0_1:Nat) (l0_1:List S104) (a1:Int) (r:Int) (w:World) (hr0_0:Kd.C k96 w A0_0 l0_0.length l0_0) (hc0_0:l0_0.length ≤ c0_0) (hr0_1:Kd.C k104 w A0_1 l0_1.length l0_1) (hc0_1:l0_1.length ≤ c0_1) (hL:LaidG w) (h:zBM.f k l0_0 l0_1 a1 = some r) :
  Calls Tryz.prog 107 #[.agg #[.slice A0_0 l0_0.length c0_0,.slice A0_1 l0_1.length c0_1],.int .i64 a1] w fun e w'=>e = .returned (.int .i64 r)∧Below w.heap.size w w':=by
 have hu68:=Tryz.underlying102;have HR0:=zA hr0_0;have HR1:=zA hr0_1;have HC0:=zA hc0_0;have HLd:=zA hL;clear hr0_0 hr0_1 hc0_0 hc0_1 hL;unfold zBM.f at h;by_cases g0:a1 ≤ 1000000
 case neg=>rw [if_neg g0] at h;cases h
 rw [if_pos g0] at h;have HA:=zA g0;clear g0;by_cases g1:6 < l0_1.length
 ·have q1:decide ((l0_1.length:Int) > 6) = true:=zQ (by omega);rw [if_pos g1] at h;injection h with h;subst h;go_enter Tryz.func107,Tryz.ntmps107;go_wp2_with (first|((with_reducible refine zV (N:=2) rfl ?_);refine bq 2 (cs:=#[.slice A0_0 l0_0.length c0_0,.slice A0_1 l0_1.length c0_1]) (t:=102) ?_;intro gb hg w1 hbox hb;have HB:=zA hb;have k0:w1.cell? ⟨gb,0,none⟩ = some (.slice A0_0 l0_0.length c0_0):=zI hbox 0;have k1:w1.cell? ⟨gb,1,none⟩ = some (.slice A0_1 l0_1.length c0_1):=zI hbox 1;clear hb hbox hg));go_ret;exact ⟨rfl,HB.out⟩
 have q1:decide ((l0_1.length:Int) > 6) = false:=zR (by omega);rw [if_neg g1] at h;have HL:=zA g1;clear g1;obtain ⟨e0,A2,h⟩:=zb.mp h;have HA2:=zA A2;have HH:=zA h;clear A2 h;go_enter Tryz.func107,Tryz.ntmps107;go_upto_region 4 with (first|((with_reducible refine zV (N:=2) rfl ?_);refine bq 2 (cs:=#[.slice A0_0 l0_0.length c0_0,.slice A0_1 l0_1.length c0_1]) (t:=102) ?_;intro gb hg w1 hbox hb;have HB1:=zA hb;have HX1:=zA hbox;have k0:w1.cell? ⟨gb,0,none⟩ = some (.slice A0_0 l0_0.length c0_0):=zI hbox 0;have k1:w1.cell? ⟨gb,1,none⟩ = some (.slice A0_1 l0_1.length c0_1):=zI hbox 1;clear hb hbox hg)|(go_at_call 78;(with_reducible refine (zBC.calls k _ _ l0_0 a1 true e0 _ (zT HR0.out HB1.out) HC0.out (LaidG.below HLd.out HB1.out) HA2.out).mono ?_);rintro e w2 ⟨rfl,hb⟩;have HX2:=zA (zN HX1.out hb);have HB2:=zA (zH HB1.out hb);clear k0 k1;clear hb));by_cases he:e0 = 0
 case neg =>
  have q2:(e0 != 0) = true:=bne_iff_ne.2 he;have h:=HH.out;rw [if_neg he] at h;injection h with h;subst h;go_wp2;go_ret;exact ⟨rfl,HB2.out⟩
 have q2:(e0 != 0) = false:=bne_eq_false_iff_eq.2 he;have h:=HH.out;rw [if_pos he] at h;have HH2:=zA h;clear HH h he;go_wp2;rw [run_makeMap];go_simp;have HM:=zA (MapIs.made w2);have HB3:=zA (zD HB2.out (.map #[] 0));have HX3:=zA (zK HX2.out (.map #[] 0));obtain ⟨w3,hw3⟩:∃ w3,w3 = w2.alloc (.map #[] 0):=⟨_,rfl⟩;obtain ⟨gm,hgm⟩:∃ gm,gm = w2.heap.size:=⟨_,rfl⟩;have HG:=zA (show w.heap.size ≤ gm by rw [hgm];exact HB2.out.size);rw [← hw3,← hgm] at HM ⊢;rw [← hw3] at HB3 HX3;clear hw3 q1 q2 HX1 HX2 HB1 HB2 hgm;have k1:w3.cell? ⟨gb,1,none⟩ = some (.slice A0_1 l0_1.length c0_1):=zI HX3.out 1;go_wp2;clear k1 HX3;go_loopg [27] (l0_1.length + 1) (fun kq v27 w'=>∃ (j:Nat) (seen:List Int),v27 = .int .i64 (j:Int)∧Aside0 (kq + j = l0_1.length + 1)∧Aside0 (∀ s ∈ seen,0 ≤ s∧s < 1000000)∧Aside0 (MapIs w' gm (skeys seen))∧Aside0 (setsL k (l0_1.drop j) seen a1 = some r)∧Aside0 (Below w.heap.size w w'))
 case atStart=>exact ⟨0,[],rfl,⟨rfl⟩,⟨fun s hs=>(nomatch hs)⟩,HM,HH2,HB3⟩
 case round =>
  clear HM HB3 HH2;obtain ⟨j,seen,rfl,HJ,HK,HM,HH,HB⟩:=hrel;by_cases hlt:j < l0_1.length
  case neg =>
   have hq:decide ((j:Int) < (l0_1.length:Int)) = false:=zR (by omega);have hr:=HH.out;rw [List.drop_of_length_le (by omega)] at hr;injection hr with hr;subst hr;go_wp2;go_ret;exact ⟨rfl,HB.out⟩
  have hq:decide ((j:Int) < (l0_1.length:Int)) = true:=zQ (by omega);have hp:(0 ≤ (j:Int)) = True:=qT (by omega);have hh:=HH.out;rw [sets_step k hlt] at hh;obtain ⟨ad,As,cs,ead,k0,k1,hcs,hCs⟩:=zBR HR1.out (j:Int) (by omega) (by omega);subst ead;replace k0:=(HB.out.cell (zB w _ k0)).trans k0;replace k1:=(HB.out.cell (zB w _ k1)).trans k1;generalize zAc l0_1 (j:Int) = v at hh k0 k1 hcs hCs;obtain ⟨vv,vl⟩:=v;dsimp only at k0 k1 hcs hCs;rw [Int.toNat_natCast] at k0 k1;have HCs:=zA hcs;have HRs:=zA hCs;have HLT:=zA hlt;clear hcs hCs HH;go_upto_region 10 with fail;have HX:=zA (blk_new wr (.cells #[.int .i64 vv,.slice As vl.length cs] 104));have HM2:=zA (HM.out.alloc (.cells #[.int .i64 vv,.slice As vl.length cs] 104));have HB2:=zA (zD HB.out (.cells #[.int .i64 vv,.slice As vl.length cs] 104));obtain ⟨w2,hw2⟩:∃ w2,w2 = wr.alloc (.cells #[.int .i64 vv,.slice As vl.length cs] 104):=⟨_,rfl⟩;obtain ⟨gv,hgv⟩:∃ gv,gv = wr.heap.size:=⟨_,rfl⟩;have HGV:=zA (show gm < gv by rw [hgv];exact HM.out.lt);rw [← hw2] at HX HM2 HB2 ⊢;rw [← hgv] at HX ⊢;clear hw2 hgv k0 k1 hp hq HM HB;have k0:w2.cell? ⟨gv,0,none⟩ = some (.int .i64 vv):=zI HX.out 0;unfold setsL at hh;dsimp only at hh;by_cases c1:vv < 0
  ·have q1:decide (vv < 0) = true:=zQ c1;rw [if_pos (.inl c1)] at hh;injection hh with hh;subst hh;clear c1 hlt;go_wp2;go_ret;exact ⟨rfl,HB2.out⟩
  have q1:decide (vv < 0) = false:=zR c1;by_cases c2:vv ≥ a1
  ·have q2:decide (vv ≥ a1) = true:=zQ c2;rw [if_pos (.inr c2)] at hh;injection hh with hh;subst hh;clear c1 c2 hlt;go_wp2;go_ret;exact ⟨rfl,HB2.out⟩
  have q2:decide (vv ≥ a1) = false:=zR c2;rw [if_neg (by omega)] at hh;have HV:=zA (show 0 ≤ vv∧vv < 1000000 by have:=HA.out;omega);have HWF:=zA (show (Lit.int .i64 vv).wf = true by have:=HV.out;simp [Lit.wf,IntKind.min,IntKind.max,IntKind.signed,IntKind.bits];omega);clear c1 c2;by_cases hs:seen.any (fun x=>x == vv) = true
  ·rw [if_pos hs] at hh;injection hh with hh;subst hh;have hlook:=MapIs.look_some HM2.out (Go.Maps.int_keyed Tryz.underlying3) Tryz.underlying163 (skeys_ok HK.out) (key:=.int .i64 vv) (v:=.agg #[]) (Go.Maps.keyOf_int_mk Tryz.underlying3 HWF.out) true (fun p hp _=>by obtain ⟨s,_,rfl⟩:=List.mem_map.1 hp;rfl) (by
    obtain ⟨s,hs1,hs2⟩:=List.any_eq_true.1 hs;refine ⟨_,List.mem_map.2 ⟨s,hs1,rfl⟩,?_⟩
    rw [beq_iff_eq.1 hs2])
   simp only [if_true] at hlook;clear hs hlt;go_wp2_with fail;go_ret;exact ⟨rfl,zD HB2.out _⟩
  rw [if_neg hs] at hh;have hlook:=MapIs.look_none HM2.out (Go.Maps.int_keyed Tryz.underlying3) Tryz.underlying163 (skeys_ok HK.out) (zeroU w2) (key:=.int .i64 vv) (Go.Maps.keyOf_int_mk Tryz.underlying3 HWF.out) true (fun p hp he=>by
   obtain ⟨s,hs1,rfl⟩:=List.mem_map.1 hp;injection he with _ he;subst he
   exact hs (List.any_eq_true.2 ⟨_,hs1,by simp⟩))
  simp only [if_true] at hlook;have HS2:=zA hs;obtain ⟨e1,B2,hh⟩:=zb.mp hh;have HB_2:=zA B2;have HH2:=zA hh;clear hs hh B2 hlt;go_upto_region 15 with fail;have HX3:=zA (zK HX.out (.cells #[] 161));have HM3:=zA (HM2.out.alloc (.cells #[] 161));have HB3:=zA (zD HB2.out (.cells #[] 161));obtain ⟨w3,hw3⟩:∃ w3,w3 = w2.alloc (.cells #[] 161):=⟨_,rfl⟩;rw [← hw3] at HX3 HM3 HB3 ⊢;clear hw3 hlook k0 HX HM2 HB2 q1 q2;have k0:w3.cell? ⟨gv,0,none⟩ = some (.int .i64 vv):=zI HX3.out 0;go_upto_region 17 with (first|(refine wpList_mapPut_is _ rfl (.tmp 48) (.tmp 50) (.tmp 51) 163 rfl 3 161 (Go.Maps.int_keyed Tryz.underlying3) Tryz.underlying163 gm _ rfl HM3.out (.int .i64 vv) (.agg #[]) (.int .i64 vv) rfl rfl (Go.Maps.keyOf_int_mk Tryz.underlying3 HWF.out) (skeys_ok HK.out) ?hn ?_;(case hn=>(intro p hp he;obtain ⟨s,hs1,rfl⟩:=List.mem_map.1 hp;injection he with _ he;subst he;exact HS2.out (List.any_eq_true.2 ⟨_,hs1,by simp⟩)));intro w4 hm4 hg4;have HM4:=zA (show MapIs w4 gm (skeys (seen ++ [vv])) by unfold skeys;rw [List.map_append];exact hm4);have hx4:=blk_grown HX3.out hg4 (by have:=HGV.out;intro e;injection e with e;omega);have HX4:=zA hx4;have HB4:=zA (HB3.out.grown hg4 HB3.out.size (fun k hk=>by injection hk with hk;rw [← hk];exact HG.out));clear hm4 hg4 k0;have k1:w4.cell? ⟨gv,1,none⟩ = some (.slice As vl.length cs):=zI hx4 1;clear hx4)|(go_at_call 78;(with_reducible refine (zBC.calls k _ _ vl a1 false e1 _ (zT HRs.out HB4.out) HCs.out (LaidG.below HLd.out HB4.out) HB_2.out).mono ?_);rintro e w5 ⟨rfl,hb⟩;have HB5:=zA (zH HB4.out hb);have HM5:=zA (HM4.out.below hb HM4.out.lt);clear hb k1));clear HX3 HM3 HB3 HX4 HM4 HB4;have hh:=HH2.out;clear HH2;by_cases he:e1 = 0
  case neg =>
   have q3:(e1 != 0) = true:=bne_iff_ne.2 he;rw [if_neg he] at hh;injection hh with hh;subst hh;go_wp2;go_ret;exact ⟨rfl,HB5.out⟩
  have q3:(e1 != 0) = false:=bne_eq_false_iff_eq.2 he;rw [if_pos he] at hh;have HH5:=zA hh;have e4:IntKind.i64.wrap ((j:Int) + 1) = ((j + 1:Nat):Int):=by rw [IntKind.wrap_i64];have:=HL.out;have:=HLT.out;omega
  clear hh he;go_wp2;go_roundg (l0_1.length - j)
  case measure=>have:=HJ.out;have:=HLT.out;omega
  case rel=>exact ⟨j + 1,seen ++ [vv],rfl,⟨qp HJ HLT⟩,⟨fun s hs=>by
   rcases List.mem_append.1 hs with h|h
   ·exact HK.out s h
   ·rw [List.mem_singleton.1 h];exact HV.out⟩,HM5,HH5,HB5⟩
end
end Go.Proofs.YtgdijfhdpgdanaaGreatDoor.B
