import Derived.Test.YtbekikafhpdehaaDoorKVerdictRunsG9
import Derived.Test.YtbekikafhpdehaaDoorKVerdictRunsG12
import Derived.StringKeys
import Derived.Test.YtbekikafhpdehaaDoorKVerdictRunsG13
namespace Go.Proofs.YtbekikafhpdehaaDoor.V
open Go.Proofs.YtbekikafhpdehaaDoor.Al
open Go.World renaming block_lt_of_cell? → zB
open Go.Proofs.YtbekikafhpdehaaDoorW.PrintWords renaming below_alloc → zD, below_step → zH, blk_cell → zI, blk_alloc → zK, blk_below → zN
open Go.Proofs.YtbekikafhpdehaaDoor.Sq
open Go.RowKit Go.Proofs.YtbekikafhpdehaaDoorW.PrintWords Go.Proofs.YtbekikafhpdehaaDoorW.PrintLast Go.Proofs.YtbekikafhpdehaaDoorW.PrintMore
attribute [local go_sem] max2_int min2_int max_two min_two max_three min_three max_four min_four
set_option linter.unusedVariables false
set_option linter.unusedSimpArgs false
section
open Go.Proofs.YtbekikafhpdehaaDoor.Hand
def varsL:List S58 → List ByteArray → Int → Int
 | [],_,_=>0
 | v :: r,seen,st=>if nameB v.f0 = false then 6 else if seen.any (fun s=>s.toList == v.f0.toList) = true then 7 else if v.f1 < -1000 ∨ v.f2 > 1000 ∨ v.f1 > v.f2 ∨ v.f3 < v.f1 ∨ v.f3 > v.f2 then 2 else if v.f2 - v.f1 ≥ 64 then 1 else if st * (v.f2 - v.f1 + 1) > 4096 then 1 else varsL r (seen ++ [v.f0]) (st * (v.f2 - v.f1 + 1))
def model_variables.f (l0:List S58):Option Int:=some (if 6 < l0.length then 1 else varsL l0 [] 1)
def vkeys (seen:List ByteArray):List (Value × Value):=seen.map fun s=>(.string s,.agg #[])
theorem zeroU (w:World):(zeroValue 63).run Tryd.prog w = .ok (.agg #[]) w:=by kernel_rfl
theorem vkeys_ok {seen:List ByteArray} (h:∀ s ∈ seen,s.size ≤ 8):∀ p ∈ vkeys seen,∃ l,keyOf Tryd.prog 9 p.1 = some l:=fun p hp=>by
 obtain ⟨s,hs,rfl⟩:=List.mem_map.1 hp
 exact ⟨_,Go.WideMaps.keyOf_string_mk Tryd.underlying9 (Nat.le_trans (h s hs) (by decide))⟩
theorem name_size {s:ByteArray} (h:nameB s = true):s.size ≤ 8:=by
 unfold nameB at h;split at h
 ·cases h
 ·rename_i hc;exact Nat.le_of_not_lt fun h8=>hc (.inr (.inl h8))
theorem vars_step {l:List S58} {j:Nat} (hj:j < l.length) (seen:List ByteArray) (st:Int):varsL (l.drop j) seen st = varsL (rd_T58 l (j:Int) :: l.drop (j + 1)) seen st:=by
 rw [List.drop_eq_getElem_cons hj];have:rd_T58 l (j:Int) = l[j]:=by unfold rd_T58;simp [hj]
 rw [this]
set_option maxHeartbeats 2000000 in
set_option maxRecDepth 100000 in
theorem model_variables.calls (A0:Option Addr) (c0:Nat) (l0:List S58) (r:Int) (w:World) (hr0:Kd.C k58 w A0 l0.length l0) (hc0:l0.length ≤ c0) (h:model_variables.f l0 = some r) :
  Calls Tryd.prog 52 #[.slice A0 l0.length c0] w fun e w'=>e = .returned (.int .i64 r)∧Below w.heap.size w w':=by
 have h:=Option.some.inj h;have HR:=zA hr0;clear hr0 hc0;by_cases g1:6 < l0.length
 ·have q1:decide ((l0.length:Int) > 6) = true:=zQ (by omega);rw [if_pos g1] at h;subst h;go_enter Tryd.func52,Tryd.ntmps52;go_wp2;go_ret;exact ⟨rfl,Below.refl _ _⟩
 have q1:decide ((l0.length:Int) > 6) = false:=zR (by omega);rw [if_neg g1] at h;have HH:=zA h;have HL:=zA g1;clear h g1;go_enter Tryd.func52,Tryd.ntmps52;go_wp2;rw [run_makeMap];go_simp;go_wp2;have HM:=zA (MapIs.made w);have HB:=zA (zD (Below.refl w.heap.size w) (.map #[] 0));obtain ⟨w1,hw1⟩:∃ w1,w1 = w.alloc (.map #[] 0):=⟨_,rfl⟩;rw [← hw1] at HM HB ⊢;clear hw1 q1;go_loopg [4,15] (l0.length + 1) (fun kq v4 v15 w'=>∃ (j:Nat) (st:Int) (seen:List ByteArray),v4 = .int .i64 st∧v15 = .int .i64 (j:Int)∧Aside0 (kq + j = l0.length + 1)∧Aside0 (0 ≤ st∧st ≤ 4096)∧Aside0 (∀ s ∈ seen,s.size ≤ 8)∧Aside0 (MapIs w' w.heap.size (vkeys seen))∧Aside0 (varsL (l0.drop j) seen st = r)∧Aside0 (Below w.heap.size w w'))
 case atStart=>exact ⟨0,1,[],rfl,rfl,⟨rfl⟩,⟨by decide⟩,⟨fun s hs=>(nomatch hs)⟩,HM,HH,HB⟩
 case round =>
  clear HM HB HH;obtain ⟨j,st,seen,rfl,rfl,HJ,HS,HK,HM,HH,HB⟩:=hrel;by_cases hlt:j < l0.length
  case neg =>
   have hq:decide ((j:Int) < (l0.length:Int)) = false:=zR (by omega);have hr:=HH.out;rw [List.drop_of_length_le (by omega)] at hr;subst hr;go_wp2;go_ret;exact ⟨rfl,HB.out⟩
  have hq:decide ((j:Int) < (l0.length:Int)) = true:=zQ (by omega);have hp:(0 ≤ (j:Int)) = True:=eq_true (by omega);have hh:=HH.out;rw [vars_step hlt] at hh;obtain ⟨ad,ead,k0,k1,k2,k3⟩:=at_T58 HR.out (j:Int) (by omega) (by omega);subst ead;replace k0:=(HB.out.cell (zB w _ k0)).trans k0;replace k1:=(HB.out.cell (zB w _ k1)).trans k1;replace k2:=(HB.out.cell (zB w _ k2)).trans k2;replace k3:=(HB.out.cell (zB w _ k3)).trans k3;generalize rd_T58 l0 (j:Int) = v at hh k0 k1 k2 k3;obtain ⟨vn,vl,vh,vi⟩:=v;dsimp only at k0 k1 k2 k3;rw [Int.toNat_natCast] at k0 k1 k2 k3;have HHH:=zA hh;clear hh HH;go_wp2_with fail;obtain ⟨b,hbn⟩:∃ b,nameB vn = b:=⟨_,rfl⟩;refine (model_name.calls vn b _ (by show some (nameB vn) = some b;rw [hbn])).mono ?_;rintro e w2 ⟨rfl,hb2⟩;have HX:=zA (zN (blk_new wr (.cells #[.string vn,.int .i64 vl,.int .i64 vh,.int .i64 vi] 58)) hb2);have HM2:=zA ((HM.out.alloc (.cells #[.string vn,.int .i64 vl,.int .i64 vh,.int .i64 vi] 58)).below hb2 (HM.out.alloc _).lt);have HB2:=zA (zH (zD HB.out _) hb2);obtain ⟨gv,hgv⟩:∃ gv,gv = wr.heap.size:=⟨_,rfl⟩;rw [← hgv] at HX ⊢;have HGV:=zA (show w.heap.size < gv by rw [hgv];exact HM.out.lt);clear hb2 hgv k0 k1 k2 k3 hp hq;have k0:w2.cell? ⟨gv,0,none⟩ = some (.string vn):=zI HX.out 0;cases b with
  | false =>
   have hr:=HHH.out;rw [varsL,if_pos hbn] at hr;subst hr;go_wp2_with fail;go_ret;exact ⟨rfl,HB2.out⟩
  | true =>
  have hnb:=name_size hbn;have hh:=HHH.out;rw [varsL,if_neg (by rw [hbn];decide)] at hh;by_cases hs:seen.any (fun s=>s.toList == vn.toList) = true
  ·rw [if_pos hs] at hh;subst hh;have hlook:=MapIs.look_some HM2.out (Go.Maps.string_keyed Tryd.underlying9) Tryd.underlying111 (vkeys_ok HK.out) (key:=.string vn) (v:=.agg #[]) (Go.WideMaps.keyOf_string_mk Tryd.underlying9 (Nat.le_trans hnb (by decide))) true (fun p hp _=>by obtain ⟨s,_,rfl⟩:=List.mem_map.1 hp;rfl) (by
    obtain ⟨s,hs1,hs2⟩:=List.any_eq_true.1 hs;refine ⟨_,List.mem_map.2 ⟨s,hs1,rfl⟩,?_⟩;have:=beq_iff_eq.1 hs2;rw [ByteArray.toList_eq,ByteArray.toList_eq] at this
    rw [Go.WideShapes.bytes_inj this])
   simp only [if_true] at hlook;clear hs;go_wp2_with fail;go_ret;exact ⟨rfl,zD HB2.out _⟩
  rw [if_neg hs] at hh;have hlook:=MapIs.look_none HM2.out (Go.Maps.string_keyed Tryd.underlying9) Tryd.underlying111 (vkeys_ok HK.out) (zeroU w2) (key:=.string vn) (Go.WideMaps.keyOf_string_mk Tryd.underlying9 (Nat.le_trans hnb (by decide))) true (fun p hp he=>by
   obtain ⟨s,hs1,rfl⟩:=List.mem_map.1 hp;injection he with he;subst he
   exact hs (List.any_eq_true.2 ⟨_,hs1,by simp⟩))
  simp only [if_true] at hlook;have HS2:=zA hs;have HN2:=zA hnb;have HH2:=zA hh;clear hs hnb hh HHH hbn;go_upto_region 13 with fail;have HX3:=zA (zK HX.out (.cells #[] 63));have HM3:=zA (HM2.out.alloc (.cells #[] 63));have HB3:=zA (zD HB2.out (.cells #[] 63));obtain ⟨w3,hw3⟩:∃ w3,w3 = w2.alloc (.cells #[] 63):=⟨_,rfl⟩;rw [← hw3] at HX3 HM3 HB3 ⊢;clear hw3 hlook k0 HX HM2 HB2 HM HB;have k0:w3.cell? ⟨gv,0,none⟩ = some (.string vn):=zI HX3.out 0;go_upto_region 14 with (refine wpList_mapPut_is _ rfl (.tmp 31) (.tmp 33) (.tmp 34) 111 rfl 9 63 (Go.Maps.string_keyed Tryd.underlying9) Tryd.underlying111 w.heap.size _ rfl HM3.out (.string vn) (.agg #[]) (.string vn.data.toList) rfl rfl (Go.WideMaps.keyOf_string_mk Tryd.underlying9 (Nat.le_trans HN2.out (by decide))) (vkeys_ok HK.out) ?hn ?_;(case hn=>(intro p hp he;obtain ⟨s,hs1,rfl⟩:=List.mem_map.1 hp;injection he with he;subst he;exact HS2.out (List.any_eq_true.2 ⟨_,hs1,by simp⟩)));intro w4 hm4 hg4;have HM4:=zA (show MapIs w4 w.heap.size (vkeys (seen ++ [vn])) by unfold vkeys;rw [List.map_append];exact hm4);have HX4:=zA (blk_grown HX3.out hg4 (by have:=HGV.out;intro e;injection e with e;omega));have HB4:=zA (HB3.out.grown hg4 HB3.out.size (fun k hk=>by injection hk with hk;rw [← hk];exact Nat.le_refl _));clear hm4 hg4 k0);clear HX3 HM3 HB3;have k1:w4.cell? ⟨gv,1,none⟩ = some (.int .i64 vl):=zI HX4.out 1;have k2:w4.cell? ⟨gv,2,none⟩ = some (.int .i64 vh):=zI HX4.out 2;have k3:w4.cell? ⟨gv,3,none⟩ = some (.int .i64 vi):=zI HX4.out 3;have hh:=HH2.out;have hst:=HS.out;clear HH2 HS2;by_cases c1:vl < -1000
  ·have q1:decide (vl < -1000) = true:=zQ c1;rw [if_pos (.inl c1)] at hh;subst hh;clear c1 hst;go_wp2;go_ret;exact ⟨rfl,HB4.out⟩
  have q1:decide (vl < -1000) = false:=zR c1;by_cases c2:vh > 1000
  ·have q2:decide (vh > 1000) = true:=zQ c2;rw [if_pos (.inr (.inl c2))] at hh;subst hh;clear c1 c2 hst;go_wp2;go_ret;exact ⟨rfl,HB4.out⟩
  have q2:decide (vh > 1000) = false:=zR c2;by_cases c3:vl > vh
  ·have q3:decide (vl > vh) = true:=zQ c3;rw [if_pos (.inr (.inr (.inl c3)))] at hh;subst hh;clear c1 c2 c3 hst;go_wp2;go_ret;exact ⟨rfl,HB4.out⟩
  have q3:decide (vl > vh) = false:=zR c3;by_cases c4:vi < vl
  ·have q4:decide (vi < vl) = true:=zQ c4;rw [if_pos (.inr (.inr (.inr (.inl c4))))] at hh;subst hh;clear c1 c2 c3 c4 hst;go_wp2;go_ret;exact ⟨rfl,HB4.out⟩
  have q4:decide (vi < vl) = false:=zR c4;by_cases c5:vi > vh
  ·have q5:decide (vi > vh) = true:=zQ c5;rw [if_pos (.inr (.inr (.inr (.inr c5))))] at hh;subst hh;clear c1 c2 c3 c4 c5 hst;go_wp2;go_ret;exact ⟨rfl,HB4.out⟩
  have q5:decide (vi > vh) = false:=zR c5;rw [if_neg (by omega)] at hh;have e1:IntKind.i64.wrap (vh - vl) = vh - vl:=by rw [IntKind.wrap_i64];omega
  by_cases c6:vh - vl ≥ 64
  ·have q6:decide (vh - vl ≥ 64) = true:=zQ c6;rw [if_pos c6] at hh;subst hh;clear c1 c2 c3 c4 c5 c6 hst;go_wp2;go_ret;exact ⟨rfl,HB4.out⟩
  have q6:decide (vh - vl ≥ 64) = false:=zR c6;rw [if_neg c6] at hh;have e2:IntKind.i64.wrap (vh - vl + 1) = vh - vl + 1:=by rw [IntKind.wrap_i64];omega
  obtain ⟨p,hp⟩:∃ p,p = st * (vh - vl + 1):=⟨_,rfl⟩;have hp0:0 ≤ p:=by rw [hp];exact Int.mul_nonneg hst.1 (by omega)
  have hp1:p ≤ 4096 * 64:=by rw [hp];exact Int.mul_le_mul hst.2 (by omega) (by omega) (by omega)
  have e3:IntKind.i64.wrap (st * (vh - vl + 1)) = p:=by rw [← hp,IntKind.wrap_i64];omega
  rw [← hp] at hh;by_cases c7:p > 4096
  ·have q7:decide (p > 4096) = true:=zQ c7;rw [if_pos c7] at hh;subst hh;clear c1 c2 c3 c4 c5 c6 c7 hst hp hp0 hp1;go_wp2;go_ret;exact ⟨rfl,HB4.out⟩
  have q7:decide (p > 4096) = false:=zR c7;rw [if_neg c7] at hh;have HP:=zA (show 0 ≤ p∧p ≤ 4096 from ⟨hp0,by omega⟩);have HH4:=zA hh;have e4:IntKind.i64.wrap ((j:Int) + 1) = ((j + 1:Nat):Int):=by rw [IntKind.wrap_i64];have:=HL.out;omega
  clear hh hst hp hp0 hp1 c1 c2 c3 c4 c5 c6 c7;have HLT:=zA hlt;clear hlt;go_wp2;go_roundg (l0.length - j)
  case measure=>have:=HJ.out;have:=HLT.out;omega
  case rel=>exact ⟨j + 1,p,seen ++ [vn],rfl,rfl,⟨qp HJ HLT⟩,HP,⟨fun s hs=>by
   rcases List.mem_append.1 hs with h|h
   ·exact HK.out s h
   ·rw [List.mem_singleton.1 h];exact HN2.out⟩,HM4,HH4,HB4⟩
end
end Go.Proofs.YtbekikafhpdehaaDoor.V
