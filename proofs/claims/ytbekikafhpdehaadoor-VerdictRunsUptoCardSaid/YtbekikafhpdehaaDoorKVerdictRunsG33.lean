import Derived.Test.YtbekikafhpdehaaDoorKVerdictRunsG9
import Derived.Laws.AppendOwnNone
import Derived.Lib.AppendZeros
namespace Go.Proofs.YtbekikafhpdehaaDoor.V
open Go.Proofs.YtbekikafhpdehaaDoor.Al
open Go.World renaming block_lt_of_cell? → zB
open Go.Proofs.YtbekikafhpdehaaDoorW.PrintWords renaming Kd.C_below → zT
open Go.Proofs.YtbekikafhpdehaaDoor.Sq
open Go.RowKit Go.Proofs.YtbekikafhpdehaaDoorW.PrintWords Go.Proofs.YtbekikafhpdehaaDoorW.PrintLast Go.Proofs.YtbekikafhpdehaaDoorW.PrintMore
attribute [local go_sem] max2_int min2_int max_two min_two max_three min_three max_four min_four
set_option linter.unusedVariables false
set_option linter.unusedSimpArgs false
section
open Go.Proofs.YtbekikafhpdehaaDoor.Hand
theorem own0 {W:World} {base:Nat} {v:Value} (h:W.ownsRow base 3 1 v 0 []):Kd.R (Kd.int .i64) 3 W base (fun _=>True) v []:=Kd.R_of_own (enc:=Value.int .i64) (xs:=[]) h (fun _ _=>trivial)
theorem growI (n:Nat) (hn:n * 8 ≤ 140737488355328) (w:World) :
  Calls Tryd.prog 46 #[.slice none 0 0,.int .i64 (n:Int)] w fun e w'=>∃ v,e = .returned v∧Kd.R (Kd.int .i64) 3 w' w.heap.size (fun _=>True) v []∧Below w.heap.size w w':=by
 have q1:decide ((n:Int) < 0) = false:=zR (by omega);have e1:IntKind.i64.wrap (n:Int) = (n:Int):=by rw [IntKind.wrap_i64];omega
 by_cases h0:n = 0
 ·subst h0;go_enter Tryd.func46,Tryd.ntmps46;go_wp2;go_ret;exact ⟨_,rfl,Kd.R_nil _ _ _ _ _,Below.refl _ _⟩
 ·have q2:decide ((n:Int) > 0) = true:=zQ (by omega);obtain ⟨i0,hi0,hz0,hz1,hz2⟩:=info_parts info3;have hrz:=fun ty=>Lib.run_append_nil_zeros (P:=Tryd.prog) w 32 3 ty 3 i0 _ .i64 .i64 Tryd.underlying32 Tryd.underlying3 hi0 hz0 n (by omega) (by omega) (by omega) (by rw [hz2];omega);obtain ⟨G,hG⟩:∃ G,G = grownCap w n 0 3:=⟨_,rfl⟩;rw [← hG] at hrz;have hge:n ≤ G:=by rw [hG];exact grownCap_ge w _ _ _
  have hle:G ≤ maxLen:=by rw [hG];exact grownCap_le_maxLen w _ _ _ (by unfold maxLen;omega)
  obtain ⟨Z,hZ⟩:∃ Z,Z = (Builtin.zeroCells (Value.int .i64 0).cells n ++ Builtin.zeroCells (Value.int .i64 0).cells (G - n)):=⟨_,rfl⟩;rw [← hZ] at hrz;have HZ:=zA hZ;have HGE:=zA hge;have HLE:=zA hle;clear hn hi0 hz0 hz1 hz2 hG hZ hge hle;go_enter Tryd.func46,Tryd.ntmps46;go_wp2_with (at_builtin;refine Lib.wpList_append_run _ rfl _ _ _ _ rfl _ _ rfl rfl _ _ (hrz _) ?_);go_ret;refine ⟨_,rfl,own0 ⟨rfl,.inr ⟨w.heap.size,G,Z,rfl,Nat.le_refl _,heap_new w.drew _,Nat.zero_le _,HLE.out,?_,by simp⟩⟩,(Below.refl _ _).drew.alloc (Nat.le_refl _) _⟩;have:=HGE.out;rw [HZ.out,Array.size_append,size_zeroCells,size_zeroCells];show n * 1 + (G - n) * 1 = G * 1;omega
def slices_Concat_int_int.f (l0:List (List Int)):Option (List Int):=match l0 with|[a,b]=>if (a.length + b.length) * 8 ≤ 140737488355328 then some (a ++ b) else none|_=>none
set_option maxHeartbeats 2000000 in
set_option maxRecDepth 100000 in
theorem slices_Concat_int_int.calls (A0:Option Addr) (c0:Nat) (l0:List (List Int)) (r:List Int) (w:World) (hr0:Kd.C (Kd.slice 3 (Kd.int .i64)) w A0 l0.length l0) (hc0:l0.length ≤ c0) (h:slices_Concat_int_int.f l0 = some r) :
  Calls Tryd.prog 34 #[.slice A0 l0.length c0] w fun e w'=>∃ v0_:Value,e = .returned (v0_)∧Kd.R (Kd.int .i64) 3 w' w.heap.size (fun _=>True) v0_ r∧Below w.heap.size w w':=by
 obtain ⟨a,b,rfl,hn,rfl⟩:∃ a b,l0 = [a,b]∧(a.length + b.length) * 8 ≤ 140737488355328∧r = a ++ b:=by
  unfold slices_Concat_int_int.f at h;split at h
  ·split at h
   ·injection h with h;exact ⟨_,_,rfl,by assumption,h.symm⟩
   ·cases h
  ·cases h
 obtain ⟨ad,As,cs,e0,k0,l0,r0⟩:=at_L11 hr0 0 (by decide) (by show (0:Int) < ((2:Nat):Int);decide);obtain ⟨ad',Al,cl,e1,k1,l1,r1⟩:=at_L11 hr0 1 (by decide) (by show (1:Int) < ((2:Nat):Int);decide);subst e0;obtain rfl:ad = ad':=by injection e1
 clear e1 h;have E0:rd_L11 [a,b] 0 = a:=rfl;have E1:rd_L11 [a,b] 1 = b:=rfl;rw [E0] at k0 l0 r0;rw [E1] at k1 l1 r1;replace k0:w.cell? ad = some (.slice As a.length cs):=k0;replace k1:w.cell? ⟨ad.block,ad.off + 1,none⟩ = some (.slice Al b.length cl):=k1;have HA:=zA r0;have HB0:=zA r1;have HN:=zA hn;have hs:a.length ≤ 17592186044416:=by omega
 have hl:b.length ≤ 17592186044416:=by omega
 clear r0 r1 hr0 E0 E1 hn hc0 l0 l1;show Calls Tryd.prog 34 #[.slice (some ad) 2 c0] w _;go_enter Tryd.func34,Tryd.ntmps34;go_wp2_with fail;go_loop [3,11] (fun t3 t11=>(t3 = .int .i64 0∧t11 = .int .i64 0) ∨ (t3 = .int .i64 (a.length:Int)∧t11 = .int .i64 1) ∨ (t3 = .int .i64 ((a.length + b.length:Nat):Int)∧t11 = .int .i64 2)) (fun _ t11=>2 - (intOf t11).toNat)
 case atStart=>exact .inl ⟨rfl,rfl⟩
 case round =>
  rcases hrel with ⟨rfl,rfl⟩|⟨rfl,rfl⟩|⟨rfl,rfl⟩
  ·have e1:IntKind.i64.wrap (a.length:Int) = (a.length:Int):=by rw [IntKind.wrap_i64];omega
   have q1:decide ((a.length:Int) < 0) = false:=zR (by omega);go_wp2;exact ⟨.inr (.inl ⟨rfl,rfl⟩),by simp [intOf]⟩
  ·have e1:IntKind.i64.wrap ((a.length:Int) + (b.length:Int)) = (a.length:Int) + (b.length:Int):=by rw [IntKind.wrap_i64];omega
   have q1:decide ((a.length:Int) + (b.length:Int) < 0) = false:=zR (by omega);go_wp2;exact ⟨.inr (.inr ⟨rfl,rfl⟩),by simp [intOf]⟩
  ·have hG:=growI (a.length + b.length) HN.out w;have HG:=zA hG;clear hG;go_wp2_with fail;refine HG.out.mono ?_;rintro e w1 ⟨v,rfl,ho,hb1⟩;have HO:=zA ho;have HB1:=zA hb1;have HC0:=zA k0;have HC1:=zA k1;clear ho hb1 k0 k1;go_wp2_with fail;go_loopw [6,27] (fun t6 t27 wr=>Aside0 (Below w.heap.size w wr)∧((t27 = .int .i64 0∧Aside0 (Kd.R (Kd.int .i64) 3 wr w.heap.size (fun _=>True) t6 [])) ∨ (t27 = .int .i64 1∧Aside0 (Kd.R (Kd.int .i64) 3 wr w.heap.size (fun _=>True) t6 a)) ∨ (t27 = .int .i64 2∧Aside0 (Kd.R (Kd.int .i64) 3 wr w.heap.size (fun _=>True) t6 (a ++ b))))) (fun _ t27 _=>2 - (intOf t27).toNat)
   case atStart=>exact ⟨HB1,.inl ⟨rfl,HO⟩⟩
   case round =>
    obtain ⟨HBr,hr⟩:=hrel;have f0:wr.cell? ad = some (.slice As a.length cs):=(HBr.out.cell (zB w _ HC0.out)).trans HC0.out;have f1:wr.cell? ⟨ad.block,ad.off + 1,none⟩ = some (.slice Al b.length cl):=(HBr.out.cell (zB w _ HC1.out)).trans HC1.out;rcases hr with ⟨rfl,HOr⟩|⟨rfl,HOr⟩|⟨rfl,HOr⟩
    ·obtain ⟨A6,c6,e6⟩:=Kd.R_slice HOr.out;subst e6;go_wp2_with (first|(at_builtin;refine Kd.R_append_rows (Kd.int .i64) (w0:=w) w.heap.size rfl (.tmp 31) (.tmp 32) 32 3 (.int .i64 0) 8 rfl Tryd.underlying32 info3 rfl (by decide) (by omega) _ ([]:List Int) a _ _ _ (fun _=>True) (fun _=>False) rfl rfl HOr.out (zT HA.out HBr.out) (fun _ _ h=>h) (fun _ h=>h.elim) (fun _ _=>trivial) HBr.out HBr.out.size ?aL ?_;(case aL=>have:=HN.out;simp;omega);intro v1 w1 ho hb hg hat;have HO':=zA ho;have HB':=zA hb;clear ho hb hg hat));exact ⟨⟨HB',.inr (.inl ⟨rfl,HO'⟩)⟩,by simp [intOf]⟩
    ·obtain ⟨A6,c6,e6⟩:=Kd.R_slice HOr.out;subst e6;go_wp2_with (first|(at_builtin;refine Kd.R_append_rows (Kd.int .i64) (w0:=w) w.heap.size rfl (.tmp 31) (.tmp 32) 32 3 (.int .i64 0) 8 rfl Tryd.underlying32 info3 rfl (by decide) (by omega) _ a b _ _ _ (fun _=>True) (fun _=>False) rfl rfl HOr.out (zT HB0.out HBr.out) (fun _ _ h=>h) (fun _ h=>h.elim) (fun _ _=>trivial) HBr.out HBr.out.size (qo HN) ?_;intro v1 w1 ho hb hg hat;have HO':=zA ho;have HB':=zA hb;clear ho hb hg hat));exact ⟨⟨HB',.inr (.inr ⟨rfl,HO'⟩)⟩,by simp [intOf]⟩
    ·go_wp2;go_ret;exact ⟨_,rfl,HOr.out,HBr.out⟩
end
end Go.Proofs.YtbekikafhpdehaaDoor.V
