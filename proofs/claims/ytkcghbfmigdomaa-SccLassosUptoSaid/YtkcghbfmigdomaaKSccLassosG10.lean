import Derived.Test.YtkcghbfmigdomaaProg
import Derived.Lib.SliceRun
import Derived.Outline
import Derived.RegionTactic
import Derived.ChangeAlike
import Derived.WalkLawsBesides
import Derived.Test.YtkcghbfmigdomaaKSccLassosG6
import Derived.Test.YtkcghbfmigdomaaKSccLassosG4
namespace Go.Proofs.Ytkcghbfmigdomaa.Q
open Go.Proofs.Ytkcghbfmigdomaa.Al
open Go.Proofs.YtkcghbfmigdomaaW.PrintWords Go.Proofs.Ytkcghbfmigdomaa.Sq Go.RowKit Go.Proofs.YtkcghbfmigdomaaW.PrintLast Go.Proofs.YtkcghbfmigdomaaW.PrintMore
attribute [local go_sem] max2_int min2_int max_two min_two max_three min_three max_four min_four
set_option linter.unusedVariables false
set_option linter.unusedSimpArgs false
def errW:Option Int → Value
 | none=>.nilIface
 | some c=>.iface 0 (.int .i64 c)
theorem errW_none:errW none = .nilIface:=rfl
theorem errW_some (c:Int):errW (some c) = .iface 0 (.int .i64 c):=rfl
theorem info3:(Try.prog.info? 3).map (fun i=>(i.zero,i.size,i.bytes)) = some (some (.int .i64 0),1,8):=by kernel_rfl
theorem info4:(Try.prog.info? 4).map (fun i=>(i.zero,i.size,i.bytes)) = some (some (.bool false),1,1):=by kernel_rfl
theorem info24:(Try.prog.info? 24).map (fun i=>(i.zero,i.size,i.bytes)) = some (some (.slice none 0 0),1,24):=by kernel_rfl
theorem info63:(Try.prog.info? 63).map (fun i=>(i.zero,i.size,i.bytes)) = some (some (.agg #[(.int .i64 0),(.int .i64 0)]),2,16):=by kernel_rfl
theorem info65:(Try.prog.info? 65).map (fun i=>(i.zero,i.size,i.bytes)) = some (some (.agg #[(.int .i64 0),(.int .i64 0)]),2,16):=by kernel_rfl
structure S63 where
 f0:Int
 f1:Int
def z63:S63:=⟨(0:Int),(0:Int)⟩
def k63:Kd S63:=Kd.iso (Kd.pair (Kd.int .i64) (Kd.int .i64)) (fun x:S63=>(x.f0,x.f1))
theorem k63_open {w:World} {x:S63} {cs:List Value} (h:k63.K w x cs):cs = [.int .i64 x.f0,.int .i64 x.f1]:=by
 obtain ⟨_,_,rfl,rfl,rfl⟩:=h;exact rfl
def zAX (xs:List S63) (i:Int):S63:=xs.getD i.toNat z63
theorem zAa {w:World} {A:Option Addr} {n:Nat} {xs:List S63} (h:Kd.C k63 w A n xs) (i:Int) (h0:0 ≤ i) (h1:i < n):∃ ad ,A = some ad∧w.cell? (ad.add (i.toNat * 2)) = some (.int .i64 (zAX xs i).f0)∧w.cell? ⟨(ad.add (i.toNat * 2)).block,(ad.add (i.toNat * 2)).off + 1,none⟩ = some (.int .i64 (zAX xs i).f1):=by
 obtain ⟨ad,c,e,_,hK,hc0⟩:=Kd.C_get h z63 i h0 h1;have hc:∀ j u,c[j]? = some u → w.cell? (ad.add (i.toNat * 2 + j)) = some u:=hc0;obtain rfl:=k63_open hK;exact ⟨ad,e,hc 0 _ rfl,by rw [← add_field _ _ 1 (by omega)];exact hc 1 _ rfl⟩
def zAE (xs:List (List Int)) (i:Int):(List Int):=xs.getD i.toNat ([]:List Int)
theorem zAW {w:World} {A:Option Addr} {n:Nat} {xs:List (List Int)} (h:Kd.C (Kd.slice 3 (Kd.int .i64)) w A n xs) (i:Int) (h0:0 ≤ i) (h1:i < n):∃ ad A0 c0,A = some ad∧w.cell? (ad.add i.toNat) = some (.slice A0 (zAE xs i).length c0)∧(zAE xs i).length ≤ c0∧(Kd.int .i64).C w A0 (zAE xs i).length (zAE xs i):=by
 obtain ⟨ad,c,e,_,hK,hc0⟩:=Kd.C_get h ([]:List Int) i h0 h1;have hc:∀ j u,c[j]? = some u → w.cell? (ad.add (i.toNat * 1 + j)) = some u:=hc0;obtain ⟨A0,c0,rfl,l0,g0⟩:=hK;exact ⟨ad,A0,c0,e,by have hq:=hc 0 _ rfl;rwa [Nat.mul_one,Nat.add_zero] at hq,l0,g0⟩
structure S26 where
 f0:(List S63)
 f1:Int
 f2:(List (List Int))
 f3:(List Int)
 f4:Int
def k26:Kd S26:=Kd.iso (Kd.pair (Kd.slice 63 k63) (Kd.pair (Kd.int .i64) (Kd.pair (Kd.slice 24 (Kd.slice 3 (Kd.int .i64))) (Kd.pair (Kd.slice 3 (Kd.int .i64)) (Kd.int .i64))))) (fun x:S26=>(x.f0,x.f1,x.f2,x.f3,x.f4))
structure S8 where
 f0:Int
 f1:Int
 f2:Bool
 f3:Int
def z8:S8:=⟨(0:Int),(0:Int),false,(0:Int)⟩
def k8:Kd S8:=Kd.iso (Kd.pair (Kd.int .i64) (Kd.pair (Kd.int .i64) (Kd.pair Kd.bool (Kd.int .u8)))) (fun x:S8=>(x.f0,x.f1,x.f2,x.f3))
structure S7 where
 f0:Int
 f1:Int
 f2:Bool
 f3:Int
def k7:Kd S7:=Kd.iso (Kd.pair (Kd.int .i64) (Kd.pair (Kd.int .i64) (Kd.pair Kd.bool (Kd.int .u8)))) (fun x:S7=>(x.f0,x.f1,x.f2,x.f3))
end Go.Proofs.Ytkcghbfmigdomaa.Q
