-- Cut by a program of this session (wip/prune.py) from a longer text: declarations that the law does not need are left out.
import Derived.Test.YtkpddelnkjjflaaDoorProg
import Derived.Below
import Derived.Deep.Draws
import Derived.Deep.AppendLies
import Derived.Maps.AppendAt
import Derived.OwnWalk
import Derived.Laws.BytesArg
import Derived.Laws.MakeOwn
import Derived.Laws.OwnMore
import Derived.Deep.OwnRows
import Derived.Tactics
import Derived.Lib.ConvBytes
import Derived.Laws.Slices
import Derived.WalkKit
import Derived.KernelRfl
import Derived.RowKit3
import Derived.Deep.LoopGhost
import Derived.Deep.QuietTactic
import Derived.BigQuiet
import Derived.WideLaws
import Derived.Deep.DeepCutAuto
import Derived.Deep.CutBlock
import Derived.Deep.RegionHeld3
import Derived.Laws.Rows
import Derived.Lib.AppendStr
import Derived.ArgAppend
import Derived.Laws.IdiomCopy
import Derived.OrdersHeld
import Derived.Laws.BitsLemmas
import Derived.RowKit
import Derived.Lib.SliceRun
import Derived.Outline
import Derived.Defers
import Derived.Recover
import Derived.RegionTactic
import Derived.ChangeAlike
import Derived.WalkLawsBesides
import Derived.Test.YtkpddelnkjjflaaDoorKStepLettersHand
import Derived.Test.YtkpddelnkjjflaaDoorKStepLettersLaid
import Derived.Test.YtkpddelnkjjflaaDoorKStepLettersWWords
import Derived.Test.YtkpddelnkjjflaaDoorKStepLettersWLast
import Derived.Test.YtkpddelnkjjflaaDoorKStepLettersWTab
import Derived.Test.YtkpddelnkjjflaaDoorKStepLettersWQPut
import Derived.Test.YtkpddelnkjjflaaDoorKStepLettersWApart
import Derived.Test.YtkpddelnkjjflaaDoorKStepLettersWArr
import Derived.Test.YtkpddelnkjjflaaDoorKStepLettersWZeros
import Derived.Test.YtkpddelnkjjflaaDoorKStepLettersWFoot
import Derived.Test.YtkpddelnkjjflaaDoorKStepLettersWKept
import Derived.Test.YtkpddelnkjjflaaDoorKStepLettersWShare
import Derived.Test.YtkpddelnkjjflaaDoorKStepLettersWN
import Derived.Test.YtkpddelnkjjflaaDoorKStepLettersWFootNe
import Derived.Test.YtkpddelnkjjflaaDoorKStepLettersWEqStruct
import Derived.Test.YtkpddelnkjjflaaDoorKStepLettersWGuard
import Derived.Test.YtkpddelnkjjflaaDoorKStepLettersWNEv
import Derived.Test.YtkpddelnkjjflaaDoorKStepLettersWMore
namespace Go.Proofs.YtkpddelnkjjflaaDoor.M
open Go.Proofs.YtkpddelnkjjflaaDoor.Al
open Go.Proofs.YtkpddelnkjjflaaDoorW.PrintWords
open Go.RowKit Go.Proofs.YtkpddelnkjjflaaDoorW.PrintWords Go.Proofs.YtkpddelnkjjflaaDoorW.PrintLast Go.Proofs.YtkpddelnkjjflaaDoorW.PrintMore
attribute [local go_sem] max2_int min2_int max_two min_two max_three min_three max_four min_four
set_option linter.unusedVariables false
set_option linter.unusedSimpArgs false
def errW:Option Int → Value
 | none=>.nilIface
 | some c=>.iface 0 (.int .i64 c)
theorem errW_none:errW none = .nilIface:=rfl
theorem errW_some (c:Int):errW (some c) = .iface 0 (.int .i64 c):=rfl
theorem info3:(Tryd.prog.info? 3).map (fun i=>(i.zero,i.size,i.bytes)) = some (some (.int .i64 0),1,8):=by kernel_rfl
theorem info4:(Tryd.prog.info? 4).map (fun i=>(i.zero,i.size,i.bytes)) = some (some (.bool false),1,1):=by kernel_rfl
theorem info45:(Tryd.prog.info? 45).map (fun i=>(i.zero,i.size,i.bytes)) = some (some (.slice none 0 0),1,24):=by kernel_rfl
theorem info68:(Tryd.prog.info? 68).map (fun i=>(i.zero,i.size,i.bytes)) = some (some (.agg #[(.slice none 0 0),(.slice none 0 0)]),2,48):=by kernel_rfl
theorem info70:(Tryd.prog.info? 70).map (fun i=>(i.zero,i.size,i.bytes)) = some (some (.agg #[(.int .i64 0),(.slice none 0 0)]),2,32):=by kernel_rfl
theorem info74:(Tryd.prog.info? 74).map (fun i=>(i.zero,i.size,i.bytes)) = some (some (.agg #[(.string ⟨#[]⟩),(.int .i64 0),(.int .i64 0),(.int .i64 0)]),4,40):=by kernel_rfl
theorem info94:(Tryd.prog.info? 94).map (fun i=>(i.zero,i.size,i.bytes)) = some (some (.agg #[(.int .i64 0),(.int .i64 0)]),2,16):=by kernel_rfl
structure S74 where
 f0:ByteArray
 f1:Int
 f2:Int
 f3:Int
def z74:S74:=⟨(⟨#[]⟩:ByteArray),(0:Int),(0:Int),(0:Int)⟩
def k74:Kd S74:=Kd.iso (Kd.pair Kd.string (Kd.pair (Kd.int .i64) (Kd.pair (Kd.int .i64) (Kd.int .i64)))) (fun x:S74=>(x.f0,x.f1,x.f2,x.f3))
theorem k74_open {w:World} {x:S74} {cs:List Value} (h:k74.K w x cs):cs = [.string x.f0,.int .i64 x.f1,.int .i64 x.f2,.int .i64 x.f3]:=by
 obtain ⟨_,_,rfl,rfl,⟨_,_,rfl,rfl,⟨_,_,rfl,rfl,rfl⟩⟩⟩:=h
 exact rfl
def rd_T74 (xs:List S74) (i:Int):S74:=xs.getD i.toNat z74
theorem at_T74 {w:World} {A:Option Addr} {n:Nat} {xs:List S74} (h:Kd.C k74 w A n xs) (i:Int) (h0:0 ≤ i) (h1:i < n):∃ ad ,A = some ad∧w.cell? (ad.add (i.toNat * 4)) = some (.string (rd_T74 xs i).f0)∧w.cell? ⟨(ad.add (i.toNat * 4)).block,(ad.add (i.toNat * 4)).off + 1,none⟩ = some (.int .i64 (rd_T74 xs i).f1)∧w.cell? ⟨(ad.add (i.toNat * 4)).block,(ad.add (i.toNat * 4)).off + 2,none⟩ = some (.int .i64 (rd_T74 xs i).f2)∧w.cell? ⟨(ad.add (i.toNat * 4)).block,(ad.add (i.toNat * 4)).off + 3,none⟩ = some (.int .i64 (rd_T74 xs i).f3):=by
 obtain ⟨ad,c,e,_,hK,hc0⟩:=Kd.C_get h z74 i h0 h1
 have hc:∀ j u,c[j]? = some u → w.cell? (ad.add (i.toNat * 4 + j)) = some u:=hc0
 obtain rfl:=k74_open hK
 exact ⟨ad,e,hc 0 _ rfl,by rw [← add_field _ _ 1 (by omega)];exact hc 1 _ rfl,by rw [← add_field _ _ 2 (by omega)];exact hc 2 _ rfl,by rw [← add_field _ _ 3 (by omega)];exact hc 3 _ rfl⟩
structure S94 where
 f0:Int
 f1:Int
def z94:S94:=⟨(0:Int),(0:Int)⟩
def k94:Kd S94:=Kd.iso (Kd.pair (Kd.int .i64) (Kd.int .i64)) (fun x:S94=>(x.f0,x.f1))
theorem k94_open {w:World} {x:S94} {cs:List Value} (h:k94.K w x cs):cs = [.int .i64 x.f0,.int .i64 x.f1]:=by
 obtain ⟨_,_,rfl,rfl,rfl⟩:=h
 exact rfl
theorem k94_mkM (w:World) (base:Nat) (ok:Nat → Prop) (x:S94) :k94.M w base ok x [.int .i64 x.f0,.int .i64 x.f1]:=⟨[.int .i64 x.f0],[.int .i64 x.f1],rfl,rfl,rfl⟩
def rd_T94 (xs:List S94) (i:Int):S94:=xs.getD i.toNat z94
theorem at_T94 {w:World} {A:Option Addr} {n:Nat} {xs:List S94} (h:Kd.C k94 w A n xs) (i:Int) (h0:0 ≤ i) (h1:i < n):∃ ad ,A = some ad∧w.cell? (ad.add (i.toNat * 2)) = some (.int .i64 (rd_T94 xs i).f0)∧w.cell? ⟨(ad.add (i.toNat * 2)).block,(ad.add (i.toNat * 2)).off + 1,none⟩ = some (.int .i64 (rd_T94 xs i).f1):=by
 obtain ⟨ad,c,e,_,hK,hc0⟩:=Kd.C_get h z94 i h0 h1
 have hc:∀ j u,c[j]? = some u → w.cell? (ad.add (i.toNat * 2 + j)) = some u:=hc0
 obtain rfl:=k94_open hK
 exact ⟨ad,e,hc 0 _ rfl,by rw [← add_field _ _ 1 (by omega)];exact hc 1 _ rfl⟩
def rd_L4 (xs:List (List S94)) (i:Int):(List S94):=xs.getD i.toNat ([]:List S94)
theorem at_L4 {w:World} {A:Option Addr} {n:Nat} {xs:List (List S94)} (h:Kd.C (Kd.slice 94 k94) w A n xs) (i:Int) (h0:0 ≤ i) (h1:i < n):∃ ad A0 c0,A = some ad∧w.cell? (ad.add i.toNat) = some (.slice A0 (rd_L4 xs i).length c0)∧(rd_L4 xs i).length ≤ c0∧k94.C w A0 (rd_L4 xs i).length (rd_L4 xs i):=by
 obtain ⟨ad,c,e,_,hK,hc0⟩:=Kd.C_get h ([]:List S94) i h0 h1
 have hc:∀ j u,c[j]? = some u → w.cell? (ad.add (i.toNat * 1 + j)) = some u:=hc0
 obtain ⟨A0,c0,rfl,l0,g0⟩:=hK
 exact ⟨ad,A0,c0,e,by have hq:=hc 0 _ rfl;rwa [Nat.mul_one,Nat.add_zero] at hq,l0,g0⟩
structure S70 where
 f0:Int
 f1:(List S94)
def z70:S70:=⟨(0:Int),([]:List S94)⟩
def k70:Kd S70:=Kd.iso (Kd.pair (Kd.int .i64) (Kd.slice 94 k94)) (fun x:S70=>(x.f0,x.f1))
theorem k70_open {w:World} {x:S70} {cs:List Value} (h:k70.K w x cs):∃ A1 c1,cs = [.int .i64 x.f0,.slice A1 x.f1.length c1]∧x.f1.length ≤ c1∧k94.C w A1 x.f1.length x.f1:=by
 obtain ⟨_,_,rfl,rfl,⟨A1,c1,rfl,l1,g1⟩⟩:=h
 exact ⟨A1,c1,rfl,l1,g1⟩
theorem k70_mkM (w:World) (base:Nat) (ok:Nat → Prop) (x:S70) {v1:Value} (g1:k94.R 94 w base ok v1 x.f1):k70.M w base ok x [.int .i64 x.f0,v1]:=⟨[.int .i64 x.f0],[v1],rfl,rfl,⟨v1,rfl,g1⟩⟩
def rd_T70 (xs:List S70) (i:Int):S70:=xs.getD i.toNat z70
theorem at_T70 {w:World} {A:Option Addr} {n:Nat} {xs:List S70} (h:Kd.C k70 w A n xs) (i:Int) (h0:0 ≤ i) (h1:i < n):∃ ad A1 c1,A = some ad∧w.cell? (ad.add (i.toNat * 2)) = some (.int .i64 (rd_T70 xs i).f0)∧w.cell? ⟨(ad.add (i.toNat * 2)).block,(ad.add (i.toNat * 2)).off + 1,none⟩ = some (.slice A1 (rd_T70 xs i).f1.length c1)∧(rd_T70 xs i).f1.length ≤ c1∧k94.C w A1 (rd_T70 xs i).f1.length (rd_T70 xs i).f1:=by
 obtain ⟨ad,c,e,_,hK,hc0⟩:=Kd.C_get h z70 i h0 h1
 have hc:∀ j u,c[j]? = some u → w.cell? (ad.add (i.toNat * 2 + j)) = some u:=hc0
 obtain ⟨A1,c1,rfl,l1,g1⟩:=k70_open hK
 exact ⟨ad,A1,c1,e,hc 0 _ rfl,by rw [← add_field _ _ 1 (by omega)];exact hc 1 _ rfl,l1,g1⟩
structure S68 where
 f0:(List S94)
 f1:(List S70)
def z68:S68:=⟨([]:List S94),([]:List S70)⟩
def k68:Kd S68:=Kd.iso (Kd.pair (Kd.slice 94 k94) (Kd.slice 70 k70)) (fun x:S68=>(x.f0,x.f1))
theorem k68_open {w:World} {x:S68} {cs:List Value} (h:k68.K w x cs):∃ A0 c0 A1 c1,cs = [.slice A0 x.f0.length c0,.slice A1 x.f1.length c1]∧x.f0.length ≤ c0∧k94.C w A0 x.f0.length x.f0∧x.f1.length ≤ c1∧k70.C w A1 x.f1.length x.f1:=by
 obtain ⟨_,_,rfl,⟨A0,c0,rfl,l0,g0⟩,⟨A1,c1,rfl,l1,g1⟩⟩:=h
 exact ⟨A0,c0,A1,c1,rfl,l0,g0,l1,g1⟩
theorem k68_mkM (w:World) (base:Nat) (ok:Nat → Prop) (x:S68) {v0:Value} (g0:k94.R 94 w base ok v0 x.f0) {v1:Value} (g1:k70.R 70 w base ok v1 x.f1):k68.M w base ok x [v0,v1]:=⟨[v0],[v1],rfl,⟨v0,rfl,g0⟩,⟨v1,rfl,g1⟩⟩
def rd_T68 (xs:List S68) (i:Int):S68:=xs.getD i.toNat z68
theorem at_T68 {w:World} {A:Option Addr} {n:Nat} {xs:List S68} (h:Kd.C k68 w A n xs) (i:Int) (h0:0 ≤ i) (h1:i < n):∃ ad A0 c0 A1 c1,A = some ad∧w.cell? (ad.add (i.toNat * 2)) = some (.slice A0 (rd_T68 xs i).f0.length c0)∧w.cell? ⟨(ad.add (i.toNat * 2)).block,(ad.add (i.toNat * 2)).off + 1,none⟩ = some (.slice A1 (rd_T68 xs i).f1.length c1)∧(rd_T68 xs i).f0.length ≤ c0∧k94.C w A0 (rd_T68 xs i).f0.length (rd_T68 xs i).f0∧(rd_T68 xs i).f1.length ≤ c1∧k70.C w A1 (rd_T68 xs i).f1.length (rd_T68 xs i).f1:=by
 obtain ⟨ad,c,e,_,hK,hc0⟩:=Kd.C_get h z68 i h0 h1
 have hc:∀ j u,c[j]? = some u → w.cell? (ad.add (i.toNat * 2 + j)) = some u:=hc0
 obtain ⟨A0,c0,A1,c1,rfl,l0,g0,l1,g1⟩:=k68_open hK
 exact ⟨ad,A0,c0,A1,c1,e,hc 0 _ rfl,by rw [← add_field _ _ 1 (by omega)];exact hc 1 _ rfl,l0,g0,l1,g1⟩
structure S25 where
 f0:(List S74)
 f1:(List S68)
def k25:Kd S25:=Kd.iso (Kd.pair (Kd.slice 74 k74) (Kd.slice 68 k68)) (fun x:S25=>(x.f0,x.f1))
end Go.Proofs.YtkpddelnkjjflaaDoor.M
