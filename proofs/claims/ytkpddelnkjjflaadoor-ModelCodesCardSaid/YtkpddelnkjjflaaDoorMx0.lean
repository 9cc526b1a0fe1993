-- WRITTEN by this session's own program (wip/pp.py) over the translation. Not trusted: Lean checks it.
import Derived.Test.YtkpddelnkjjflaaDoorProg
import Derived.Below
import Derived.Deep.Draws
import Derived.Deep.AppendLies
import Derived.Maps.AppendAt
import Derived.OwnWalk
import Derived.Laws.BytesArg
import Derived.Laws.MakeOwn
import Derived.Laws.OwnMore
import Derived.Deep.OwnRows
import Derived.Tactics
import Derived.Lib.ConvBytes
import Derived.Laws.Slices
import Derived.WalkKit
import Derived.KernelRfl
import Derived.RowKit3
import Derived.Deep.LoopGhost
import Derived.Deep.QuietTactic
import Derived.BigQuiet
import Derived.WideLaws
import Derived.Deep.DeepCutAuto
import Derived.Deep.CutBlock
import Derived.Deep.RegionHeld3
import Derived.Laws.Rows
import Derived.Lib.AppendStr
import Derived.ArgAppend
import Derived.Laws.IdiomCopy
import Derived.OrdersHeld
import Derived.Laws.BitsLemmas
import Derived.RowKit
import Derived.Lib.SliceRun
import Derived.Outline
import Derived.Defers
import Derived.Recover
import Derived.RegionTactic
import Derived.ChangeAlike
import Derived.WalkLawsBesides
import Derived.Test.YtkpddelnkjjflaaDoorHand
import Derived.Test.YtkpddelnkjjflaaDoorLaid
import Derived.Test.YtkpddelnkjjflaaDoorWWords
import Derived.Test.YtkpddelnkjjflaaDoorWLast
import Derived.Test.YtkpddelnkjjflaaDoorWTab
import Derived.Test.YtkpddelnkjjflaaDoorWQPut
import Derived.Test.YtkpddelnkjjflaaDoorWApart
import Derived.Test.YtkpddelnkjjflaaDoorWArr
import Derived.Test.YtkpddelnkjjflaaDoorWZeros
import Derived.Test.YtkpddelnkjjflaaDoorWFoot
import Derived.Test.YtkpddelnkjjflaaDoorWKept
import Derived.Test.YtkpddelnkjjflaaDoorWShare
import Derived.Test.YtkpddelnkjjflaaDoorWN
import Derived.Test.YtkpddelnkjjflaaDoorWFootNe
import Derived.Test.YtkpddelnkjjflaaDoorWEqStruct
import Derived.Test.YtkpddelnkjjflaaDoorWGuard
import Derived.Test.YtkpddelnkjjflaaDoorWNEv
import Derived.Test.YtkpddelnkjjflaaDoorWMore
namespace Go.Proofs.YtkpddelnkjjflaaDoor.M
open Go.Proofs.YtkpddelnkjjflaaDoor.Al
open Go.World renaming block_lt_of_cell? → zB
open Nat renaming lt_of_lt_of_le → zS
open Option renaming bind_eq_some_iff → zb
open List renaming setIfInBounds_toArray → zX, set_cons_zero → zY, set_cons_succ → zZ, map_toArray → zx, map_cons → zy, map_nil → zz, length_drop → zd, length_take → zt
open Go.Proofs.YtkpddelnkjjflaaDoorW.PrintWords renaming pw_below_drewN → zC, below_alloc → zD, below_drew1 → zE, below_set → zF, below_size → zG, below_step → zH, blk_cell → zI, blk_frozen → zJ, blk_alloc → zK, blk_drewN → zL, blk_drew → zM, blk_below → zN, blk_put → zO, Kd.C_below → zT, gate_callee → zU, gate_dst → zV, box_event → zW
open Go.RowKit Go.Proofs.YtkpddelnkjjflaaDoorW.PrintWords Go.Proofs.YtkpddelnkjjflaaDoorW.PrintLast Go.Proofs.YtkpddelnkjjflaaDoorW.PrintMore
attribute [local go_sem] max2_int min2_int max_two min_two max_three min_three max_four min_four   -- for this text's walks alone
set_option linter.unusedVariables false
set_option linter.unusedSimpArgs false



def errW:Option Int → Value
 | none=>.nilIface
 | some c=>.iface 0 (.int .i64 c)
theorem errW_none:errW none = .nilIface:=rfl
theorem errW_some (c:Int):errW (some c) = .iface 0 (.int .i64 c):=rfl

theorem info3:(Tryd.prog.info? 3).map (fun i=>(i.zero,i.size,i.bytes)) = some (some (.int .i64 0),1,8):=by kernel_rfl
theorem info45:(Tryd.prog.info? 45).map (fun i=>(i.zero,i.size,i.bytes)) = some (some (.slice none 0 0),1,24):=by kernel_rfl
theorem info68:(Tryd.prog.info? 68).map (fun i=>(i.zero,i.size,i.bytes)) = some (some (.agg #[(.slice none 0 0),(.slice none 0 0)]),2,48):=by kernel_rfl
theorem info70:(Tryd.prog.info? 70).map (fun i=>(i.zero,i.size,i.bytes)) = some (some (.agg #[(.int .i64 0),(.slice none 0 0)]),2,32):=by kernel_rfl
theorem info74:(Tryd.prog.info? 74).map (fun i=>(i.zero,i.size,i.bytes)) = some (some (.agg #[(.string ⟨#[]⟩),(.int .i64 0),(.int .i64 0),(.int .i64 0)]),4,40):=by kernel_rfl
theorem info94:(Tryd.prog.info? 94).map (fun i=>(i.zero,i.size,i.bytes)) = some (some (.agg #[(.int .i64 0),(.int .i64 0)]),2,16):=by kernel_rfl
-- the values' own types
/-! #### struct type 74 -/
structure S74 where
 f0:ByteArray
 f1:Int
 f2:Int
 f3:Int
def z74:S74:=⟨(⟨#[]⟩:ByteArray),(0:Int),(0:Int),(0:Int)⟩
def k74:Kd S74:=Kd.iso (Kd.pair Kd.string (Kd.pair (Kd.int .i64) (Kd.pair (Kd.int .i64) (Kd.int .i64)))) (fun x:S74=>(x.f0,x.f1,x.f2,x.f3))
theorem k74_open {w:World} {x:S74} {cs:List Value} (h:k74.K w x cs):cs = [.string x.f0,.int .i64 x.f1,.int .i64 x.f2,.int .i64 x.f3]:=by
 obtain ⟨_,_,rfl,rfl,⟨_,_,rfl,rfl,⟨_,_,rfl,rfl,rfl⟩⟩⟩:=h
 exact rfl
theorem k74_openM {w:World} {base:Nat} {ok:Nat → Prop} {x:S74} {cs:List Value} (h:k74.M w base ok x cs):cs = [.string x.f0,.int .i64 x.f1,.int .i64 x.f2,.int .i64 x.f3]:=by
 obtain ⟨_,_,rfl,rfl,⟨_,_,rfl,rfl,⟨_,_,rfl,rfl,rfl⟩⟩⟩:=h
 exact rfl
theorem k74_mk (w:World) (x:S74) :k74.K w x [.string x.f0,.int .i64 x.f1,.int .i64 x.f2,.int .i64 x.f3]:=⟨[.string x.f0],[.int .i64 x.f1,.int .i64 x.f2,.int .i64 x.f3],rfl,rfl,⟨[.int .i64 x.f1],[.int .i64 x.f2,.int .i64 x.f3],rfl,rfl,⟨[.int .i64 x.f2],[.int .i64 x.f3],rfl,rfl,rfl⟩⟩⟩
theorem k74_mkM (w:World) (base:Nat) (ok:Nat → Prop) (x:S74) :k74.M w base ok x [.string x.f0,.int .i64 x.f1,.int .i64 x.f2,.int .i64 x.f3]:=⟨[.string x.f0],[.int .i64 x.f1,.int .i64 x.f2,.int .i64 x.f3],rfl,rfl,⟨[.int .i64 x.f1],[.int .i64 x.f2,.int .i64 x.f3],rfl,rfl,⟨[.int .i64 x.f2],[.int .i64 x.f3],rfl,rfl,rfl⟩⟩⟩
def rd_T74 (xs:List S74) (i:Int):S74:=xs.getD i.toNat z74
theorem at_T74 {w:World} {A:Option Addr} {n:Nat} {xs:List S74} (h:Kd.C k74 w A n xs) (i:Int) (h0:0 ≤ i) (h1:i < n):∃ ad ,A = some ad∧w.cell? (ad.add (i.toNat * 4)) = some (.string (rd_T74 xs i).f0)∧w.cell? ⟨(ad.add (i.toNat * 4)).block,(ad.add (i.toNat * 4)).off + 1,none⟩ = some (.int .i64 (rd_T74 xs i).f1)∧w.cell? ⟨(ad.add (i.toNat * 4)).block,(ad.add (i.toNat * 4)).off + 2,none⟩ = some (.int .i64 (rd_T74 xs i).f2)∧w.cell? ⟨(ad.add (i.toNat * 4)).block,(ad.add (i.toNat * 4)).off + 3,none⟩ = some (.int .i64 (rd_T74 xs i).f3):=by
 obtain ⟨ad,c,e,_,hK,hc0⟩:=Kd.C_get h z74 i h0 h1
 have hc:∀ j u,c[j]? = some u → w.cell? (ad.add (i.toNat * 4 + j)) = some u:=hc0
 obtain rfl:=k74_open hK
 exact ⟨ad,e,hc 0 _ rfl,by rw [← add_field _ _ 1 (by omega)];exact hc 1 _ rfl,by rw [← add_field _ _ 2 (by omega)];exact hc 2 _ rfl,by rw [← add_field _ _ 3 (by omega)];exact hc 3 _ rfl⟩

/-! #### struct type 94 -/
structure S94 where
 f0:Int
 f1:Int
def z94:S94:=⟨(0:Int),(0:Int)⟩
def k94:Kd S94:=Kd.iso (Kd.pair (Kd.int .i64) (Kd.int .i64)) (fun x:S94=>(x.f0,x.f1))
theorem k94_open {w:World} {x:S94} {cs:List Value} (h:k94.K w x cs):cs = [.int .i64 x.f0,.int .i64 x.f1]:=by
 obtain ⟨_,_,rfl,rfl,rfl⟩:=h
 exact rfl
theorem k94_openM {w:World} {base:Nat} {ok:Nat → Prop} {x:S94} {cs:List Value} (h:k94.M w base ok x cs):cs = [.int .i64 x.f0,.int .i64 x.f1]:=by
 obtain ⟨_,_,rfl,rfl,rfl⟩:=h
 exact rfl
theorem k94_mk (w:World) (x:S94) :k94.K w x [.int .i64 x.f0,.int .i64 x.f1]:=⟨[.int .i64 x.f0],[.int .i64 x.f1],rfl,rfl,rfl⟩
theorem k94_mkM (w:World) (base:Nat) (ok:Nat → Prop) (x:S94) :k94.M w base ok x [.int .i64 x.f0,.int .i64 x.f1]:=⟨[.int .i64 x.f0],[.int .i64 x.f1],rfl,rfl,rfl⟩
def rd_T94 (xs:List S94) (i:Int):S94:=xs.getD i.toNat z94
theorem at_T94 {w:World} {A:Option Addr} {n:Nat} {xs:List S94} (h:Kd.C k94 w A n xs) (i:Int) (h0:0 ≤ i) (h1:i < n):∃ ad ,A = some ad∧w.cell? (ad.add (i.toNat * 2)) = some (.int .i64 (rd_T94 xs i).f0)∧w.cell? ⟨(ad.add (i.toNat * 2)).block,(ad.add (i.toNat * 2)).off + 1,none⟩ = some (.int .i64 (rd_T94 xs i).f1):=by
 obtain ⟨ad,c,e,_,hK,hc0⟩:=Kd.C_get h z94 i h0 h1
 have hc:∀ j u,c[j]? = some u → w.cell? (ad.add (i.toNat * 2 + j)) = some u:=hc0
 obtain rfl:=k94_open hK
 exact ⟨ad,e,hc 0 _ rfl,by rw [← add_field _ _ 1 (by omega)];exact hc 1 _ rfl⟩

def rd_L4 (xs:List (List S94)) (i:Int):(List S94):=xs.getD i.toNat ([]:List S94)
theorem at_L4 {w:World} {A:Option Addr} {n:Nat} {xs:List (List S94)} (h:Kd.C (Kd.slice 94 k94) w A n xs) (i:Int) (h0:0 ≤ i) (h1:i < n):∃ ad A0 c0,A = some ad∧w.cell? (ad.add i.toNat) = some (.slice A0 (rd_L4 xs i).length c0)∧(rd_L4 xs i).length ≤ c0∧k94.C w A0 (rd_L4 xs i).length (rd_L4 xs i):=by
 obtain ⟨ad,c,e,_,hK,hc0⟩:=Kd.C_get h ([]:List S94) i h0 h1
 have hc:∀ j u,c[j]? = some u → w.cell? (ad.add (i.toNat * 1 + j)) = some u:=hc0
 obtain ⟨A0,c0,rfl,l0,g0⟩:=hK
 exact ⟨ad,A0,c0,e,by have hq:=hc 0 _ rfl;rwa [Nat.mul_one,Nat.add_zero] at hq,l0,g0⟩

/-! #### struct type 70 -/
structure S70 where
 f0:Int
 f1:(List S94)
def z70:S70:=⟨(0:Int),([]:List S94)⟩
def k70:Kd S70:=Kd.iso (Kd.pair (Kd.int .i64) (Kd.slice 94 k94)) (fun x:S70=>(x.f0,x.f1))
theorem k70_open {w:World} {x:S70} {cs:List Value} (h:k70.K w x cs):∃ A1 c1,cs = [.int .i64 x.f0,.slice A1 x.f1.length c1]∧x.f1.length ≤ c1∧k94.C w A1 x.f1.length x.f1:=by
 obtain ⟨_,_,rfl,rfl,⟨A1,c1,rfl,l1,g1⟩⟩:=h
 exact ⟨A1,c1,rfl,l1,g1⟩
theorem k70_openM {w:World} {base:Nat} {ok:Nat → Prop} {x:S70} {cs:List Value} (h:k70.M w base ok x cs):∃ v1,cs = [.int .i64 x.f0,v1]∧k94.R 94 w base ok v1 x.f1:=by
 obtain ⟨_,_,rfl,rfl,⟨v1,rfl,g1⟩⟩:=h
 exact ⟨v1,rfl,g1⟩
theorem k70_mk (w:World) (x:S70) {A1:Option Addr} {c1:Nat} (l1:x.f1.length ≤ c1) (g1:k94.C w A1 x.f1.length x.f1):k70.K w x [.int .i64 x.f0,.slice A1 x.f1.length c1]:=⟨[.int .i64 x.f0],[.slice A1 x.f1.length c1],rfl,rfl,⟨A1,c1,rfl,l1,g1⟩⟩
theorem k70_mkM (w:World) (base:Nat) (ok:Nat → Prop) (x:S70) {v1:Value} (g1:k94.R 94 w base ok v1 x.f1):k70.M w base ok x [.int .i64 x.f0,v1]:=⟨[.int .i64 x.f0],[v1],rfl,rfl,⟨v1,rfl,g1⟩⟩
def rd_T70 (xs:List S70) (i:Int):S70:=xs.getD i.toNat z70
theorem at_T70 {w:World} {A:Option Addr} {n:Nat} {xs:List S70} (h:Kd.C k70 w A n xs) (i:Int) (h0:0 ≤ i) (h1:i < n):∃ ad A1 c1,A = some ad∧w.cell? (ad.add (i.toNat * 2)) = some (.int .i64 (rd_T70 xs i).f0)∧w.cell? ⟨(ad.add (i.toNat * 2)).block,(ad.add (i.toNat * 2)).off + 1,none⟩ = some (.slice A1 (rd_T70 xs i).f1.length c1)∧(rd_T70 xs i).f1.length ≤ c1∧k94.C w A1 (rd_T70 xs i).f1.length (rd_T70 xs i).f1:=by
 obtain ⟨ad,c,e,_,hK,hc0⟩:=Kd.C_get h z70 i h0 h1
 have hc:∀ j u,c[j]? = some u → w.cell? (ad.add (i.toNat * 2 + j)) = some u:=hc0
 obtain ⟨A1,c1,rfl,l1,g1⟩:=k70_open hK
 exact ⟨ad,A1,c1,e,hc 0 _ rfl,by rw [← add_field _ _ 1 (by omega)];exact hc 1 _ rfl,l1,g1⟩

def rd_L6 (xs:List (List S70)) (i:Int):(List S70):=xs.getD i.toNat ([]:List S70)
theorem at_L6 {w:World} {A:Option Addr} {n:Nat} {xs:List (List S70)} (h:Kd.C (Kd.slice 70 k70) w A n xs) (i:Int) (h0:0 ≤ i) (h1:i < n):∃ ad A0 c0,A = some ad∧w.cell? (ad.add i.toNat) = some (.slice A0 (rd_L6 xs i).length c0)∧(rd_L6 xs i).length ≤ c0∧k70.C w A0 (rd_L6 xs i).length (rd_L6 xs i):=by
 obtain ⟨ad,c,e,_,hK,hc0⟩:=Kd.C_get h ([]:List S70) i h0 h1
 have hc:∀ j u,c[j]? = some u → w.cell? (ad.add (i.toNat * 1 + j)) = some u:=hc0
 obtain ⟨A0,c0,rfl,l0,g0⟩:=hK
 exact ⟨ad,A0,c0,e,by have hq:=hc 0 _ rfl;rwa [Nat.mul_one,Nat.add_zero] at hq,l0,g0⟩

/-! #### struct type 68 -/
structure S68 where
 f0:(List S94)
 f1:(List S70)
def z68:S68:=⟨([]:List S94),([]:List S70)⟩
def k68:Kd S68:=Kd.iso (Kd.pair (Kd.slice 94 k94) (Kd.slice 70 k70)) (fun x:S68=>(x.f0,x.f1))
theorem k68_open {w:World} {x:S68} {cs:List Value} (h:k68.K w x cs):∃ A0 c0 A1 c1,cs = [.slice A0 x.f0.length c0,.slice A1 x.f1.length c1]∧x.f0.length ≤ c0∧k94.C w A0 x.f0.length x.f0∧x.f1.length ≤ c1∧k70.C w A1 x.f1.length x.f1:=by
 obtain ⟨_,_,rfl,⟨A0,c0,rfl,l0,g0⟩,⟨A1,c1,rfl,l1,g1⟩⟩:=h
 exact ⟨A0,c0,A1,c1,rfl,l0,g0,l1,g1⟩
theorem k68_openM {w:World} {base:Nat} {ok:Nat → Prop} {x:S68} {cs:List Value} (h:k68.M w base ok x cs):∃ v0 v1,cs = [v0,v1]∧k94.R 94 w base ok v0 x.f0∧k70.R 70 w base ok v1 x.f1:=by
 obtain ⟨_,_,rfl,⟨v0,rfl,g0⟩,⟨v1,rfl,g1⟩⟩:=h
 exact ⟨v0,v1,rfl,g0,g1⟩
theorem k68_mk (w:World) (x:S68) {A0:Option Addr} {c0:Nat} (l0:x.f0.length ≤ c0) (g0:k94.C w A0 x.f0.length x.f0) {A1:Option Addr} {c1:Nat} (l1:x.f1.length ≤ c1) (g1:k70.C w A1 x.f1.length x.f1):k68.K w x [.slice A0 x.f0.length c0,.slice A1 x.f1.length c1]:=⟨[.slice A0 x.f0.length c0],[.slice A1 x.f1.length c1],rfl,⟨A0,c0,rfl,l0,g0⟩,⟨A1,c1,rfl,l1,g1⟩⟩
theorem k68_mkM (w:World) (base:Nat) (ok:Nat → Prop) (x:S68) {v0:Value} (g0:k94.R 94 w base ok v0 x.f0) {v1:Value} (g1:k70.R 70 w base ok v1 x.f1):k68.M w base ok x [v0,v1]:=⟨[v0],[v1],rfl,⟨v0,rfl,g0⟩,⟨v1,rfl,g1⟩⟩
def rd_T68 (xs:List S68) (i:Int):S68:=xs.getD i.toNat z68
theorem at_T68 {w:World} {A:Option Addr} {n:Nat} {xs:List S68} (h:Kd.C k68 w A n xs) (i:Int) (h0:0 ≤ i) (h1:i < n):∃ ad A0 c0 A1 c1,A = some ad∧w.cell? (ad.add (i.toNat * 2)) = some (.slice A0 (rd_T68 xs i).f0.length c0)∧w.cell? ⟨(ad.add (i.toNat * 2)).block,(ad.add (i.toNat * 2)).off + 1,none⟩ = some (.slice A1 (rd_T68 xs i).f1.length c1)∧(rd_T68 xs i).f0.length ≤ c0∧k94.C w A0 (rd_T68 xs i).f0.length (rd_T68 xs i).f0∧(rd_T68 xs i).f1.length ≤ c1∧k70.C w A1 (rd_T68 xs i).f1.length (rd_T68 xs i).f1:=by
 obtain ⟨ad,c,e,_,hK,hc0⟩:=Kd.C_get h z68 i h0 h1
 have hc:∀ j u,c[j]? = some u → w.cell? (ad.add (i.toNat * 2 + j)) = some u:=hc0
 obtain ⟨A0,c0,A1,c1,rfl,l0,g0,l1,g1⟩:=k68_open hK
 exact ⟨ad,A0,c0,A1,c1,e,hc 0 _ rfl,by rw [← add_field _ _ 1 (by omega)];exact hc 1 _ rfl,l0,g0,l1,g1⟩

def rd_L8 (xs:List (List S74)) (i:Int):(List S74):=xs.getD i.toNat ([]:List S74)
theorem at_L8 {w:World} {A:Option Addr} {n:Nat} {xs:List (List S74)} (h:Kd.C (Kd.slice 74 k74) w A n xs) (i:Int) (h0:0 ≤ i) (h1:i < n):∃ ad A0 c0,A = some ad∧w.cell? (ad.add i.toNat) = some (.slice A0 (rd_L8 xs i).length c0)∧(rd_L8 xs i).length ≤ c0∧k74.C w A0 (rd_L8 xs i).length (rd_L8 xs i):=by
 obtain ⟨ad,c,e,_,hK,hc0⟩:=Kd.C_get h ([]:List S74) i h0 h1
 have hc:∀ j u,c[j]? = some u → w.cell? (ad.add (i.toNat * 1 + j)) = some u:=hc0
 obtain ⟨A0,c0,rfl,l0,g0⟩:=hK
 exact ⟨ad,A0,c0,e,by have hq:=hc 0 _ rfl;rwa [Nat.mul_one,Nat.add_zero] at hq,l0,g0⟩

def rd_L9 (xs:List (List S68)) (i:Int):(List S68):=xs.getD i.toNat ([]:List S68)
theorem at_L9 {w:World} {A:Option Addr} {n:Nat} {xs:List (List S68)} (h:Kd.C (Kd.slice 68 k68) w A n xs) (i:Int) (h0:0 ≤ i) (h1:i < n):∃ ad A0 c0,A = some ad∧w.cell? (ad.add i.toNat) = some (.slice A0 (rd_L9 xs i).length c0)∧(rd_L9 xs i).length ≤ c0∧k68.C w A0 (rd_L9 xs i).length (rd_L9 xs i):=by
 obtain ⟨ad,c,e,_,hK,hc0⟩:=Kd.C_get h ([]:List S68) i h0 h1
 have hc:∀ j u,c[j]? = some u → w.cell? (ad.add (i.toNat * 1 + j)) = some u:=hc0
 obtain ⟨A0,c0,rfl,l0,g0⟩:=hK
 exact ⟨ad,A0,c0,e,by have hq:=hc 0 _ rfl;rwa [Nat.mul_one,Nat.add_zero] at hq,l0,g0⟩

/-! #### struct type 25 -/
structure S25 where
 f0:(List S74)
 f1:(List S68)
def z25:S25:=⟨([]:List S74),([]:List S68)⟩
def k25:Kd S25:=Kd.iso (Kd.pair (Kd.slice 74 k74) (Kd.slice 68 k68)) (fun x:S25=>(x.f0,x.f1))
theorem k25_open {w:World} {x:S25} {cs:List Value} (h:k25.K w x cs):∃ A0 c0 A1 c1,cs = [.slice A0 x.f0.length c0,.slice A1 x.f1.length c1]∧x.f0.length ≤ c0∧k74.C w A0 x.f0.length x.f0∧x.f1.length ≤ c1∧k68.C w A1 x.f1.length x.f1:=by
 obtain ⟨_,_,rfl,⟨A0,c0,rfl,l0,g0⟩,⟨A1,c1,rfl,l1,g1⟩⟩:=h
 exact ⟨A0,c0,A1,c1,rfl,l0,g0,l1,g1⟩
theorem k25_openM {w:World} {base:Nat} {ok:Nat → Prop} {x:S25} {cs:List Value} (h:k25.M w base ok x cs):∃ v0 v1,cs = [v0,v1]∧k74.R 74 w base ok v0 x.f0∧k68.R 68 w base ok v1 x.f1:=by
 obtain ⟨_,_,rfl,⟨v0,rfl,g0⟩,⟨v1,rfl,g1⟩⟩:=h
 exact ⟨v0,v1,rfl,g0,g1⟩
theorem k25_mk (w:World) (x:S25) {A0:Option Addr} {c0:Nat} (l0:x.f0.length ≤ c0) (g0:k74.C w A0 x.f0.length x.f0) {A1:Option Addr} {c1:Nat} (l1:x.f1.length ≤ c1) (g1:k68.C w A1 x.f1.length x.f1):k25.K w x [.slice A0 x.f0.length c0,.slice A1 x.f1.length c1]:=⟨[.slice A0 x.f0.length c0],[.slice A1 x.f1.length c1],rfl,⟨A0,c0,rfl,l0,g0⟩,⟨A1,c1,rfl,l1,g1⟩⟩
theorem k25_mkM (w:World) (base:Nat) (ok:Nat → Prop) (x:S25) {v0:Value} (g0:k74.R 74 w base ok v0 x.f0) {v1:Value} (g1:k68.R 68 w base ok v1 x.f1):k25.M w base ok x [v0,v1]:=⟨[v0],[v1],rfl,⟨v0,rfl,g0⟩,⟨v1,rfl,g1⟩⟩
def rd_T25 (xs:List S25) (i:Int):S25:=xs.getD i.toNat z25
theorem at_T25 {w:World} {A:Option Addr} {n:Nat} {xs:List S25} (h:Kd.C k25 w A n xs) (i:Int) (h0:0 ≤ i) (h1:i < n):∃ ad A0 c0 A1 c1,A = some ad∧w.cell? (ad.add (i.toNat * 2)) = some (.slice A0 (rd_T25 xs i).f0.length c0)∧w.cell? ⟨(ad.add (i.toNat * 2)).block,(ad.add (i.toNat * 2)).off + 1,none⟩ = some (.slice A1 (rd_T25 xs i).f1.length c1)∧(rd_T25 xs i).f0.length ≤ c0∧k74.C w A0 (rd_T25 xs i).f0.length (rd_T25 xs i).f0∧(rd_T25 xs i).f1.length ≤ c1∧k68.C w A1 (rd_T25 xs i).f1.length (rd_T25 xs i).f1:=by
 obtain ⟨ad,c,e,_,hK,hc0⟩:=Kd.C_get h z25 i h0 h1
 have hc:∀ j u,c[j]? = some u → w.cell? (ad.add (i.toNat * 2 + j)) = some u:=hc0
 obtain ⟨A0,c0,A1,c1,rfl,l0,g0,l1,g1⟩:=k25_open hK
 exact ⟨ad,A0,c0,A1,c1,e,hc 0 _ rfl,by rw [← add_field _ _ 1 (by omega)];exact hc 1 _ rfl,l0,g0,l1,g1⟩

def rd_L11 (xs:List (List (List S94))) (i:Int):(List (List S94)):=xs.getD i.toNat ([]:List (List S94))
theorem at_L11 {w:World} {A:Option Addr} {n:Nat} {xs:List (List (List S94))} (h:Kd.C (Kd.slice 45 (Kd.slice 94 k94)) w A n xs) (i:Int) (h0:0 ≤ i) (h1:i < n):∃ ad A0 c0,A = some ad∧w.cell? (ad.add i.toNat) = some (.slice A0 (rd_L11 xs i).length c0)∧(rd_L11 xs i).length ≤ c0∧(Kd.slice 94 k94).C w A0 (rd_L11 xs i).length (rd_L11 xs i):=by
 obtain ⟨ad,c,e,_,hK,hc0⟩:=Kd.C_get h ([]:List (List S94)) i h0 h1
 have hc:∀ j u,c[j]? = some u → w.cell? (ad.add (i.toNat * 1 + j)) = some u:=hc0
 obtain ⟨A0,c0,rfl,l0,g0⟩:=hK
 exact ⟨ad,A0,c0,e,by have hq:=hc 0 _ rfl;rwa [Nat.mul_one,Nat.add_zero] at hq,l0,g0⟩

/-! #### struct type 47 -/
structure S47 where
 f0:S25
 f1:(List (List S94))
 f2:(List S94)
def z47:S47:=⟨z25,([]:List (List S94)),([]:List S94)⟩
def k47:Kd S47:=Kd.iso (Kd.pair k25 (Kd.pair (Kd.slice 45 (Kd.slice 94 k94)) (Kd.slice 94 k94))) (fun x:S47=>(x.f0,x.f1,x.f2))
theorem k47_open {w:World} {x:S47} {cs:List Value} (h:k47.K w x cs):∃ A0 c0 A1 c1 A2 c2 A3 c3,cs = [.slice A0 x.f0.f0.length c0,.slice A1 x.f0.f1.length c1,.slice A2 x.f1.length c2,.slice A3 x.f2.length c3]∧x.f0.f0.length ≤ c0∧k74.C w A0 x.f0.f0.length x.f0.f0∧x.f0.f1.length ≤ c1∧k68.C w A1 x.f0.f1.length x.f0.f1∧x.f1.length ≤ c2∧(Kd.slice 94 k94).C w A2 x.f1.length x.f1∧x.f2.length ≤ c3∧k94.C w A3 x.f2.length x.f2:=by
 obtain ⟨_,_,rfl,s0,⟨_,_,rfl,⟨A2,c2,rfl,l2,g2⟩,⟨A3,c3,rfl,l3,g3⟩⟩⟩:=h
 obtain ⟨A0,c0,A1,c1,rfl,l0,g0,l1,g1⟩:=k25_open s0
 exact ⟨A0,c0,A1,c1,A2,c2,A3,c3,rfl,l0,g0,l1,g1,l2,g2,l3,g3⟩
theorem k47_openM {w:World} {base:Nat} {ok:Nat → Prop} {x:S47} {cs:List Value} (h:k47.M w base ok x cs):∃ v0 v1 v2 v3,cs = [v0,v1,v2,v3]∧k74.R 74 w base ok v0 x.f0.f0∧k68.R 68 w base ok v1 x.f0.f1∧(Kd.slice 94 k94).R 45 w base ok v2 x.f1∧k94.R 94 w base ok v3 x.f2:=by
 obtain ⟨_,_,rfl,s0,⟨_,_,rfl,⟨v2,rfl,g2⟩,⟨v3,rfl,g3⟩⟩⟩:=h
 obtain ⟨v0,v1,rfl,g0,g1⟩:=k25_openM s0
 exact ⟨v0,v1,v2,v3,rfl,g0,g1,g2,g3⟩
theorem k47_mk (w:World) (x:S47) {A0:Option Addr} {c0:Nat} (l0:x.f0.f0.length ≤ c0) (g0:k74.C w A0 x.f0.f0.length x.f0.f0) {A1:Option Addr} {c1:Nat} (l1:x.f0.f1.length ≤ c1) (g1:k68.C w A1 x.f0.f1.length x.f0.f1) {A2:Option Addr} {c2:Nat} (l2:x.f1.length ≤ c2) (g2:(Kd.slice 94 k94).C w A2 x.f1.length x.f1) {A3:Option Addr} {c3:Nat} (l3:x.f2.length ≤ c3) (g3:k94.C w A3 x.f2.length x.f2):k47.K w x [.slice A0 x.f0.f0.length c0,.slice A1 x.f0.f1.length c1,.slice A2 x.f1.length c2,.slice A3 x.f2.length c3]:=⟨[.slice A0 x.f0.f0.length c0,.slice A1 x.f0.f1.length c1],[.slice A2 x.f1.length c2,.slice A3 x.f2.length c3],rfl,(k25_mk w x.f0 l0 g0 l1 g1),⟨[.slice A2 x.f1.length c2],[.slice A3 x.f2.length c3],rfl,⟨A2,c2,rfl,l2,g2⟩,⟨A3,c3,rfl,l3,g3⟩⟩⟩
theorem k47_mkM (w:World) (base:Nat) (ok:Nat → Prop) (x:S47) {v0:Value} (g0:k74.R 74 w base ok v0 x.f0.f0) {v1:Value} (g1:k68.R 68 w base ok v1 x.f0.f1) {v2:Value} (g2:(Kd.slice 94 k94).R 45 w base ok v2 x.f1) {v3:Value} (g3:k94.R 94 w base ok v3 x.f2):k47.M w base ok x [v0,v1,v2,v3]:=⟨[v0,v1],[v2,v3],rfl,(k25_mkM w base ok x.f0 g0 g1),⟨[v2],[v3],rfl,⟨v2,rfl,g2⟩,⟨v3,rfl,g3⟩⟩⟩
def rd_T47 (xs:List S47) (i:Int):S47:=xs.getD i.toNat z47
theorem at_T47 {w:World} {A:Option Addr} {n:Nat} {xs:List S47} (h:Kd.C k47 w A n xs) (i:Int) (h0:0 ≤ i) (h1:i < n):∃ ad A0 c0 A1 c1 A2 c2 A3 c3,A = some ad∧w.cell? (ad.add (i.toNat * 4)) = some (.slice A0 (rd_T47 xs i).f0.f0.length c0)∧w.cell? ⟨(ad.add (i.toNat * 4)).block,(ad.add (i.toNat * 4)).off + 1,none⟩ = some (.slice A1 (rd_T47 xs i).f0.f1.length c1)∧w.cell? ⟨(ad.add (i.toNat * 4)).block,(ad.add (i.toNat * 4)).off + 2,none⟩ = some (.slice A2 (rd_T47 xs i).f1.length c2)∧w.cell? ⟨(ad.add (i.toNat * 4)).block,(ad.add (i.toNat * 4)).off + 3,none⟩ = some (.slice A3 (rd_T47 xs i).f2.length c3)∧(rd_T47 xs i).f0.f0.length ≤ c0∧k74.C w A0 (rd_T47 xs i).f0.f0.length (rd_T47 xs i).f0.f0∧(rd_T47 xs i).f0.f1.length ≤ c1∧k68.C w A1 (rd_T47 xs i).f0.f1.length (rd_T47 xs i).f0.f1∧(rd_T47 xs i).f1.length ≤ c2∧(Kd.slice 94 k94).C w A2 (rd_T47 xs i).f1.length (rd_T47 xs i).f1∧(rd_T47 xs i).f2.length ≤ c3∧k94.C w A3 (rd_T47 xs i).f2.length (rd_T47 xs i).f2:=by
 obtain ⟨ad,c,e,_,hK,hc0⟩:=Kd.C_get h z47 i h0 h1
 have hc:∀ j u,c[j]? = some u → w.cell? (ad.add (i.toNat * 4 + j)) = some u:=hc0
 obtain ⟨A0,c0,A1,c1,A2,c2,A3,c3,rfl,l0,g0,l1,g1,l2,g2,l3,g3⟩:=k47_open hK
 exact ⟨ad,A0,c0,A1,c1,A2,c2,A3,c3,e,hc 0 _ rfl,by rw [← add_field _ _ 1 (by omega)];exact hc 1 _ rfl,by rw [← add_field _ _ 2 (by omega)];exact hc 2 _ rfl,by rw [← add_field _ _ 3 (by omega)];exact hc 3 _ rfl,l0,g0,l1,g1,l2,g2,l3,g3⟩

def rd_L14 (xs:List (List Int)) (i:Int):(List Int):=xs.getD i.toNat ([]:List Int)
theorem at_L14 {w:World} {A:Option Addr} {n:Nat} {xs:List (List Int)} (h:Kd.C (Kd.slice 3 (Kd.int .i64)) w A n xs) (i:Int) (h0:0 ≤ i) (h1:i < n):∃ ad A0 c0,A = some ad∧w.cell? (ad.add i.toNat) = some (.slice A0 (rd_L14 xs i).length c0)∧(rd_L14 xs i).length ≤ c0∧(Kd.int .i64).C w A0 (rd_L14 xs i).length (rd_L14 xs i):=by
 obtain ⟨ad,c,e,_,hK,hc0⟩:=Kd.C_get h ([]:List Int) i h0 h1
 have hc:∀ j u,c[j]? = some u → w.cell? (ad.add (i.toNat * 1 + j)) = some u:=hc0
 obtain ⟨A0,c0,rfl,l0,g0⟩:=hK
 exact ⟨ad,A0,c0,e,by have hq:=hc 0 _ rfl;rwa [Nat.mul_one,Nat.add_zero] at hq,l0,g0⟩

end Go.Proofs.YtkpddelnkjjflaaDoor.M
