import Derived.Test.YtkonljiembcdlaaProg
import Derived.Below
import Derived.Deep.Draws
import Derived.Deep.AppendLies
import Derived.Maps.AppendAt
import Derived.OwnWalk
import Derived.Laws.BytesArg
import Derived.Laws.MakeOwn
import Derived.Laws.OwnMore
import Derived.Deep.OwnRows
import Derived.Tactics
import Derived.Lib.ConvBytes
import Derived.Laws.Slices
import Derived.WalkKit
import Derived.KernelRfl
import Derived.RowKit3
import Derived.Deep.LoopGhost
import Derived.Deep.QuietTactic
import Derived.BigQuiet
import Derived.WideLaws
import Derived.Deep.DeepCutAuto
import Derived.Deep.CutBlock
import Derived.Deep.RegionHeld3
import Derived.Laws.Rows
import Derived.Lib.AppendStr
import Derived.ArgAppend
import Derived.Laws.IdiomCopy
import Derived.OrdersHeld
import Derived.Laws.BitsLemmas
import Derived.RowKit
import Derived.Test.YtkonljiembcdlaaMyWords
import Derived.Shelf.Abstract
import Derived.LoopTactic
import Derived.Lib.Bytealg
import Derived.Deep.RegionHeld3
import Derived.Deep.DrawnRows
import Derived.Test.YtkonljiembcdlaaFoundW
import Derived.Test.YtkonljiembcdlaaMach
import Derived.ChangeKeysEq
import Derived.Laws.Cover3
import Derived.Lib.SliceRun
import Derived.Test.YtkonljiembcdlaaMyShort
import Derived.Test.YtkonljiembcdlaaWWords
import Derived.Test.YtkonljiembcdlaaWLast
import Derived.Test.YtkonljiembcdlaaWTab
import Derived.Test.YtkonljiembcdlaaWFour
import Derived.Test.YtkonljiembcdlaaWQPut
import Derived.Test.YtkonljiembcdlaaWApart
import Derived.Test.YtkonljiembcdlaaWArr
import Derived.Test.YtkonljiembcdlaaWZeros
import Derived.Test.YtkonljiembcdlaaWFoot
import Derived.Test.YtkonljiembcdlaaWKept
import Derived.Test.YtkonljiembcdlaaWShare
import Derived.Test.YtkonljiembcdlaaWN
import Derived.Test.YtkonljiembcdlaaWFootNe
import Derived.Test.YtkonljiembcdlaaWAt
import Derived.Test.YtkonljiembcdlaaWEqStruct
import Derived.Test.YtkonljiembcdlaaWRepsOne
import Derived.Test.YtkonljiembcdlaaWInv
import Derived.Test.YtkonljiembcdlaaWInvWords
import Derived.Test.YtkonljiembcdlaaWGuard
import Derived.Test.YtkonljiembcdlaaWNEv
import Derived.Test.YtkonljiembcdlaaWMore
namespace Go.Proofs.Ytkonljiembcdlaa.PC
open Go.Proofs.MyWords Go.RowKit Go.Proofs.YtkonljiembcdlaaW.PrintWords Go.Proofs.YtkonljiembcdlaaW.PrintLast Go.Proofs.YtkonljiembcdlaaW.PrintMore
attribute [local go_sem] max2_int min2_int max_two min_two max_three min_three max_four min_four   -- for this text's walks alone
set_option linter.unusedVariables false
set_option linter.unusedSimpArgs false
def errW:Option Int → Value
  | none=>.nilIface
  | some c=>.iface 0 (.int .i64 c)
theorem errW_none:errW none=.nilIface:=rfl
theorem errW_some (c:Int):errW (some c)=.iface 0 (.int .i64 c):=rfl
theorem info3:(Try.prog.info? 3).map (fun i=>(i.zero,i.size,i.bytes))=some (some (.int .i64 0),1,8):=by kernel_rfl
theorem info4:(Try.prog.info? 4).map (fun i=>(i.zero,i.size,i.bytes))=some (some (.bool false),1,1):=by kernel_rfl
theorem info9:(Try.prog.info? 9).map (fun i=>(i.zero,i.size,i.bytes))=some (some (.string ⟨#[]⟩),1,16):=by kernel_rfl
theorem info22:(Try.prog.info? 22).map (fun i=>(i.zero,i.size,i.bytes))=some (some (.slice none 0 0),1,24):=by kernel_rfl
theorem info23:(Try.prog.info? 23).map (fun i=>(i.zero,i.size,i.bytes))=some (some (.slice none 0 0),1,24):=by kernel_rfl
theorem info60:(Try.prog.info? 60).map (fun i=>(i.zero,i.size,i.bytes))=some (some (.agg #[(.slice none 0 0),(.slice none 0 0)]),2,48):=by kernel_rfl
theorem info98:(Try.prog.info? 98).map (fun i=>(i.zero,i.size,i.bytes))=some (some (.agg #[(.int .u8 0),(.slice none 0 0)]),2,32):=by kernel_rfl
theorem info102:(Try.prog.info? 102).map (fun i=>(i.zero,i.size,i.bytes))=some (some (.agg #[(.slice none 0 0),(.bool false)]),2,32):=by kernel_rfl
-- the values' own types
def rd_L1 (xs:List (List Int)) (i:Int):(List Int):=xs.getD i.toNat ([]:List Int)
theorem at_L1 {w:World} {A:Option Addr} {n:Nat} {xs:List (List Int)} (h:Kd.C (Kd.slice 3 (Kd.int .i64)) w A n xs) (i:Int) (h0:0 ≤ i) (h1:i < n):∃ ad A0 c0,A=some ad∧w.cell? (ad.add i.toNat)=some (.slice A0 (rd_L1 xs i).length c0)∧(rd_L1 xs i).length ≤ c0∧(Kd.int .i64).C w A0 (rd_L1 xs i).length (rd_L1 xs i):=by
  obtain ⟨ad,c,e,_,hK,hc0⟩:=Kd.C_get h ([]:List Int) i h0 h1
  have hc:∀ j u,c[j]?=some u → w.cell? (ad.add (i.toNat * 1 + j))=some u:=hc0
  obtain ⟨A0,c0,rfl,l0,g0⟩:=hK
  exact ⟨ad,A0,c0,e,by have hq:=hc 0 _ rfl;rwa [Nat.mul_one,Nat.add_zero] at hq,l0,g0⟩
def rd_L2 (xs:List (List (List Int))) (i:Int):(List (List Int)):=xs.getD i.toNat ([]:List (List Int))
theorem at_L2 {w:World} {A:Option Addr} {n:Nat} {xs:List (List (List Int))} (h:Kd.C (Kd.slice 23 (Kd.slice 3 (Kd.int .i64))) w A n xs) (i:Int) (h0:0 ≤ i) (h1:i < n):∃ ad A0 c0,A=some ad∧w.cell? (ad.add i.toNat)=some (.slice A0 (rd_L2 xs i).length c0)∧(rd_L2 xs i).length ≤ c0∧(Kd.slice 3 (Kd.int .i64)).C w A0 (rd_L2 xs i).length (rd_L2 xs i):=by
  obtain ⟨ad,c,e,_,hK,hc0⟩:=Kd.C_get h ([]:List (List Int)) i h0 h1
  have hc:∀ j u,c[j]?=some u → w.cell? (ad.add (i.toNat * 1 + j))=some u:=hc0
  obtain ⟨A0,c0,rfl,l0,g0⟩:=hK
  exact ⟨ad,A0,c0,e,by have hq:=hc 0 _ rfl;rwa [Nat.mul_one,Nat.add_zero] at hq,l0,g0⟩
/-! #### struct type 60 -/
structure S60 where
  f0:(List Int)
  f1:(List (List Int))
def z60:S60:=⟨([]:List Int),([]:List (List Int))⟩
def k60:Kd S60:=Kd.iso (Kd.pair (Kd.slice 3 (Kd.int .i64)) (Kd.slice 23 (Kd.slice 3 (Kd.int .i64)))) (fun x:S60=>(x.f0,x.f1))
theorem k60_heap:Kd.Heap k60:=Kd.heap_iso _ (Kd.heap_pair (Kd.heap_slice 3 (Kd.heap_int .i64)) (Kd.heap_slice 23 (Kd.heap_slice 3 (Kd.heap_int .i64))))
theorem k60_open {w:World} {x:S60} {cs:List Value} (h:k60.K w x cs):∃ A0 c0 A1 c1,cs=[.slice A0 x.f0.length c0,.slice A1 x.f1.length c1]∧x.f0.length ≤ c0∧(Kd.int .i64).C w A0 x.f0.length x.f0∧x.f1.length ≤ c1∧(Kd.slice 3 (Kd.int .i64)).C w A1 x.f1.length x.f1:=by
  obtain ⟨_,_,rfl,⟨A0,c0,rfl,l0,g0⟩,⟨A1,c1,rfl,l1,g1⟩⟩:=h
  exact ⟨A0,c0,A1,c1,rfl,l0,g0,l1,g1⟩
theorem k60_openM {w:World} {base:Nat} {ok:Nat → Prop} {x:S60} {cs:List Value} (h:k60.M w base ok x cs):∃ v0 v1,cs=[v0,v1]∧(Kd.int .i64).R 3 w base ok v0 x.f0∧(Kd.slice 3 (Kd.int .i64)).R 23 w base ok v1 x.f1:=by
  obtain ⟨_,_,rfl,⟨v0,rfl,g0⟩,⟨v1,rfl,g1⟩⟩:=h
  exact ⟨v0,v1,rfl,g0,g1⟩
theorem k60_mk (w:World) (x:S60) {A0:Option Addr} {c0:Nat} (l0:x.f0.length ≤ c0) (g0:(Kd.int .i64).C w A0 x.f0.length x.f0) {A1:Option Addr} {c1:Nat} (l1:x.f1.length ≤ c1) (g1:(Kd.slice 3 (Kd.int .i64)).C w A1 x.f1.length x.f1):k60.K w x [.slice A0 x.f0.length c0,.slice A1 x.f1.length c1]:=⟨[.slice A0 x.f0.length c0],[.slice A1 x.f1.length c1],rfl,⟨A0,c0,rfl,l0,g0⟩,⟨A1,c1,rfl,l1,g1⟩⟩
theorem k60_mkM (w:World) (base:Nat) (ok:Nat → Prop) (x:S60) {v0:Value} (g0:(Kd.int .i64).R 3 w base ok v0 x.f0) {v1:Value} (g1:(Kd.slice 3 (Kd.int .i64)).R 23 w base ok v1 x.f1):k60.M w base ok x [v0,v1]:=⟨[v0],[v1],rfl,⟨v0,rfl,g0⟩,⟨v1,rfl,g1⟩⟩
theorem k60_openF {W:World} {ok:Nat → Prop} {x:S60} {cs:List Value} (h:Kd.FK k60 W ok x cs):∃ A0 c0 A1 c1,cs=[.slice A0 x.f0.length c0,.slice A1 x.f1.length c1]∧x.f0.length ≤ c0∧Kd.F (Kd.int .i64) W ok A0 x.f0.length x.f0∧x.f1.length ≤ c1∧Kd.F (Kd.slice 3 (Kd.int .i64)) W ok A1 x.f1.length x.f1:=by
  obtain ⟨A0,c0,A1,c1,rfl,l0,_,l1,_⟩:=k60_open (Kd.FK_now h)
  exact ⟨A0,c0,A1,c1,rfl,l0,(fun W' hW=>by obtain ⟨A0_,c0_,A1_,c1_,he,l0_,g0_,l1_,g1_⟩:=k60_open (h W' hW);injection (Option.some.inj (show some (Value.slice A0 x.f0.length c0)=some (Value.slice A0_ x.f0.length c0_) from congrArg (fun l=>l[0]?) he)) with ha_ _ _;rw [ha_];exact g0_),l1,(fun W' hW=>by obtain ⟨A0_,c0_,A1_,c1_,he,l0_,g0_,l1_,g1_⟩:=k60_open (h W' hW);injection (Option.some.inj (show some (Value.slice A1 x.f1.length c1)=some (Value.slice A1_ x.f1.length c1_) from congrArg (fun l=>l[1]?) he)) with ha_ _ _;rw [ha_];exact g1_)⟩
theorem k60_mkF (W:World) (ok:Nat → Prop) (x:S60) {A0:Option Addr} {c0:Nat} (l0:x.f0.length ≤ c0) (g0:Kd.F (Kd.int .i64) W ok A0 x.f0.length x.f0) {A1:Option Addr} {c1:Nat} (l1:x.f1.length ≤ c1) (g1:Kd.F (Kd.slice 3 (Kd.int .i64)) W ok A1 x.f1.length x.f1):Kd.FK k60 W ok x [.slice A0 x.f0.length c0,.slice A1 x.f1.length c1]:=fun W2 hW=>k60_mk W2 x l0 (g0 W2 hW) l1 (g1 W2 hW)
def rd_T60 (xs:List S60) (i:Int):S60:=xs.getD i.toNat z60
theorem at_T60 {w:World} {A:Option Addr} {n:Nat} {xs:List S60} (h:Kd.C k60 w A n xs) (i:Int) (h0:0 ≤ i) (h1:i < n):∃ ad A0 c0 A1 c1,A=some ad∧w.cell? (ad.add (i.toNat * 2))=some (.slice A0 (rd_T60 xs i).f0.length c0)∧w.cell? ⟨(ad.add (i.toNat * 2)).block,(ad.add (i.toNat * 2)).off + 1,none⟩=some (.slice A1 (rd_T60 xs i).f1.length c1)∧(rd_T60 xs i).f0.length ≤ c0∧(Kd.int .i64).C w A0 (rd_T60 xs i).f0.length (rd_T60 xs i).f0∧(rd_T60 xs i).f1.length ≤ c1∧(Kd.slice 3 (Kd.int .i64)).C w A1 (rd_T60 xs i).f1.length (rd_T60 xs i).f1:=by
  obtain ⟨ad,c,e,_,hK,hc0⟩:=Kd.C_get h z60 i h0 h1
  have hc:∀ j u,c[j]?=some u → w.cell? (ad.add (i.toNat * 2 + j))=some u:=hc0
  obtain ⟨A0,c0,A1,c1,rfl,l0,g0,l1,g1⟩:=k60_open hK
  exact ⟨ad,A0,c0,A1,c1,e,hc 0 _ rfl,by rw [← add_field _ _ 1 (by omega)];exact hc 1 _ rfl,l0,g0,l1,g1⟩
def rd_L4 (xs:List (List S60)) (i:Int):(List S60):=xs.getD i.toNat ([]:List S60)
theorem at_L4 {w:World} {A:Option Addr} {n:Nat} {xs:List (List S60)} (h:Kd.C (Kd.slice 60 k60) w A n xs) (i:Int) (h0:0 ≤ i) (h1:i < n):∃ ad A0 c0,A=some ad∧w.cell? (ad.add i.toNat)=some (.slice A0 (rd_L4 xs i).length c0)∧(rd_L4 xs i).length ≤ c0∧k60.C w A0 (rd_L4 xs i).length (rd_L4 xs i):=by
  obtain ⟨ad,c,e,_,hK,hc0⟩:=Kd.C_get h ([]:List S60) i h0 h1
  have hc:∀ j u,c[j]?=some u → w.cell? (ad.add (i.toNat * 1 + j))=some u:=hc0
  obtain ⟨A0,c0,rfl,l0,g0⟩:=hK
  exact ⟨ad,A0,c0,e,by have hq:=hc 0 _ rfl;rwa [Nat.mul_one,Nat.add_zero] at hq,l0,g0⟩
/-! #### struct type 102 -/
structure S102 where
  f0:(List S60)
  f1:Bool
def z102:S102:=⟨([]:List S60),false⟩
def k102:Kd S102:=Kd.iso (Kd.pair (Kd.slice 60 k60) Kd.bool) (fun x:S102=>(x.f0,x.f1))
theorem k102_heap:Kd.Heap k102:=Kd.heap_iso _ (Kd.heap_pair (Kd.heap_slice 60 k60_heap) Kd.heap_bool)
theorem k102_open {w:World} {x:S102} {cs:List Value} (h:k102.K w x cs):∃ A0 c0,cs=[.slice A0 x.f0.length c0,.bool x.f1]∧x.f0.length ≤ c0∧k60.C w A0 x.f0.length x.f0:=by
  obtain ⟨_,_,rfl,⟨A0,c0,rfl,l0,g0⟩,rfl⟩:=h
  exact ⟨A0,c0,rfl,l0,g0⟩
theorem k102_openM {w:World} {base:Nat} {ok:Nat → Prop} {x:S102} {cs:List Value} (h:k102.M w base ok x cs):∃ v0,cs=[v0,.bool x.f1]∧k60.R 60 w base ok v0 x.f0:=by
  obtain ⟨_,_,rfl,⟨v0,rfl,g0⟩,rfl⟩:=h
  exact ⟨v0,rfl,g0⟩
theorem k102_mk (w:World) (x:S102) {A0:Option Addr} {c0:Nat} (l0:x.f0.length ≤ c0) (g0:k60.C w A0 x.f0.length x.f0):k102.K w x [.slice A0 x.f0.length c0,.bool x.f1]:=⟨[.slice A0 x.f0.length c0],[.bool x.f1],rfl,⟨A0,c0,rfl,l0,g0⟩,rfl⟩
theorem k102_mkM (w:World) (base:Nat) (ok:Nat → Prop) (x:S102) {v0:Value} (g0:k60.R 60 w base ok v0 x.f0):k102.M w base ok x [v0,.bool x.f1]:=⟨[v0],[.bool x.f1],rfl,⟨v0,rfl,g0⟩,rfl⟩
theorem k102_openF {W:World} {ok:Nat → Prop} {x:S102} {cs:List Value} (h:Kd.FK k102 W ok x cs):∃ A0 c0,cs=[.slice A0 x.f0.length c0,.bool x.f1]∧x.f0.length ≤ c0∧Kd.F k60 W ok A0 x.f0.length x.f0:=by
  obtain ⟨A0,c0,rfl,l0,_⟩:=k102_open (Kd.FK_now h)
  exact ⟨A0,c0,rfl,l0,(fun W' hW=>by obtain ⟨A0_,c0_,he,l0_,g0_⟩:=k102_open (h W' hW);injection (Option.some.inj (show some (Value.slice A0 x.f0.length c0)=some (Value.slice A0_ x.f0.length c0_) from congrArg (fun l=>l[0]?) he)) with ha_ _ _;rw [ha_];exact g0_)⟩
theorem k102_mkF (W:World) (ok:Nat → Prop) (x:S102) {A0:Option Addr} {c0:Nat} (l0:x.f0.length ≤ c0) (g0:Kd.F k60 W ok A0 x.f0.length x.f0):Kd.FK k102 W ok x [.slice A0 x.f0.length c0,.bool x.f1]:=fun W2 hW=>k102_mk W2 x l0 (g0 W2 hW)
def rd_T102 (xs:List S102) (i:Int):S102:=xs.getD i.toNat z102
theorem at_T102 {w:World} {A:Option Addr} {n:Nat} {xs:List S102} (h:Kd.C k102 w A n xs) (i:Int) (h0:0 ≤ i) (h1:i < n):∃ ad A0 c0,A=some ad∧w.cell? (ad.add (i.toNat * 2))=some (.slice A0 (rd_T102 xs i).f0.length c0)∧w.cell? ⟨(ad.add (i.toNat * 2)).block,(ad.add (i.toNat * 2)).off + 1,none⟩=some (.bool (rd_T102 xs i).f1)∧(rd_T102 xs i).f0.length ≤ c0∧k60.C w A0 (rd_T102 xs i).f0.length (rd_T102 xs i).f0:=by
  obtain ⟨ad,c,e,_,hK,hc0⟩:=Kd.C_get h z102 i h0 h1
  have hc:∀ j u,c[j]?=some u → w.cell? (ad.add (i.toNat * 2 + j))=some u:=hc0
  obtain ⟨A0,c0,rfl,l0,g0⟩:=k102_open hK
  exact ⟨ad,A0,c0,e,hc 0 _ rfl,by rw [← add_field _ _ 1 (by omega)];exact hc 1 _ rfl,l0,g0⟩
/-! #### struct type 98 -/
structure S98 where
  f0:Int
  f1:(List Int)
def z98:S98:=⟨(0:Int),([]:List Int)⟩
def k98:Kd S98:=Kd.iso (Kd.pair (Kd.int .u8) (Kd.slice 3 (Kd.int .i64))) (fun x:S98=>(x.f0,x.f1))
theorem k98_heap:Kd.Heap k98:=Kd.heap_iso _ (Kd.heap_pair (Kd.heap_int .u8) (Kd.heap_slice 3 (Kd.heap_int .i64)))
theorem k98_open {w:World} {x:S98} {cs:List Value} (h:k98.K w x cs):∃ A1 c1,cs=[.int .u8 x.f0,.slice A1 x.f1.length c1]∧x.f1.length ≤ c1∧(Kd.int .i64).C w A1 x.f1.length x.f1:=by
  obtain ⟨_,_,rfl,rfl,⟨A1,c1,rfl,l1,g1⟩⟩:=h
  exact ⟨A1,c1,rfl,l1,g1⟩
theorem k98_openM {w:World} {base:Nat} {ok:Nat → Prop} {x:S98} {cs:List Value} (h:k98.M w base ok x cs):∃ v1,cs=[.int .u8 x.f0,v1]∧(Kd.int .i64).R 3 w base ok v1 x.f1:=by
  obtain ⟨_,_,rfl,rfl,⟨v1,rfl,g1⟩⟩:=h
  exact ⟨v1,rfl,g1⟩
theorem k98_mk (w:World) (x:S98) {A1:Option Addr} {c1:Nat} (l1:x.f1.length ≤ c1) (g1:(Kd.int .i64).C w A1 x.f1.length x.f1):k98.K w x [.int .u8 x.f0,.slice A1 x.f1.length c1]:=⟨[.int .u8 x.f0],[.slice A1 x.f1.length c1],rfl,rfl,⟨A1,c1,rfl,l1,g1⟩⟩
theorem k98_mkM (w:World) (base:Nat) (ok:Nat → Prop) (x:S98) {v1:Value} (g1:(Kd.int .i64).R 3 w base ok v1 x.f1):k98.M w base ok x [.int .u8 x.f0,v1]:=⟨[.int .u8 x.f0],[v1],rfl,rfl,⟨v1,rfl,g1⟩⟩
theorem k98_openF {W:World} {ok:Nat → Prop} {x:S98} {cs:List Value} (h:Kd.FK k98 W ok x cs):∃ A1 c1,cs=[.int .u8 x.f0,.slice A1 x.f1.length c1]∧x.f1.length ≤ c1∧Kd.F (Kd.int .i64) W ok A1 x.f1.length x.f1:=by
  obtain ⟨A1,c1,rfl,l1,_⟩:=k98_open (Kd.FK_now h)
  exact ⟨A1,c1,rfl,l1,(fun W' hW=>by obtain ⟨A1_,c1_,he,l1_,g1_⟩:=k98_open (h W' hW);injection (Option.some.inj (show some (Value.slice A1 x.f1.length c1)=some (Value.slice A1_ x.f1.length c1_) from congrArg (fun l=>l[1]?) he)) with ha_ _ _;rw [ha_];exact g1_)⟩
theorem k98_mkF (W:World) (ok:Nat → Prop) (x:S98) {A1:Option Addr} {c1:Nat} (l1:x.f1.length ≤ c1) (g1:Kd.F (Kd.int .i64) W ok A1 x.f1.length x.f1):Kd.FK k98 W ok x [.int .u8 x.f0,.slice A1 x.f1.length c1]:=fun W2 hW=>k98_mk W2 x l1 (g1 W2 hW)
def rd_T98 (xs:List S98) (i:Int):S98:=xs.getD i.toNat z98
theorem at_T98 {w:World} {A:Option Addr} {n:Nat} {xs:List S98} (h:Kd.C k98 w A n xs) (i:Int) (h0:0 ≤ i) (h1:i < n):∃ ad A1 c1,A=some ad∧w.cell? (ad.add (i.toNat * 2))=some (.int .u8 (rd_T98 xs i).f0)∧w.cell? ⟨(ad.add (i.toNat * 2)).block,(ad.add (i.toNat * 2)).off + 1,none⟩=some (.slice A1 (rd_T98 xs i).f1.length c1)∧(rd_T98 xs i).f1.length ≤ c1∧(Kd.int .i64).C w A1 (rd_T98 xs i).f1.length (rd_T98 xs i).f1:=by
  obtain ⟨ad,c,e,_,hK,hc0⟩:=Kd.C_get h z98 i h0 h1
  have hc:∀ j u,c[j]?=some u → w.cell? (ad.add (i.toNat * 2 + j))=some u:=hc0
  obtain ⟨A1,c1,rfl,l1,g1⟩:=k98_open hK
  exact ⟨ad,A1,c1,e,hc 0 _ rfl,by rw [← add_field _ _ 1 (by omega)];exact hc 1 _ rfl,l1,g1⟩
theorem eqlnil23 (a:Option Addr) (l c:Nat) (w:World):(binOp .eql 23 (.slice a l c) (.slice none 0 0)).run Try.prog w=.ok (.bool a.isNone) w:=by
  have h:=run_equal_slice_nil (P:=Try.prog) w 23 _ a l c Try.underlying23
  simp only [binOp]
  simp [h]
theorem neqnil23 (a:Option Addr) (l c:Nat) (w:World):(binOp .neq 23 (.slice a l c) (.slice none 0 0)).run Try.prog w=.ok (.bool (!a.isNone)) w:=by
  have h:=run_equal_slice_nil (P:=Try.prog) w 23 _ a l c Try.underlying23
  simp only [binOp]
  simp [h]
theorem eqlnil58 (a:Option Addr) (l c:Nat) (w:World):(binOp .eql 58 (.slice a l c) (.slice none 0 0)).run Try.prog w=.ok (.bool a.isNone) w:=by
  have h:=run_equal_slice_nil (P:=Try.prog) w 58 _ a l c Try.underlying58
  simp only [binOp]
  simp [h]
theorem neqnil58 (a:Option Addr) (l c:Nat) (w:World):(binOp .neq 58 (.slice a l c) (.slice none 0 0)).run Try.prog w=.ok (.bool (!a.isNone)) w:=by
  have h:=run_equal_slice_nil (P:=Try.prog) w 58 _ a l c Try.underlying58
  simp only [binOp]
  simp [h]
theorem eqGuard_slices (op:BinOp) (t:TypeId) (x y:Operand) (a b:Option Addr) (l c l' c':Nat):eqGuard op t x y (.slice a l c) (.slice b l' c')=pure ():=by cases op <;> rfl
end Go.Proofs.Ytkonljiembcdlaa.PC
