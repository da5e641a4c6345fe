-- Written by pr2.py, a program of this session's, for this claim (through the kit's print).
import Derived.Test.YtgfnmimfoicmmaaPMx0
import Derived.Test.YtgfnmimfoicmmaaPMx1
import Derived.Test.YtgfnmimfoicmmaaPMx3
import Derived.Test.YtgfnmimfoicmmaaPMx4
import Derived.Test.YtgfnmimfoicmmaaPMx5
import Derived.Test.YtgfnmimfoicmmaaPMx6
namespace Go.Proofs.Ytgfnmimfoicmmaa.PM
open Go.Proofs.MyWords Go.RowKit Go.Proofs.YtgfnmimfoicmmaaW.PrintWords Go.Proofs.YtgfnmimfoicmmaaW.PrintLast Go.Proofs.YtgfnmimfoicmmaaW.PrintMore
attribute [local go_sem] max2_int min2_int max_two min_two max_three min_three max_four min_four   -- for this text's walks alone
set_option linter.unusedVariables false
set_option linter.unusedSimpArgs false

attribute [local go_sem] idx67_0 idx67_1 idx67_2 idx67_3
attribute [local go_sem] eqGuard_slices eqlnil36 neqnil36
attribute [local go_sem high] eqA23
/-! ### slices_DeleteFunc_int_int: function 75 -/
/-- A bool function value: called at x in every world that K lets in, it tells p x and lays at most new memory. -/
def TellsK (g:Nat) (lb:Array Value) (p:Int → Bool) (K:World → Prop):Prop :=
  ∀ (W:World) (x:Int),K W → Calls Try.prog g (#[.int .i64 x] ++ lb) W fun e w'=>e=.returned (.bool (p x))∧Below W.heap.size W w'
/-- What the rounds of DeleteFunc know of the row. -/
def DelInv (p:Int → Bool) (l xs:List Int) (i j:Nat):Prop:=xs.length=l.length∧i < j∧j ≤ l.length∧xs.take i=(l.take j).filter (fun x=>!p x)∧xs.drop j=l.drop j
theorem DelInv.read {p:Int → Bool} {l xs:List Int} {i j:Nat} (h:DelInv p l xs i j) (hj:j < l.length):rd xs (j:Int)=rd l (j:Int):=by
  obtain ⟨h1,_,_,_,h5⟩:=h
  have hx:j < xs.length:=by omega
  have e:xs[j]?=l[j]?:=by
    have:=congrArg (fun z=>z[0]?) h5
    simpa [List.getElem?_drop] using this
  simp only [rd,List.getD_eq_getElem?_getD,Int.toNat_natCast,e]
theorem DelInv.skip {p:Int → Bool} {l xs:List Int} {i j:Nat} (h:DelInv p l xs i j) (hj:j < l.length) (hp:p (rd l (j:Int))=true):DelInv p l xs i (j + 1):=by
  obtain ⟨h1,h2,h3,h4,h5⟩:=h
  have e:l[j]?=some (rd l (j:Int)):=by simp [rd,List.getD_eq_getElem?_getD,List.getElem?_eq_getElem hj]
  refine ⟨h1,by omega,by omega,?_,?_⟩
  · rw [List.take_add_one,e,List.filter_append,h4]
    simp [hp]
  · have:=congrArg (List.drop 1) h5
    simpa [List.drop_drop,Nat.add_comm] using this
theorem DelInv.keep {p:Int → Bool} {l xs:List Int} {i j:Nat} (h:DelInv p l xs i j) (hj:j < l.length) (hp:p (rd l (j:Int))=false):DelInv p l (xs.set i (rd l (j:Int))) (i + 1) (j + 1):=by
  obtain ⟨h1,h2,h3,h4,h5⟩:=h
  have e:l[j]?=some (rd l (j:Int)):=by simp [rd,List.getD_eq_getElem?_getD,List.getElem?_eq_getElem hj]
  refine ⟨by simpa using h1,by omega,by omega,?_,?_⟩
  · have hi:i < xs.length:=by omega
    have el:l.take (j + 1)=l.take j ++ [rd l (j:Int)]:=by rw [List.take_add_one,e];rfl
    rw [el,List.filter_append,← h4,List.take_add_one,List.take_set_of_le (Nat.le_refl _)]
    simp [hp,hi]
  · rw [List.drop_set_of_lt (by omega)]
    have:=congrArg (List.drop 1) h5
    simpa [List.drop_drop,Nat.add_comm] using this
theorem DelInv.start {p:Int → Bool} {l:List Int} {k:Nat} (hk:k < l.length) (hp:p (rd l (k:Int))=true) (hb:∀ j,j < k → p (rd l (j:Int))=false):DelInv p l l k (k + 1):=by
  have e:l[k]?=some (rd l (k:Int)):=by simp [rd,List.getD_eq_getElem?_getD,List.getElem?_eq_getElem hk]
  refine ⟨rfl,by omega,by omega,?_,rfl⟩
  rw [List.take_add_one,e,List.filter_append]
  have:(l.take k).filter (fun x=>!p x)=l.take k:=by
    rw [List.filter_eq_self]
    intro x hx
    obtain ⟨j,hj,rfl⟩:=List.getElem_of_mem hx
    have hj2:j < k:=by have:=hj;simp at this;omega
    have:=hb j hj2
    simpa [rd,List.getD_eq_getElem?_getD,List.getElem?_eq_getElem (show j < l.length by omega)] using this
  rw [this]
  simp [hp]
theorem idxF_cases (p:Int → Bool) (l:List Int):(idxF p l=-1∧∀ j,j < l.length → p (rd l (j:Int))=false) ∨ ∃ k,k < l.length∧idxF p l=(k:Int)∧p (rd l (k:Int))=true∧∀ j,j < k → p (rd l (j:Int))=false:=by
  unfold idxF
  rcases h:l.findIdx? p with _|k
  · refine .inl ⟨rfl,fun j hj=>?_⟩
    rw [List.findIdx?_eq_none_iff] at h
    have:=h l[j] (List.getElem_mem hj)
    simpa [rd,List.getD_eq_getElem?_getD,List.getElem?_eq_getElem hj] using this
  · rw [List.findIdx?_eq_some_iff_getElem] at h
    obtain ⟨hk,hp,hb⟩:=h
    refine .inr ⟨k,hk,rfl,?_,fun j hj=>?_⟩
    · simpa [rd,List.getD_eq_getElem?_getD,List.getElem?_eq_getElem hk] using hp
    · have:=hb j hj
      simpa [rd,List.getD_eq_getElem?_getD,List.getElem?_eq_getElem (show j < l.length by omega)] using this
theorem below_cells {b:Nat} {a:World} (hb:a.heap.size ≤ b):∀ (vs:List Value) (o:Nat) (w:World),Below a.heap.size a w → Below a.heap.size a (w.setCells b o vs)
  | [],_,_,h=>h
  | v :: vs,o,w,h=>below_cells hb vs (o + 1) _ (below_set h hb)
theorem del_measure (n j:Nat) (h:j < n) (x:Int) (hx:x=((j + 1:Nat):Int)):n - (intOf (.int .i64 x)).toNat < n - (intOf (.int .i64 (j:Int))).toNat:=by
  subst hx
  simp only [intOf,Int.toNat_natCast]
  omega
set_option maxHeartbeats 2000000 in
set_option maxRecDepth 100000 in
theorem DeleteFunc_int.calls (g:Nat) (lb:Array Value) (p:Int → Bool) (blk F:Nat) (B:List Int) (ok:Nat → Prop) (K:World → Prop) (w0 w:World)
    (hO:Kd.R (Kd.int .i64) 3 w w0.heap.size ok (.slice (some ⟨blk,0,none⟩) B.length F) B) (hne:0 < B.length) (hB:Below w0.heap.size w0 w)
    (eg:∀ args w,(callFunc g args).run Try.prog w=.ok (.enter g args) w) (hT:TellsK g lb p K) (U:K w)
    (hKB:∀ W W',K W → Below W.heap.size W W' → K W') (hKS:∀ W i v,K W → K (W.setCell ⟨blk,i,none⟩ v)) :
    Calls Try.prog 75 #[.slice (some ⟨blk,0,none⟩) B.length F,.func (.func g) #[] lb] w fun e w'=>e=.returned (.slice (some ⟨blk,0,none⟩) (B.filter fun x=>!p x).length F)∧Kd.C (Kd.int .i64) w' (some ⟨blk,0,none⟩) (B.filter fun x=>!p x).length (B.filter fun x=>!p x)∧Below w0.heap.size w0 w':=by
  have hTl:Tells g lb p w:=fun W x hb=>hT W x (hKB w W U hb)
  have HI:=Aside0.mk (IndexFunc_int.calls g lb p (some ⟨blk,0,none⟩) F B w (Kd.R_reads' hO).2.2 (Kd.R_reads' hO).2.1 eg hTl)
  obtain ⟨go_,cap_,eo_,gb_,gl_,_⟩:=Kd.R_form hO hne
  have hblk:w0.heap.size ≤ blk:=by injection eo_ with G;injection G with e2;injection e2 with e3;rw [e3];exact gb_
  clear eo_ gb_ gl_ hTl
  have HO:=Aside0.mk hO
  have I:=Aside0.mk hB
  have HT:=Aside0.mk hT
  have HK:=Aside0.mk U
  have HKB:=Aside0.mk hKB
  have HKS:=Aside0.mk hKS
  have HBK:=Aside0.mk hblk
  have HNE:=Aside0.mk hne
  have HLEN:=Aside0.mk (Kd.R_reads' hO).2.2.2.1
  have HCAP:=Aside0.mk (Kd.R_reads' hO).2.1
  clear hO hB hT U hKB hKS hblk hne
  rcases idxF_cases p B with ⟨G,hall⟩|⟨k0,hk0,G,ht,hb⟩
  · have HF:=Aside0.mk (show (B.filter fun x=>!p x)=B from by
      rw [List.filter_eq_self]
      intro x hx
      obtain ⟨j,hj,rfl⟩:=List.getElem_of_mem hx
      have:=hall j hj
      simpa [rd,List.getD_eq_getElem?_getD,List.getElem?_eq_getElem hj] using this)
    rw [G] at HI
    clear hall G
    rw [HF.1]
    go_enter Try.func75,Try.ntmps75
    go_wp2_with (go_at_call 80;refine HI.1.mono ?_;rintro e V ⟨rfl,D⟩;have E:=Aside0.mk D;clear D)
    go_ret
    exact ⟨rfl,Kd.C_below (Kd.R_reads' HO.1).2.2 E.1,below_step I.1 E.1⟩
  · rw [G] at HI
    have HS:=Aside0.mk (DelInv.start hk0 ht hb)
    have Y:((k0:Int) == -1)=false:=beq_eq_false_iff_ne.mpr (by omega)
    have N:wrap64 ((k0:Int) + 1)=((k0 + 1:Nat):Int):=by have:=HLEN.1;unfold wrap64;omega
    have O:=Aside0.mk N
    clear N ht hb G
    go_enter Try.func75,Try.ntmps75
    go_wp2_with (go_at_call 80;refine HI.1.mono ?_;rintro e V ⟨rfl,D⟩;have E:=Aside0.mk D;clear D)
    go_loopw [5,6,7] (fun Z X v7 w'=>∃ (i j:Nat) (xs:List Int),Z=.int .i64 (i:Int)∧X=.int .i64 (j:Int)∧Aside0 (DelInv p B xs i j)∧Aside0 (Kd.R (Kd.int .i64) 3 w' w0.heap.size ok (.slice (some ⟨blk,0,none⟩) B.length F) xs)∧Aside0 (Below w0.heap.size w0 w')∧Aside0 (K w')) (fun Z X v7 _=>B.length - (intOf X).toNat)
    case atStart=>exact ⟨k0,k0 + 1,B,rfl,by rw [O.1],HS,⟨Kd.R_below HO.1 E.1⟩,⟨below_step I.1 E.1⟩,⟨HKB.1 _ _ HK.1 E.1⟩⟩
    case round =>
      clear HO I HK E HI Y O HS
      obtain ⟨i,j,xs,rfl,rfl,HD,HO,I,HK⟩:=hrel
      have hxl:xs.length=B.length:=HD.1.1
      by_cases hlt:(j:Int) < (B.length:Int)
      · have hjl:j < B.length:=by omega
        have hij:i < j:=HD.1.2.1
        have hx:=(Kd.R_celln 0 HO.1 (j:Int) (by omega) (by omega)).1
        have hcell:wr.cell? ⟨blk,j,none⟩=some (.int .i64 (rd B (j:Int))):=by
          have e:=HD.1.read hjl
          rw [← e]
          simpa [rd,rdOf] using hx
        clear hx
        have hd:decide ((j:Int) < (B.length:Int))=true:=decide_eq_true hlt
        have a0:decide (j < B.length)=true:=decide_eq_true hjl
        have hwj:wrap64 ((j:Int) + 1)=((j + 1:Nat):Int):=by have:=HLEN.1;unfold wrap64;omega
        have hwi:wrap64 ((i:Int) + 1)=((i + 1:Nat):Int):=by have:=HLEN.1;unfold wrap64;omega
        have HWJ:=Aside0.mk hwj
        have HWI:=Aside0.mk hwi
        clear hwj hwi
        by_cases hp:p (rd B (j:Int))=true
        · have L:=Aside0.mk (HD.1.skip hjl hp)
          have HP:=Aside0.mk hp
          clear hp
          go_wp2_with (fail)
          refine (HT.1 _ _ HK.1).mono ?_
          rintro e V ⟨rfl,D⟩
          rw [HP.1]
          have E:=Aside0.mk D
          clear D
          go_wp2
          go_roundw
          case rel=>exact ⟨i,j + 1,xs,rfl,congrArg _ HWJ.1,L,⟨Kd.R_below HO.1 E.1⟩,⟨below_step I.1 E.1⟩,⟨HKB.1 _ _ HK.1 E.1⟩⟩
          case measure=>exact del_measure _ _ hjl _ HWJ.1
        · have hp':=Bool.eq_false_iff.mpr hp
          have L:=Aside0.mk (HD.1.keep hjl hp')
          have HP:=Aside0.mk hp'
          clear hp hp'
          go_wp2_with (fail)
          refine (HT.1 _ _ HK.1).mono ?_
          rintro e V ⟨rfl,D⟩
          rw [HP.1]
          have Q:=Aside0.mk (Kd.R_below HO.1 D)
          have E:=Aside0.mk (below_step I.1 D)
          have a1:=Aside0.mk (HKB.1 _ _ HK.1 D)
          clear D
          have HPUT:=Aside0.mk (Kd.R_putg Q.1 (i:Int) (rd B (j:Int)))
          have hcl:=Kd.R_celln 0 Q.1 (i:Int) (by omega) (by omega)
          obtain ⟨a2,a3⟩:=hcl
          simp only [Int.toNat_natCast] at a2 a3
          have a6:decide ((i:Int) < (B.length:Int))=true:=decide_eq_true (by omega)
          have a7:(i < B.length)=True:=eq_true (by omega)
          go_wp2
          go_roundw
          case rel=>exact ⟨i + 1,j + 1,xs.set i (rd B (j:Int)),congrArg _ HWI.1,congrArg _ HWJ.1,L,⟨by have h:=HPUT.1.1;simp only [Int.toNat_natCast] at h;exact h⟩,⟨by simpa using below_set E.1 HBK.1⟩,⟨by simpa using HKS.1 _ _ _ a1.1⟩⟩
          case measure=>exact del_measure _ _ hjl _ HWJ.1
      · have hj:j=B.length:=by have:=HD.1.2.2.1;omega
        have hi:i < B.length:=by have:=HD.1.2.1;omega
        have hfil:xs.take i=B.filter (fun x=>!p x):=by have:=HD.1.2.2.2.1;rwa [hj,List.take_length] at this
        have hfl:(B.filter fun x=>!p x).length=i:=by rw [← hfil,l1_];omega
        have hd:decide ((j:Int) < (B.length:Int))=false:=decide_eq_false hlt
        have a0:decide (j < B.length)=false:=decide_eq_false (by omega)
        have hcap:=HCAP.1
        obtain ⟨a8,hii,hiz⟩:=Option.map_eq_some_iff.1 info3
        simp only [Prod.mk.injEq] at hiz
        have J:=cut_from (P:=Try.prog) 36 3 .i64 Try.underlying36 hii 1 hiz.2.1 (some ⟨blk,0,none⟩) B.length F (i:Int) (by omega) (by omega)
        have M:=cut_to (P:=Try.prog) 36 3 .i64 Try.underlying36 hii (some ⟨blk,0,none⟩) B.length F (i:Int) (by omega) (by omega) hcap
        have hne:¬ (F=i):=by omega
        simp only [Int.toNat_natCast,if_neg hne,Option.map_some,Nat.mul_one] at J M
        have hadd:(⟨blk,0,none⟩:Addr).add i=⟨blk,i,none⟩:=by simp only [Addr.add,Nat.zero_add];split <;> simp_all
        rw [hadd] at J
        have T:∀ w,(zeroValue 3).run Try.prog w=.ok (.int .i64 0) w:=fun w=>by kernel_rfl
        have hc:∀ q,q < B.length → wr.cell? ⟨blk,q,none⟩=some (.int .i64 (rd xs (q:Int)))∧wr.frozen? ⟨blk,q,none⟩=false:=fun q hq=>by
          have h:=Kd.R_celln 0 HO.1 (q:Int) (by omega) (by omega)
          simpa [rd,rdOf] using h
        have hclr:∀ ty,(Builtin.clear_ #[36] ty #[.slice (some ⟨blk,i,none⟩) (B.length - i) (F - i)]).run Try.prog wr=.ok (.tuple #[]) (wr.setCells blk i (List.replicate (B.length - i) (.int .i64 0))) :=
          fun ty=>Lib.run_clear_slice wr 36 3 ty (.int .i64 0) Try.underlying36 T rfl rfl blk i (B.length - i) (F - i) (by omega) (fun q hq=>by rw [(hc (i + q) (by omega)).1];rfl) (fun q hq=>(hc (i + q) (by omega)).2)
        have HFIN:=Aside0.mk (show Kd.C (Kd.int .i64) (wr.setCells blk i (List.replicate (B.length - i) (.int .i64 0))) (some ⟨blk,0,none⟩) (B.filter fun x=>!p x).length (B.filter fun x=>!p x) from by
          rw [← hfil]
          have hC:=Kd.C_take (m:=i) (Kd.R_reads' HO.1).2.2 (by omega)
          refine ⟨rfl,by have hL:=HLEN.1;rw [l1_];omega,fun _=>⟨⟨blk,0,none⟩,rfl,fun q u hq=>⟨[.int .i64 u],rfl,rfl,fun a b hab=>?_⟩⟩⟩
          have a4:a=0:=by
            cases a with
            | zero=>rfl
            | succ a=>simp at hab
          subst a4
          have hb:b=.int .i64 u:=by simpa using hab.symm
          subst hb
          have hql:q < i:=by have:=(List.getElem?_eq_some_iff.mp hq).1;rw [l1_] at this;omega
          have hu:u=rd xs (q:Int):=by
            rw [List.getElem?_take_of_lt hql] at hq
            simp [rd,List.getD_eq_getElem?_getD,hq]
          have e:(⟨blk,0,none⟩:Addr).add (q * (Kd.int .i64).sz + 0)=⟨blk,q,none⟩:=by
            have hs:(Kd.int .i64).sz=1:=rfl
            rw [hs,Nat.mul_one,Nat.add_zero]
            simp only [Addr.add,Nat.zero_add]
            split <;> simp_all
          rw [e,World.cell?_setCells_out blk _ _ _ ⟨blk,q,none⟩ (fun _ _=>Or.inl hql),(hc q (by omega)).1,hu])
        have HBF:=Aside0.mk (show Below w0.heap.size w0 (wr.setCells blk i (List.replicate (B.length - i) (.int .i64 0))) from below_cells HBK.1 _ _ _ I.1)
        have HFL:=Aside0.mk hfl
        clear hc T hadd hii hiz hfl hfil
        go_wp2_with (simp only [hclr])
        go_ret
        refine ⟨?_,HFIN.1,HBF.1⟩
        rw [HFL.1]
        rfl

/-! ### norm_divisors: function 76 -/
def norm_divisors.l0:Nat → Int → List Int → Int → Option (List Int)
  | 0,_,_,_=>none
  | k + 1,x0,x3,x4=>if x4 ≤ x0 then (if x4=0 then (none) else (if (Int.tmod x0 x4)=0 then (if x3.length < 17592186044416 then (norm_divisors.l0 k x0 (x3 ++ [x4]) (wrap64 (x4 + 1))) else (none)) else (norm_divisors.l0 k x0 x3 (wrap64 (x4 + 1))))) else (some x3)
def norm_divisors.f (k:Nat) (a0:Int):Option (List Int):=norm_divisors.l0 k a0 ([]:List Int) 1
theorem norm_divisors.mono_l:∀ k,(∀ y0 y1 y2,LeO (norm_divisors.l0 k y0 y1 y2) (norm_divisors.l0 (k + 1) y0 y1 y2))
  | 0=>fun _ _ _ r h=>by simp [norm_divisors.l0] at h
  | k + 1=>by
    have ih0:=norm_divisors.mono_l k
    · intro y0 y1 y2
      unfold norm_divisors.l0
      with_reducible repeat' first|exact ih0 _ _ _|exact LeO.refl _|exact LeO.none _|refine LeO.ite ?_ ?_|refine LeO.bind ?_ (fun _=>?_)
theorem norm_divisors.mono:∀ a0 k,LeO (norm_divisors.f k a0) (norm_divisors.f (k + 1) a0):=by
  intro a0 k
  have ih0:=norm_divisors.mono_l k
  unfold norm_divisors.f
  with_reducible repeat' first|exact ih0 _ _ _|exact LeO.refl _|exact LeO.none _|refine LeO.ite ?_ ?_|refine LeO.bind ?_ (fun _=>?_)
set_option maxHeartbeats 8000000 in
set_option maxRecDepth 100000 in
theorem norm_divisors.calls (k:Nat) (F:Int) (r:List Int) (w:World) (h:norm_divisors.f k F=some r) :
    Calls Try.prog 76 #[.int .i64 F] w fun e w'=>∃ O:Value,e=.returned (O)∧Kd.R (Kd.int .i64) 3 w' w.heap.size (fun _=>True) O r∧Below w.heap.size w w':=by
 have D:=mk0 (Below.refl w.heap.size w);have H:(norm_divisors.l0 k F ([]:List Int) 1)=some r:=h;clear h;have H':=mk0 H;clear H;go_enter Try.func76,Try.ntmps76;go_wp2
 go_loopg [3,4] k (fun kq T U w'=>∃ (C:List Int) (B:Int),U=.int .i64 B∧Aside0 (norm_divisors.l0 kq F C B=some r)∧Aside0 (kq ≤ k)∧Aside0 (Kd.R (Kd.int .i64) 3 w' w.heap.size (fun _=>True) T C)∧Aside0 (Below w.heap.size w w'))
 case atStart=>exact ⟨(([]:List Int)),(1),(by first|rfl|(simp;done)|(simp [*];done)),H',⟨Nat.le_refl _⟩,⟨by first|exact Kd.R_nil _ _ _ _ _|exact Kd.N_nil _ _ _ _ _|exact Kd.V_nil _ _ _ _ _|exact Kd.Q_nil _ _ _ _ _|exact Kd.S_nil _ _ _ _ _⟩,⟨by repeat (first|(with_reducible first|exact D.1|apply below_alloc|apply pw_below_drewN|apply below_drew1)|exact D.1)⟩⟩
 case round =>
  clear H';obtain ⟨C,B,rfl,HA,I,G,D⟩:=hrel;cases gk with
  | zero=>exact absurd HA.1 (by simp [norm_divisors.l0])
  | succ k1 =>
   have H:=HA.1;clear HA;simp only [norm_divisors.l0] at H
   by_cases c2:B ≤ F
   ·
    rw [if_pos c2] at H;have c2b0:decide (B ≤ F)=true:=decide_eq_true c2;clear c2
    by_cases c3:B=0
    ·
     rw [if_pos c3] at H;exact absurd H (by simp)
    ·
     rw [if_neg c3] at H;have c3b0:(B == 0)=false:=beq_eq_false_iff_ne.mpr c3;have c3b1:(B != 0)=true:=bne_iff_ne.mpr c3
     by_cases c4:(Int.tmod F B)=0
     ·
      rw [if_pos c4] at H;have c4b0:((Int.tmod F B) == 0)=true:=beq_iff_eq.mpr c4;have c4b1:((Int.tmod F B) != 0)=false:=bne_eq_false_iff_eq.mpr c4;clear c4
      by_cases c5:C.length < 17592186044416
      ·
       rw [if_pos c5] at H;have Q:=mk0 c5;clear c5;obtain ⟨J,E⟩:∃ y_:List Int,y_=(C ++ [B]):=⟨_,rfl⟩
       replace H:(norm_divisors.l0 k1 F J (wrap64 (B + 1)))=some r:=by first|(rw [E];with_reducible exact H)|(have L:=(Option.bind_some _ _).symm.trans H;rw [E];with_reducible exact L)|(have L:=(Option.bind_some _ _).symm.trans H;with_reducible exact L)|with_reducible exact H|(rw [E];exact H)|exact H
       have M:=mk0 E;clear E;have H':=mk0 H;clear H;go_wp2_with (first|((with_reducible refine gate_builtin (b:=.append) (xs:=#[.tmp 14,.tmp 16]) rfl ?_);at_builtin;refine Kd.R_append (Kd.int .i64) (w0:=w) w.heap.size rfl (.tmp 14) (.tmp 16) 36 3 (.int .i64 0) 8 rfl Try.underlying36 info3 rfl (by decide) (by omega) u3 C B [.int .i64 B] (fun _=>True) (fun _=>False) rfl rfl ?aP (fun _ hk=>hk.elim) ?aF ?aO ?aB ?aS ?aL ?_;(case aP=>exact rfl);(case aB=>exact (by repeat (first|(with_reducible first|exact D.1|apply below_alloc|apply pw_below_drewN|apply below_drew1)|exact D.1)));(case aF=>exact (fun _ _=>trivial));(case aO=>exact (by (with_reducible repeat (first|apply Kd.R_alloc|apply Kd.R_drewN|apply Kd.R_drew));exact G.1));(case aS=>exact (below_size (by repeat (first|(with_reducible first|exact D.1|apply below_alloc|apply pw_below_drewN|apply below_drew1)|exact D.1))));(case aL=>have:=Q.1;omega);intro V X ho hb hg hat;rw [← M.1] at ho;have N:=mk0 (ho);replace D:=mk0 (hb);clear G;clear ho hb hg hat));go_roundg k1
       case measure=>have:=I.1;omega
       case rel=>exact ⟨(J),(wrap64 (B + 1)),(by first|rfl|(simp;done)|(simp [*];done)),H',⟨by have:=I.1;omega⟩,⟨by (with_reducible repeat (first|apply Kd.R_alloc|apply Kd.R_drewN|apply Kd.R_drew));exact N.1⟩,⟨by repeat (first|(with_reducible first|exact D.1|apply below_alloc|apply pw_below_drewN|apply below_drew1)|exact D.1)⟩⟩
      ·
       rw [if_neg c5] at H;exact absurd H (by simp)
     ·
      rw [if_neg c4] at H;have c4b0:((Int.tmod F B) == 0)=false:=beq_eq_false_iff_ne.mpr c4;have c4b1:((Int.tmod F B) != 0)=true:=bne_iff_ne.mpr c4;have H':=mk0 H;clear H;go_wp2;go_roundg k1
      case measure=>have:=I.1;omega
      case rel=>exact ⟨(C),(wrap64 (B + 1)),(by first|rfl|(simp;done)|(simp [*];done)),H',⟨by have:=I.1;omega⟩,⟨by (with_reducible repeat (first|apply Kd.R_alloc|apply Kd.R_drewN|apply Kd.R_drew));exact G.1⟩,⟨by repeat (first|(with_reducible first|exact D.1|apply below_alloc|apply pw_below_drewN|apply below_drew1)|exact D.1)⟩⟩
   ·
    rw [if_neg c2] at H;have c2b0:decide (B ≤ F)=false:=decide_eq_false c2;clear c2;obtain rfl:=Option.some.inj H;go_wp2;go_ret;exact ⟨_,by first|rfl|(simp [errW_none,errW_some] <;> rfl)|(simp [*,errW_none,errW_some] <;> rfl),by (with_reducible repeat (first|apply Kd.R_alloc|apply Kd.R_drewN|apply Kd.R_drew));exact G.1,by repeat (first|(with_reducible first|exact D.1|apply below_alloc|apply pw_below_drewN|apply below_drew1)|exact D.1)⟩
/-! ### norm_total: function 61 -/
def sumW (l:List Int):Int:=l.foldl (fun s x=>wrap64 (s + x)) 0
theorem sumW_take (l:List Int) (i:Nat) (hi:i < l.length):wrap64 (sumW (l.take i) + rd l (i:Int))=sumW (l.take (i + 1)):=by
  have e:l.take (i + 1)=l.take i ++ [rd l (i:Int)]:=by
    rw [List.take_add_one]
    simp [rd,List.getD_eq_getElem?_getD,List.getElem?_eq_getElem hi]
  rw [e,sumW,sumW,List.foldl_append]
  rfl
def totalF (k:Nat) (n:Int) (q:Int → Bool):Option Int:=(norm_divisors.f k n).bind fun l=>if l.length=0 then none else some (sumW (l.filter q))
theorem totalF_mono (q:Int → Bool) (n:Int) (k:Nat):LeO (totalF k n q) (totalF (k + 1) n q):=LeO.bind (norm_divisors.mono n k) (fun _=>LeO.refl _)
/-- good, called at x. -/
def Good (gd:Nat) (q:Int → Bool):Prop:=(∀ args w,(callFunc gd args).run Try.prog w=.ok (.enter gd args) w)∧∀ (W:World) (x:Int),Calls Try.prog gd #[.int .i64 x] W fun e w'=>e=.returned (.bool (q x))∧Below W.heap.size W w'
theorem total_tells (gd:Nat) (q:Int → Bool) (B:Nat) (hg:Good gd q):TellsK 77 #[.pointer (some ⟨B,0,none⟩)] (fun x=>!q x) (fun W=>W.cell? ⟨B,0,none⟩=some (.func (.func gd) #[] #[])):=fun W x hc=>by
  have HG:=Aside0.mk hg.2
  have eg:=hg.1
  clear hg
  show Calls Try.prog 77 #[.int .i64 x,.pointer (some ⟨B,0,none⟩)] W (fun e w'=>e=.returned (.bool (!q x))∧Below W.heap.size W w')
  go_enter Try.func77,Try.ntmps77
  go_wp2_with (fail)
  refine (HG.out _ _).mono ?_
  rintro e w1 ⟨rfl,hb⟩
  have HB:=Aside0.mk hb
  clear hb
  go_wp2
  go_ret
  exact ⟨rfl,HB.out⟩
theorem sumW_step (l:List Int) (i:Int) (h0:0 ≤ i) (hi:i < (l.length:Int)) (hL:(l.length:Int) ≤ 9223372036854775807):wrap64 (sumW (l.take i.toNat) + rd l i)=sumW (l.take (wrap64 (i + 1)).toNat)∧wrap64 (i + 1)=i + 1:=by
  have hw:wrap64 (i + 1)=i + 1:=by unfold wrap64;omega
  refine ⟨?_,hw⟩
  rw [hw,show (i + 1).toNat=i.toNat + 1 by omega]
  have:=sumW_take l i.toNat (by omega)
  rwa [Int.toNat_of_nonneg h0] at this
theorem total_measure (n:Nat) (i x:Int) (h0:0 ≤ i) (h:i < (n:Int)) (hx:x=i + 1):n - (intOf (.int .i64 x)).toNat < n - (intOf (.int .i64 i)).toNat:=by
  subst hx
  simp only [intOf]
  omega
set_option maxHeartbeats 1000000 in
set_option maxRecDepth 100000 in
theorem norm_total.calls (gd:Nat) (q:Int → Bool) (hg:Good gd q) (k:Nat) (n r:Int) (w:World) (h:totalF k n q=some r) :
    Calls Try.prog 61 #[.int .i64 n,.func (.func gd) #[] #[]] w fun e w'=>e=.returned (.int .i64 r)∧Below w.heap.size w w':=by
  unfold totalF at h
  obtain ⟨l,hl,h⟩:=Option.bind_eq_some_iff.mp h
  by_cases hne:l.length=0
  · rw [if_pos hne] at h;cases h
  rw [if_neg hne] at h
  obtain rfl:=Option.some.inj h
  clear h
  have HD:=Aside0.mk (norm_divisors.calls k n l (w.alloc (.cells #[.func (.func gd) #[] #[]] 42)) hl)
  have HT:=Aside0.mk (total_tells gd q w.heap.size hg)
  have HNE:=Aside0.mk (show 0 < l.length by omega)
  have F:=Aside0.mk (show (w.alloc (.cells #[.func (.func gd) #[] #[]] 42)).cell? ⟨w.heap.size,0,none⟩=some (.func (.func gd) #[] #[]) by simp)
  have HFL:=Aside0.mk (show (l.filter fun x=>!(!q x))=l.filter q by congr 1;funext x;simp)
  generalize l.filter q=m at *
  clear hl hne hg
  have eg:∀ args w,(callFunc 77 args).run Try.prog w=.ok (.enter 77 args) w:=enters_of Try.func77 (by kernel_rfl) rfl
  have EG:=Aside0.mk eg
  clear eg
  go_enter Try.func61,Try.ntmps61
  go_wp2_with (go_at_call 76;refine HD.1.mono ?_;rintro e G ⟨v,rfl,hR,hb⟩;obtain ⟨blk,cap,rfl,hbase,-⟩:=Kd.R_form hR HNE.1;have I:=Aside0.mk hR;have E:=Aside0.mk hb;have HBS:=Aside0.mk hbase;clear hR hb hbase)
  have hbs:w.heap.size < blk:=by have:=HBS.1;simp at this;omega
  have B:w.heap.size < (w.alloc (.cells #[.func (.func gd) #[] #[]] 42)).heap.size:=by simp
  have J:=Aside0.mk (show G.cell? ⟨w.heap.size,0,none⟩=some (.func (.func gd) #[] #[]) from (E.1.cell B).trans F.1)
  have HDF:=Aside0.mk (DeleteFunc_int.calls 77 #[.pointer (some ⟨w.heap.size,0,none⟩)] (fun x=>!q x) blk cap l (fun _=>True) (fun W=>W.cell? ⟨w.heap.size,0,none⟩=some (.func (.func gd) #[] #[])) _ G I.1 HNE.1 E.1 EG.1 HT.1 J.1
    (fun W W' h hb=>(hb.cell (World.block_lt_of_cell? W _ h)).trans h)
    (fun W i v h=>by exact (World.cell?_setCell_other W _ _ v (by intro e;injection e with e1;omega)).trans h))
  clear hbs B
  rw [HFL.1] at HDF
  refine HDF.1.mono ?_
  rintro e L ⟨rfl,hC,hb⟩
  have HC:=Aside0.mk hC
  have O:=Aside0.mk (show Below w.heap.size w L from ((Below.refl _ _).alloc (Nat.le_refl _) _).trans (hb.mono (by simp)))
  have HLEN:=Aside0.mk hC.2.1
  clear hC hb HDF
  have HSW:=Aside0.mk (show ∀ i:Int,0 ≤ i → i < (m.length:Int) → wrap64 (sumW (m.take i.toNat) + rd m i)=sumW (m.take (wrap64 (i + 1)).toNat)∧wrap64 (i + 1)=i + 1 from fun i Q hi=>sumW_step _ i Q hi (by have:=HLEN.1;omega))
  have HEND:=Aside0.mk (show sumW (m.take m.length)=sumW m by rw [List.take_length])
  go_wp2
  go_loopw [5,7,13] (fun M R C w'=>∃ i:Int,C=.int .i64 i∧M=.int .i64 (sumW (m.take i.toNat))∧Aside0 (0 ≤ i∧i ≤ (m.length:Int))∧w'=L) (fun M R C _=>m.length - (intOf C).toNat)
  case atStart=>exact ⟨0,rfl,rfl,⟨by omega,by omega⟩,rfl⟩
  case round =>
    obtain ⟨i,rfl,rfl,HI,rfl⟩:=hrel
    by_cases hlt:i < (m.length:Int)
    · have D:0 ≤ i:=HI.1.1
      obtain ⟨ad,e,hx⟩:=Kd.at_int HC.1 i D hlt
      cases e
      have ea:(⟨blk,0,none⟩:Addr).add i.toNat=⟨blk,i.toNat,none⟩:=by
        simp only [Addr.add,Nat.zero_add]
        split <;> simp_all
      rw [ea] at hx
      clear ea
      have HS:=Aside0.mk (HSW.1 i D hlt)
      have HM:=Aside0.mk (total_measure m.length i _ D hlt HS.1.2)
      have hd:decide (i < (m.length:Int))=true:=decide_eq_true hlt
      have N:=Aside0.mk (show 0 ≤ wrap64 (i + 1)∧wrap64 (i + 1) ≤ (m.length:Int) by rw [HS.1.2];omega)
      replace D:=eq_true D
      replace hlt:=eq_true hlt
      go_wp2
      go_roundw
      case rel=>exact ⟨_,rfl,congrArg _ HS.1.1,N,trivial⟩
      case measure=>exact HM.1
    · have hd:decide (i < (m.length:Int))=false:=decide_eq_false hlt
      have HF:=Aside0.mk (show sumW (m.take i.toNat)=sumW m by rw [show i.toNat=m.length by have:=HI.1;omega];exact HEND.1)
      clear hlt
      go_wp2
      go_ret
      exact ⟨by rw [HF.1];rfl,O.1⟩

/-! ### total_Count: function 61, with a function value -/
def total_Count.f (k:Nat) (a0:Int):Option (Int):=totalF k a0 (fun d=>!decide (Int.tmod d 4=0))
theorem total_Count.mono:∀ a0 k,LeO (total_Count.f k a0) (total_Count.f (k + 1) a0):=fun a0 k=>totalF_mono _ a0 k
theorem total_Count.good:Good 62 (fun d=>!decide (Int.tmod d 4=0)):=⟨enters_of Try.func62 (by kernel_rfl) rfl,fun W x=>by
  show Calls Try.prog 62 #[.int .i64 x] W (fun e w'=>e=.returned (.bool (!decide (Int.tmod x 4=0)))∧Below W.heap.size W w')
  go_enter Try.func62,Try.ntmps62
  go_wp2
  go_ret
  exact ⟨rfl,Below.refl _ _⟩⟩
theorem total_Count.calls (k:Nat) (a0:Int) (r:Int) (w:World) (h:total_Count.f k a0=some r) :
    Calls Try.prog 61 #[.int .i64 a0,.func (.func 62) #[] #[]] w fun e w'=>e=.returned (.int .i64 r)∧Below w.heap.size w w' :=
  norm_total.calls 62 _ total_Count.good k a0 r w h

/-! ### norm_Count: function 28 -/
def norm_Count.f (k:Nat) (a0:Int):Option (Int × Int):=(norm_counted.f a0 0).bind fun t291=>(if t291=true then (if a0=0 then (some (1,0)) else ((total_Count.f k a0).bind fun t292=>(some (wrap64 (8 * t292),0)))) else (some (0,1)))
theorem norm_Count.mono:∀ a0 k,LeO (norm_Count.f k a0) (norm_Count.f (k + 1) a0):=by
  intro a0 k
  unfold norm_Count.f
  with_reducible repeat' first|exact total_Count.mono _ _|exact LeO.refl _|exact LeO.none _|refine LeO.ite ?_ ?_|refine LeO.bind ?_ (fun _=>?_)
set_option maxHeartbeats 8000000 in
set_option maxRecDepth 100000 in
theorem norm_Count.calls (k:Nat) (B:Int) (F:Int) (G:Int) (w:World) (h:norm_Count.f k B=some (F,G)) :
    Calls Try.prog 28 #[.int .i64 B] w fun e w'=>e=.returned (.tuple #[.int .i64 F,.int .i64 G])∧Below w.heap.size w w':=by
 have D:=mk0 (Below.refl w.heap.size w);have H:((norm_counted.f B 0).bind fun E=>(if E=true then (if B=0 then (some (1,0)) else ((total_Count.f k B).bind fun C=>(some (wrap64 (8 * C),0)))) else (some (0,1))))=some (F,G):=h;clear h;replace H:=Option.bind_eq_some_iff.mp H;obtain ⟨E,L,H⟩:=H;(try dsimp only at H);have N:=mk0 L;clear L
 by_cases J:E=true
 ·
  subst J;have I:(if B=0 then (some (1,0)) else ((total_Count.f k B).bind fun C=>(some (wrap64 (8 * C),0))))=some (F,G):=by rw [if_pos rfl] at H;exact H
  clear H;have H:=I;clear I
  by_cases c4:B=0
  ·
   rw [if_pos c4] at H;have c4b0:(B == 0)=true:=beq_iff_eq.mpr c4;have c4b1:(B != 0)=false:=bne_eq_false_iff_eq.mpr c4;clear c4;simp only [Option.some.injEq,Prod.mk.injEq] at H;obtain ⟨rfl,rfl⟩:=H;go_enter Try.func28,Try.ntmps28;go_wp2_with (first|((with_reducible refine gate_callee (f:=57) rfl ?_);refine goesL_ (some 6) rfl rfl Try.func57 (by kernel_rfl) rfl #[.int .i64 B,.int .i64 0] rfl (by (try simp only [m0_,m1_,m2_]);first|done|rfl|(simp only [l0_,l1_];rfl)) ?_;(with_reducible refine (norm_counted.calls B 0 true _ N.1).mono ?_);rintro e w' ⟨rfl,⟨nd,rfl⟩⟩;refine ⟨_,rfl,?_⟩));go_ret2;exact ⟨by first|rfl|(simp [errW_none,errW_some] <;> rfl)|(simp [*,errW_none,errW_some] <;> rfl),by repeat (first|(with_reducible first|exact D.1|apply below_alloc|apply pw_below_drewN|apply below_drew1)|exact D.1)⟩
  ·
   rw [if_neg c4] at H;have c4b0:(B == 0)=false:=beq_eq_false_iff_ne.mpr c4;have c4b1:(B != 0)=true:=bne_iff_ne.mpr c4;replace H:=Option.bind_eq_some_iff.mp H;obtain ⟨C,M,H⟩:=H;(try dsimp only at H);have O:=mk0 M;clear M;simp only [Option.some.injEq,Prod.mk.injEq] at H;obtain ⟨rfl,rfl⟩:=H;go_enter Try.func28,Try.ntmps28;go_wp2_with (first|((with_reducible refine gate_callee (f:=57) rfl ?_);refine goesL_ (some 6) rfl rfl Try.func57 (by kernel_rfl) rfl #[.int .i64 B,.int .i64 0] rfl (by (try simp only [m0_,m1_,m2_]);first|done|rfl|(simp only [l0_,l1_];rfl)) ?_;(with_reducible refine (norm_counted.calls B 0 true _ N.1).mono ?_);rintro e w' ⟨rfl,⟨nd,rfl⟩⟩;refine ⟨_,rfl,?_⟩)|((with_reducible refine gate_callee (f:=61) rfl ?_);refine goesL_ (some 12) rfl rfl Try.func61 (by kernel_rfl) rfl #[.int .i64 B,.func (.func 62) #[] #[]] rfl (by (try simp only [m0_,m1_,m2_]);first|done|rfl|(simp only [l0_,l1_];rfl)) ?_;(with_reducible refine (total_Count.calls k B C _ O.1).mono ?_);rintro e Q ⟨rfl,hb⟩;refine ⟨_,rfl,?_⟩;replace D:=mk0 (below_step (by repeat (first|(with_reducible first|exact D.1|apply below_alloc|apply pw_below_drewN|apply below_drew1)|exact D.1)) hb);(try clear hb)));go_ret2;exact ⟨by first|rfl|(simp [errW_none,errW_some] <;> rfl)|(simp [*,errW_none,errW_some] <;> rfl),by repeat (first|(with_reducible first|exact D.1|apply below_alloc|apply pw_below_drewN|apply below_drew1)|exact D.1)⟩
 ·
  replace J:=Bool.eq_false_iff.mpr J;subst J;have I:(some (0,1))=some (F,G):=by rw [if_neg (show ¬ (false=true) by decide)] at H;exact H
  clear H;have H:=I;clear I;simp only [Option.some.injEq,Prod.mk.injEq] at H;obtain ⟨rfl,rfl⟩:=H;go_enter Try.func28,Try.ntmps28;go_wp2_with (first|((with_reducible refine gate_callee (f:=57) rfl ?_);refine goesL_ (some 6) rfl rfl Try.func57 (by kernel_rfl) rfl #[.int .i64 B,.int .i64 0] rfl (by (try simp only [m0_,m1_,m2_]);first|done|rfl|(simp only [l0_,l1_];rfl)) ?_;(with_reducible refine (norm_counted.calls B 0 false _ N.1).mono ?_);rintro e w' ⟨rfl,⟨nd,rfl⟩⟩;refine ⟨_,rfl,?_⟩));go_ret2;exact ⟨by first|rfl|(simp [errW_none,errW_some] <;> rfl)|(simp [*,errW_none,errW_some] <;> rfl),by repeat (first|(with_reducible first|exact D.1|apply below_alloc|apply pw_below_drewN|apply below_drew1)|exact D.1)⟩
/-! ### total_Hurwitz: function 61, with a function value -/
def total_Hurwitz.f (k:Nat) (a0:Int):Option (Int):=totalF k a0 (fun d=>decide (Int.tmod d 2=1))
theorem total_Hurwitz.mono:∀ a0 k,LeO (total_Hurwitz.f k a0) (total_Hurwitz.f (k + 1) a0):=fun a0 k=>totalF_mono _ a0 k
theorem total_Hurwitz.good:Good 63 (fun d=>decide (Int.tmod d 2=1)):=⟨enters_of Try.func63 (by kernel_rfl) rfl,fun W x=>by
  show Calls Try.prog 63 #[.int .i64 x] W (fun e w'=>e=.returned (.bool (decide (Int.tmod x 2=1)))∧Below W.heap.size W w')
  go_enter Try.func63,Try.ntmps63
  go_wp2
  go_ret
  exact ⟨rfl,Below.refl _ _⟩⟩
theorem total_Hurwitz.calls (k:Nat) (a0:Int) (r:Int) (w:World) (h:total_Hurwitz.f k a0=some r) :
    Calls Try.prog 61 #[.int .i64 a0,.func (.func 63) #[] #[]] w fun e w'=>e=.returned (.int .i64 r)∧Below w.heap.size w w' :=
  norm_total.calls 63 _ total_Hurwitz.good k a0 r w h

/-! ### norm_Hurwitz: function 29 -/
def norm_Hurwitz.f (k:Nat) (a0:Int):Option (Int × Int):=(norm_counted.f a0 1).bind fun t293=>(if t293=true then ((total_Hurwitz.f k a0).bind fun t294=>(some (wrap64 (24 * t294),0))) else (some (0,1)))
theorem norm_Hurwitz.mono:∀ a0 k,LeO (norm_Hurwitz.f k a0) (norm_Hurwitz.f (k + 1) a0):=by
  intro a0 k
  unfold norm_Hurwitz.f
  with_reducible repeat' first|exact total_Hurwitz.mono _ _|exact LeO.refl _|exact LeO.none _|refine LeO.ite ?_ ?_|refine LeO.bind ?_ (fun _=>?_)
set_option maxHeartbeats 8000000 in
set_option maxRecDepth 100000 in
theorem norm_Hurwitz.calls (k:Nat) (B:Int) (F:Int) (G:Int) (w:World) (h:norm_Hurwitz.f k B=some (F,G)) :
    Calls Try.prog 29 #[.int .i64 B] w fun e w'=>e=.returned (.tuple #[.int .i64 F,.int .i64 G])∧Below w.heap.size w w':=by
 have D:=mk0 (Below.refl w.heap.size w);have H:((norm_counted.f B 1).bind fun E=>(if E=true then ((total_Hurwitz.f k B).bind fun C=>(some (wrap64 (24 * C),0))) else (some (0,1))))=some (F,G):=h;clear h;replace H:=Option.bind_eq_some_iff.mp H;obtain ⟨E,L,H⟩:=H;(try dsimp only at H);have N:=mk0 L;clear L
 by_cases J:E=true
 ·
  subst J;have I:((total_Hurwitz.f k B).bind fun C=>(some (wrap64 (24 * C),0)))=some (F,G):=by rw [if_pos rfl] at H;exact H
  clear H;have H:=I;clear I;replace H:=Option.bind_eq_some_iff.mp H;obtain ⟨C,M,H⟩:=H;(try dsimp only at H);have O:=mk0 M;clear M;simp only [Option.some.injEq,Prod.mk.injEq] at H;obtain ⟨rfl,rfl⟩:=H;go_enter Try.func29,Try.ntmps29;go_wp2_with (first|((with_reducible refine gate_callee (f:=57) rfl ?_);refine goesL_ (some 5) rfl rfl Try.func57 (by kernel_rfl) rfl #[.int .i64 B,.int .i64 1] rfl (by (try simp only [m0_,m1_,m2_]);first|done|rfl|(simp only [l0_,l1_];rfl)) ?_;(with_reducible refine (norm_counted.calls B 1 true _ N.1).mono ?_);rintro e w' ⟨rfl,⟨nd,rfl⟩⟩;refine ⟨_,rfl,?_⟩)|((with_reducible refine gate_callee (f:=61) rfl ?_);refine goesL_ (some 8) rfl rfl Try.func61 (by kernel_rfl) rfl #[.int .i64 B,.func (.func 63) #[] #[]] rfl (by (try simp only [m0_,m1_,m2_]);first|done|rfl|(simp only [l0_,l1_];rfl)) ?_;(with_reducible refine (total_Hurwitz.calls k B C _ O.1).mono ?_);rintro e Q ⟨rfl,hb⟩;refine ⟨_,rfl,?_⟩;replace D:=mk0 (below_step (by repeat (first|(with_reducible first|exact D.1|apply below_alloc|apply pw_below_drewN|apply below_drew1)|exact D.1)) hb);(try clear hb)));go_ret2;exact ⟨by first|rfl|(simp [errW_none,errW_some] <;> rfl)|(simp [*,errW_none,errW_some] <;> rfl),by repeat (first|(with_reducible first|exact D.1|apply below_alloc|apply pw_below_drewN|apply below_drew1)|exact D.1)⟩
 ·
  replace J:=Bool.eq_false_iff.mpr J;subst J;have I:(some (0,1))=some (F,G):=by rw [if_neg (show ¬ (false=true) by decide)] at H;exact H
  clear H;have H:=I;clear I;simp only [Option.some.injEq,Prod.mk.injEq] at H;obtain ⟨rfl,rfl⟩:=H;go_enter Try.func29,Try.ntmps29;go_wp2_with (first|((with_reducible refine gate_callee (f:=57) rfl ?_);refine goesL_ (some 5) rfl rfl Try.func57 (by kernel_rfl) rfl #[.int .i64 B,.int .i64 1] rfl (by (try simp only [m0_,m1_,m2_]);first|done|rfl|(simp only [l0_,l1_];rfl)) ?_;(with_reducible refine (norm_counted.calls B 1 false _ N.1).mono ?_);rintro e w' ⟨rfl,⟨nd,rfl⟩⟩;refine ⟨_,rfl,?_⟩));go_ret2;exact ⟨by first|rfl|(simp [errW_none,errW_some] <;> rfl)|(simp [*,errW_none,errW_some] <;> rfl),by repeat (first|(with_reducible first|exact D.1|apply below_alloc|apply pw_below_drewN|apply below_drew1)|exact D.1)⟩
/-! ### norm_Mul: function 38 -/
def norm_Mul.f (k:Nat) (a0_0:Int) (a0_1:Int) (a0_2:Int) (a0_3:Int) (a1_0:Int) (a1_1:Int) (a1_2:Int) (a1_3:Int):Option (Int × Int × Int × Int × Int):=(norm_check.f k (([(⟨a0_0,a0_1,a0_2,a0_3⟩:S23),(⟨a1_0,a1_1,a1_2,a1_3⟩:S23)]:List (S23)))).bind fun t301=>(if t301=0 then ((norm_of.f a0_0 a0_1 a0_2 a0_3).bind fun bt302=>((norm_of.f a1_0 a1_1 a1_2 a1_3).bind fun bt306=>((norm_product.f k (([(⟨bt302.1,bt302.2.1,bt302.2.2.1,bt302.2.2.2⟩:S67),(⟨bt306.1,bt306.2.1,bt306.2.2.1,bt306.2.2.2⟩:S67)]:List (S67)))).bind fun bt313=>((norm_quat_api.f bt313.1 bt313.2.1 bt313.2.2.1 bt313.2.2.2).bind fun bt317=>(some (bt317.1,bt317.2.1,bt317.2.2.1,bt317.2.2.2,0)))))) else (some (0,0,0,0,t301)))
theorem norm_Mul.mono:∀ a0 a1 a2 a3 a4 a5 a6 a7 k,LeO (norm_Mul.f k a0 a1 a2 a3 a4 a5 a6 a7) (norm_Mul.f (k + 1) a0 a1 a2 a3 a4 a5 a6 a7):=by
  intro a0 a1 a2 a3 a4 a5 a6 a7 k
  unfold norm_Mul.f
  with_reducible repeat' first|exact norm_check.mono _ _|exact norm_product.mono _ _|exact LeO.refl _|exact LeO.none _|refine LeO.ite ?_ ?_|refine LeO.bind ?_ (fun _=>?_)
def norm_Mul.T4:Bool × List (List Nat × List Nat):=(true,[([],[]),([0],[0]),([],[]),([2,1],[2]),([1,3],[1,3]),([4,3],[4]),([5,5],[5]),([6,6,0,1,2,3,4,5,6],[6]),([7,0,1,2,3,4,5,6,7],[])])
def norm_Mul.B4:List Nat:=[0,1,0,7,15,31,63,127,255]
theorem norm_Mul.tab4:rtab .any (opsOf Try.f38 4)=norm_Mul.T4:=by kernel_rfl
theorem norm_Mul.bits4:waitsOk norm_Mul.T4.2 norm_Mul.B4=true:=by kernel_rfl
set_option maxHeartbeats 8000000 in
set_option maxRecDepth 100000 in
theorem norm_Mul.calls (k:Nat) (F:Int) (G:Int) (I:Int) (J:Int) (L:Int) (O:Int) (Q:Int) (R:Int) (r1:Int) (r2:Int) (r3:Int) (r4:Int) (r5:Int) (w:World) (h:norm_Mul.f k F G I J L O Q R=some (r1,r2,r3,r4,r5)) :
    Calls Try.prog 38 #[.agg #[.int .i64 F,.int .i64 G,.int .i64 I,.int .i64 J],.agg #[.int .i64 L,.int .i64 O,.int .i64 Q,.int .i64 R]] w fun e w'=>e=.returned (.tuple #[.agg #[.int .i64 r1,.int .i64 r2,.int .i64 r3,.int .i64 r4],.int .i64 r5])∧Below w.heap.size w w':=by
 have o2:=Try.underlying23;have T:=mk0 (Below.refl w.heap.size w);have H:((norm_check.f k (([(⟨F,G,I,J⟩:S23),(⟨L,O,Q,R⟩:S23)]:List (S23)))).bind fun a1=>(if a1=0 then ((norm_of.f F G I J).bind fun a2=>((norm_of.f L O Q R).bind fun a3=>((norm_product.f k (([(⟨a2.1,a2.2.1,a2.2.2.1,a2.2.2.2⟩:S67),(⟨a3.1,a3.2.1,a3.2.2.1,a3.2.2.2⟩:S67)]:List (S67)))).bind fun Y=>((norm_quat_api.f Y.1 Y.2.1 Y.2.2.1 Y.2.2.2).bind fun Z=>(some (Z.1,Z.2.1,Z.2.2.1,Z.2.2.2,0)))))) else (some (0,0,0,0,a1))))=some (r1,r2,r3,r4,r5):=h;clear h;obtain ⟨c7,c1⟩:∃ y_:List (S23),y_=(([(⟨F,G,I,J⟩:S23),(⟨L,O,Q,R⟩:S23)]:List (S23))):=⟨_,rfl⟩
 replace H:((norm_check.f k c7).bind fun a1=>(if a1=0 then ((norm_of.f F G I J).bind fun a2=>((norm_of.f L O Q R).bind fun a3=>((norm_product.f k (([(⟨a2.1,a2.2.1,a2.2.2.1,a2.2.2.2⟩:S67),(⟨a3.1,a3.2.1,a3.2.2.1,a3.2.2.2⟩:S67)]:List (S67)))).bind fun Y=>((norm_quat_api.f Y.1 Y.2.1 Y.2.2.1 Y.2.2.2).bind fun Z=>(some (Z.1,Z.2.1,Z.2.2.1,Z.2.2.2,0)))))) else (some (0,0,0,0,a1))))=some (r1,r2,r3,r4,r5):=by first|(rw [c1];with_reducible exact H)|(have c8:=(Option.bind_some _ _).symm.trans H;rw [c1];with_reducible exact c8)|(have c8:=(Option.bind_some _ _).symm.trans H;with_reducible exact c8)|with_reducible exact H|(rw [c1];exact H)|exact H
 have c6:=mk0 c1;clear c1;replace H:=Option.bind_eq_some_iff.mp H;obtain ⟨a1,f4,H⟩:=H;(try dsimp only at H);have A3:=mk0 f4;clear f4
 by_cases c4:a1=0
 ·
  rw [if_pos c4] at H;have c4b0:(a1 == 0)=true:=beq_iff_eq.mpr c4;have c4b1:(a1 != 0)=false:=bne_eq_false_iff_eq.mpr c4;clear c4;replace H:=Option.bind_eq_some_iff.mp H;obtain ⟨⟨b3,b4,b5,b6⟩,f5,H⟩:=H;(try dsimp only at H);have A5:=mk0 f5;clear f5;replace H:=Option.bind_eq_some_iff.mp H;obtain ⟨⟨b7,b8,b9,c0⟩,f6,H⟩:=H;(try dsimp only at H);have A6:=mk0 f6;clear f6;obtain ⟨e0,c2⟩:∃ y_:List (S67),y_=(([(⟨b3,b4,b5,b6⟩:S67),(⟨b7,b8,b9,c0⟩:S67)]:List (S67))):=⟨_,rfl⟩
  replace H:((norm_product.f k e0).bind fun Y=>((norm_quat_api.f Y.1 Y.2.1 Y.2.2.1 Y.2.2.2).bind fun Z=>(some (Z.1,Z.2.1,Z.2.2.1,Z.2.2.2,0))))=some (r1,r2,r3,r4,r5):=by first|(rw [c2];with_reducible exact H)|(have c8:=(Option.bind_some _ _).symm.trans H;rw [c2];with_reducible exact c8)|(have c8:=(Option.bind_some _ _).symm.trans H;with_reducible exact c8)|with_reducible exact H|(rw [c2];exact H)|exact H
  have e6:=mk0 c2;clear c2;replace H:=Option.bind_eq_some_iff.mp H;obtain ⟨⟨e1,e2,e3,e4⟩,f7,H⟩:=H;(try dsimp only at H);have A7:=mk0 f7;clear f7;replace H:=Option.bind_eq_some_iff.mp H;obtain ⟨⟨c9,d3,e5,f2⟩,f8,H⟩:=H;(try dsimp only at H);have A8:=mk0 f8;clear f8;simp only [Option.some.injEq,Prod.mk.injEq] at H;obtain ⟨rfl,rfl,rfl,rfl,rfl⟩:=H;go_enter Try.func38,Try.ntmps38;try go_wp2_with (first|((with_reducible refine gate_dst (N:=2) rfl ?_);refine box_event ?hg (N:=2) ?hd (cs:=#[.int .i64 F,.int .i64 G,.int .i64 I,.int .i64 J]) (t:=23) ?hr ?_;(case hd=>rfl);(case hg=>rfl);(case hr=>first|(go_simp;done)|(go_simp;rfl));intro a6 hg w9 a0 hb;have B:=mk0 (a0);have d4:=szw hg T;have d5:=d4;replace T:=bst T hb;clear hb a0 hg)|((with_reducible refine gate_dst (N:=3) rfl ?_);refine box_event ?hg (N:=3) ?hd (cs:=#[.int .i64 L,.int .i64 O,.int .i64 Q,.int .i64 R]) (t:=23) ?hr ?_;(case hd=>rfl);(case hg=>rfl);(case hr=>first|(go_simp;done)|(go_simp;rfl));intro a7 hg q0 a0 hb;have C:=mk0 (a0);have d6:=szw hg T;have d7:=d6;have a9:=nlt hg B;have b0:=ngt hg B;replace B:=bkb B hb;replace T:=bst T hb;clear hb a0 hg)|((with_reducible refine gate_dst (N:=4) rfl ?_);refine box_event ?hg (N:=4) ?hd (cs:=#[.int .i64 0,.int .i64 0,.int .i64 0,.int .i64 0]) (t:=23) ?hr ?_;(case hd=>rfl);(case hg=>rfl);(case hr=>first|(go_simp;done)|(go_simp;rfl));intro c3 hg q1 a0 hb;have D:=mk0 (a0);have d8:=szw hg T;have d9:=d8;have V:=nlt hg B;have a4:=ngt hg B;have X:=nlt hg C;have a5:=ngt hg C;replace B:=bkb B hb;replace C:=bkb C hb;replace T:=bst T hb;clear hb a0 hg;have m6:=a9.1;have m7:=b0.1;have m8:=V.1;have m9:=a4.1;have g9:=q0_ B;have h0:=q1_ B;have h1:=q2_ B;have h2:=q3_ B;have h3:=blk_frozen B.1 0;have h4:=blk_frozen B.1 1;have h5:=blk_frozen B.1 2;have h6:=blk_frozen B.1 3;have n0:=X.1;have n1:=a5.1;have h7:=q0_ C;have h8:=q1_ C;have h9:=q2_ C;have i0:=q3_ C;have i1:=blk_frozen C.1 0;have i2:=blk_frozen C.1 1;have i3:=blk_frozen C.1 2;have i4:=blk_frozen C.1 3)|((with_reducible refine gate_dst (N:=9) rfl ?_);refine Kd.R_lit k23 _ 23 ?hg (N:=9) ?hd (xs:=([(⟨F,G,I,J⟩:S23),(⟨L,O,Q,R⟩:S23)]:List (S23))) (inner:=[.int .i64 F,.int .i64 G,.int .i64 I,.int .i64 J,.int .i64 L,.int .i64 O,.int .i64 Q,.int .i64 R]) (ok:=fun _=>True) (okp:=fun _=>True) ?hr ?hp (fun _ hk=>hk) trivial (Below.refl _ _) (Nat.le_refl _) (by simp) ?_;(case hd=>rfl);(case hg=>rfl);(case hr=>first|(go_simp;done)|(go_simp;rfl));(case hp=>exact (Reps.c4 (show Kd.M k23 _ _ _ (⟨F,G,I,J⟩:S23) [.int .i64 F,.int .i64 G,.int .i64 I,.int .i64 J] from (k23_mkM _ _ _ (⟨F,G,I,J⟩:S23) )) (Reps.c4 (show Kd.M k23 _ _ _ (⟨L,O,Q,R⟩:S23) [.int .i64 L,.int .i64 O,.int .i64 Q,.int .i64 R] from (k23_mkM _ _ _ (⟨L,O,Q,R⟩:S23) )) (Reps.none _ _))));intro g0 q2 d0 hb hg_ c5;clear hg_ c5;(first|rw [← c6.1] at d0|(simp only [Int.reduceToNat] at d0;rw [← c6.1] at d0));have E:=mk0 (Kd.R_lower (Kd.R_newB (Kd.R_newB (Kd.R_newB d0 (g:=a6) (o:=.cells #[.int .i64 F,.int .i64 G,.int .i64 I,.int .i64 J] 23 (0,0)) B.1) (g:=a7) (o:=.cells #[.int .i64 L,.int .i64 O,.int .i64 Q,.int .i64 R] 23 (0,0)) C.1) (g:=c3) (o:=.cells #[.int .i64 0,.int .i64 0,.int .i64 0,.int .i64 0] 23 (0,0)) D.1) (below_size T.1));replace B:=bkb B hb;replace C:=bkb C hb;replace D:=bkb D hb;replace T:=bst T hb;clear hb d0;obtain ⟨g1,g2,g3⟩:=Kd.R_slice E.1;subst g3)|((with_reducible refine gate_callee (f:=47) rfl ?_);refine goesL_ (some 10) rfl rfl Try.func47 (by kernel_rfl) rfl #[.slice g1 c7.length g2] rfl (by (try simp only [m0_,m1_,m2_]);first|done|rfl|(simp only [l0_,l1_];rfl)) ?_;(with_reducible refine (norm_check.calls k _ _ c7 a1 _ ?side1 ?side2 A3.1).mono ?_);(case side1=>repeat (first|exact (Kd.R_reads' E.1).2.2|(with_reducible refine Kd.C_alloc ?_ _)|(with_reducible refine Kd.C_drewN ?_ _)|(with_reducible refine Kd.C_drew ?_)));(case side2=>exact (Kd.R_reads' E.1).2.1);rintro e m4 ⟨rfl,hb⟩;refine ⟨_,rfl,?_⟩;replace E:=rbl E hb;replace B:=bkb B hb;replace C:=bkb C hb;replace D:=bkb D hb;replace T:=bst T hb;(try clear hb);(try clear hk)))
  replace E:=rdr E;replace B:=bdr B;replace C:=bdr C;replace D:=bdr D;replace T:=hdr T;refine start_ (n:=9) (S:=fun w'=>w'.cell? ⟨a6,0,none⟩=some (.int .i64 F)∧w'.cell? ⟨a6,1,none⟩=some (.int .i64 G)∧w'.cell? ⟨a6,2,none⟩=some (.int .i64 I)∧w'.cell? ⟨a6,3,none⟩=some (.int .i64 J)∧w'.cell? ⟨a7,0,none⟩=some (.int .i64 L)∧w'.cell? ⟨a7,1,none⟩=some (.int .i64 O)∧w'.cell? ⟨a7,2,none⟩=some (.int .i64 Q)∧w'.cell? ⟨a7,3,none⟩=some (.int .i64 R)) (ds:=[]) #[n_,n_,n_,n_,n_,n_,n_,n_,n_] (by kernel_rfl) rfl rfl ⟨q0_ B,q1_ B,q2_ B,q3_ B,q0_ C,q1_ C,q2_ C,q3_ C⟩ (fun U=>?_);refine with_tabW norm_Mul.tab4 norm_Mul.bits4 (fun b2 f9=>?_);generalize m4.drew=q3 at E B C D T U ⊢;refine take_ (i:=0) (N:=some 15) (v:=?_) (a':=?_) #[y_,n_,n_,n_,n_,n_,n_,n_,n_] rfl rfl (take_ofW b2.1 f9.1 (by kernel_rfl)) (fun _ _ _ h=>h) (Or.inl ⟨by rfl,?_⟩) U ?_ ?_;rotate_left
  ·
   rintro w' ⟨s0,s1,s2,s3,s4,s5,s6,s7⟩;go_simp;with_reducible rfl
  rotate_left
  ·
   simp only [Act.put,s0_,s1_,s2_,i64_w,i32_w];rfl
  refine take_ (i:=2) (N:=some 17) (v:=?_) (a':=?_) #[y_,n_,y_,n_,n_,n_,n_,n_,n_] rfl rfl (take_ofW b2.1 f9.1 (by kernel_rfl)) (fun _ _ _ h=>h) (Or.inl ⟨by rfl,?_⟩) U ?_ ?_;rotate_left
  ·
   rintro w' ⟨s0,s1,s2,s3,s4,s5,s6,s7⟩;go_simp;with_reducible rfl
  rotate_left
  ·
   simp only [Act.put,s0_,s1_,s2_,i64_w,i32_w];rfl
  refine one_ (i:=1) (N:=some 16) #[y_,y_,y_,n_,n_,n_,n_,n_,n_] rfl rfl (one_of b2.1 (by kernel_rfl)) (by decide) (fun K hK=>?_);refine goes_ Try.func48 (by kernel_rfl) rfl #[.agg #[.int .i64 F,.int .i64 G,.int .i64 I,.int .i64 J]] (by rfl) rfl rfl (by (try simp only [m0_,m1_,m2_]);first|done|rfl|(simp only [l0_,l1_];rfl)) ?_;with_reducible refine (norm_of.calls F G I J b3 b4 b5 b6 _ A5.1).mono ?_
  rintro e q4 ⟨rfl,hb⟩;refine ⟨_,rfl,?_⟩;replace E:=rbl E hb;replace B:=bkb B hb;replace C:=bkb C hb;replace D:=bkb D hb;replace T:=bst T hb;(try clear hb);(try clear hb2);(try clear hk);refine hK.out _ _ ⟨q0_ B,q1_ B,q2_ B,q3_ B,q0_ C,q1_ C,q2_ C,q3_ C⟩ (fun U=>?_);clear hK K;refine norm_ (a':=?_) ?_ ?_;rotate_left
  ·
   show Act.put _ (some 16) _=_;simp only [Act.put,s0_,s1_,s2_,i64_w,i32_w];rfl
  refine one_ (i:=3) (N:=some 18) #[y_,y_,y_,y_,n_,n_,n_,n_,n_] rfl rfl (one_of b2.1 (by kernel_rfl)) (by decide) (fun K hK=>?_);refine goes_ Try.func48 (by kernel_rfl) rfl #[.agg #[.int .i64 L,.int .i64 O,.int .i64 Q,.int .i64 R]] (by rfl) rfl rfl (by (try simp only [m0_,m1_,m2_]);first|done|rfl|(simp only [l0_,l1_];rfl)) ?_;with_reducible refine (norm_of.calls L O Q R b7 b8 b9 c0 _ A6.1).mono ?_
  rintro e q5 ⟨rfl,hb⟩;refine ⟨_,rfl,?_⟩;replace E:=rbl E hb;replace B:=bkb B hb;replace C:=bkb C hb;replace D:=bkb D hb;replace T:=bst T hb;(try clear hb);refine hK.out _ _ ⟨q0_ B,q1_ B,q2_ B,q3_ B,q0_ C,q1_ C,q2_ C,q3_ C⟩ (fun U=>?_);clear hK K;refine norm_ (a':=?_) ?_ ?_;rotate_left
  ·
   show Act.put _ (some 18) _=_;simp only [Act.put,s0_,s1_,s2_,i64_w,i32_w];rfl
  refine one_ (i:=4) (N:=some 19) #[y_,y_,y_,y_,y_,n_,n_,n_,n_] rfl rfl (one_of b2.1 (by kernel_rfl)) (by decide) (fun K hK=>?_);refine Kd.R_lit_step k67 _ 67 ?hg (N:=19) ?hd (xs:=([(⟨b3,b4,b5,b6⟩:S67),(⟨b7,b8,b9,c0⟩:S67)]:List (S67))) (inner:=[.int .i64 b3,.int .i64 b4,.int .i64 b5,.int .i64 b6,.int .i64 b7,.int .i64 b8,.int .i64 b9,.int .i64 c0]) (ok:=fun _=>True) (okp:=fun _=>True) ?hr ?hp (fun _ hk=>hk) trivial (Below.refl _ _) (Nat.le_refl _) (by simp) ?_;(case hd=>rfl);(case hg=>rfl);(case hr=>first|(go_simp;done)|(go_simp;rfl));(case hp=>exact (Reps.c4 (show Kd.M k67 _ _ _ (⟨b3,b4,b5,b6⟩:S67) [.int .i64 b3,.int .i64 b4,.int .i64 b5,.int .i64 b6] from (k67_mkM _ _ _ (⟨b3,b4,b5,b6⟩:S67) )) (Reps.c4 (show Kd.M k67 _ _ _ (⟨b7,b8,b9,c0⟩:S67) [.int .i64 b7,.int .i64 b8,.int .i64 b9,.int .i64 c0] from (k67_mkM _ _ _ (⟨b7,b8,b9,c0⟩:S67) )) (Reps.none _ _))));intro p5 q6 d1 hb hg_ c5;clear hg_ c5;(first|rw [← e6.1] at d1|(simp only [Int.reduceToNat] at d1;rw [← e6.1] at d1));have a8:=mk0 (Kd.R_lower d1 (below_size T.1));replace E:=rbl E hb;replace B:=bkb B hb;replace C:=bkb C hb;replace D:=bkb D hb;replace T:=bst T hb;clear hb d1;obtain ⟨g4,g5,f3⟩:=Kd.R_slice a8.1;(first|subst f3|(injection f3 with f1_ f2_ f3_;have f4_:=f1_.symm;have m5:=f3_.symm;clear f1_ f2_ f3_;subst f4_;subst m5));refine hK.out _ _ ⟨q0_ B,q1_ B,q2_ B,q3_ B,q0_ C,q1_ C,q2_ C,q3_ C⟩ (fun U=>?_);clear hK K;refine norm_ (a':=?_) ?_ ?_;rotate_left
  ·
   show Act.put _ (some 19) _=_;simp only [Act.put,s0_,s1_,s2_,i64_w,i32_w];rfl
  refine one_ (i:=5) (N:=some 20) #[y_,y_,y_,y_,y_,y_,n_,n_,n_] rfl rfl (one_of b2.1 (by kernel_rfl)) (by decide) (fun K hK=>?_);refine goes_ Try.func54 (by kernel_rfl) rfl #[.slice g4 e0.length g5] (by rfl) rfl rfl (by (try simp only [m0_,m1_,m2_]);first|done|rfl|(simp only [l0_,l1_];rfl)) ?_;with_reducible refine (norm_product.calls k _ _ e0 e1 e2 e3 e4 _ ?side1 ?side2 A7.1).mono ?_
  (case side1=>repeat (first|exact (Kd.R_reads' a8.1).2.2|(with_reducible refine Kd.C_alloc ?_ _)|(with_reducible refine Kd.C_drewN ?_ _)|(with_reducible refine Kd.C_drew ?_)));(case side2=>exact (Kd.R_reads' a8.1).2.1);rintro e q7 ⟨rfl,hb⟩;refine ⟨_,rfl,?_⟩;replace E:=rbl E hb;replace a8:=rbl a8 hb;replace B:=bkb B hb;replace C:=bkb C hb;replace D:=bkb D hb;replace T:=bst T hb;(try clear hb);(try clear hk);refine hK.out _ _ ⟨q0_ B,q1_ B,q2_ B,q3_ B,q0_ C,q1_ C,q2_ C,q3_ C⟩ (fun U=>?_);clear hK K;refine norm_ (a':=?_) ?_ ?_;rotate_left
  ·
   show Act.put _ (some 20) _=_;simp only [Act.put,s0_,s1_,s2_,i64_w,i32_w];rfl
  refine one_ (i:=6) (N:=some 21) #[y_,y_,y_,y_,y_,y_,y_,n_,n_] rfl rfl (one_of b2.1 (by kernel_rfl)) (by decide) (fun K hK=>?_);refine goes_ Try.func50 (by kernel_rfl) rfl #[.agg #[.int .i64 e1,.int .i64 e2,.int .i64 e3,.int .i64 e4]] (by rfl) rfl rfl (by (try simp only [m0_,m1_,m2_]);first|done|rfl|(simp only [l0_,l1_];rfl)) ?_;with_reducible refine (norm_quat_api.calls e1 e2 e3 e4 c9 d3 e5 f2 _ A8.1).mono ?_
  rintro e q8 ⟨rfl,hb⟩;refine ⟨_,rfl,?_⟩;replace E:=rbl E hb;replace a8:=rbl a8 hb;replace B:=bkb B hb;replace C:=bkb C hb;replace D:=bkb D hb;replace T:=bst T hb;(try clear hb);refine hK.out _ _ ⟨q0_ B,q1_ B,q2_ B,q3_ B,q0_ C,q1_ C,q2_ C,q3_ C⟩ (fun U=>?_);clear hK K;refine norm_ (a':=?_) ?_ ?_;rotate_left
  ·
   show Act.put _ (some 21) _=_;simp only [Act.put,s0_,s1_,s2_,i64_w,i32_w];rfl
  refine one_ (i:=7) (N:=none) #[y_,y_,y_,y_,y_,y_,y_,y_,n_] rfl rfl (one_of b2.1 (by kernel_rfl)) (by decide) (fun K hK=>?_);have p6:=q0_ D;have n2:=blk_frozen D.1 0;have i5:=V.1;have i6:=X.1;have i7:=a4.1;have i8:=a5.1;have p7:=q1_ D;have n3:=blk_frozen D.1 1;have p8:=q2_ D;have n4:=blk_frozen D.1 2;have p9:=q3_ D;have n5:=blk_frozen D.1 3;refine skip_ (w1:=?_) (by rfl) rfl ?_ ?_;rotate_left
  ·
   go_simp;rfl
  refine hK.out _ _ ⟨f4_ V U.1,f4_ V U.2.1,f4_ V U.2.2.1,f4_ V U.2.2.2.1,f4_ X U.2.2.2.2.1,f4_ X U.2.2.2.2.2.1,f4_ X U.2.2.2.2.2.2.1,f4_ X U.2.2.2.2.2.2.2⟩ (fun U=>?_);clear hK K;refine pure_ (i:=8) (N:=some 5) (v:=?_) (a':=?_) #[y_,y_,y_,y_,y_,y_,y_,y_,y_] rfl rfl (any_of b2.1 (by kernel_rfl)) (fun _ _ _ h=>h) (Or.inl ⟨by rfl,?_⟩) ?_ ?_;rotate_left
  ·
   intro w';go_simp;with_reducible rfl
  rotate_left
  ·
   simp only [Act.put,s0_,s1_,s2_,i64_w,i32_w];rfl
  refine done_ (done_of b2.1 (by kernel_rfl)) ?_;try go_wp2
  refine bodyPost_ret (results_ct rfl _ _ c3 23 #[.int .i64 c9,.int .i64 d3,.int .i64 e5,.int .i64 f2] (0,0) _ rfl (by refine blk_put (cs:=#[.int .i64 c9,.int .i64 d3,.int .i64 e5,.int .i64 0]) ?_ 3 _ rfl;refine blk_put (cs:=#[.int .i64 c9,.int .i64 d3,.int .i64 0,.int .i64 0]) ?_ 2 _ rfl;refine blk_put (cs:=#[.int .i64 c9,.int .i64 0,.int .i64 0,.int .i64 0]) ?_ 1 _ rfl;refine blk_put (cs:=#[.int .i64 0,.int .i64 0,.int .i64 0,.int .i64 0]) ?_ 0 _ rfl;exact D.1) Try.underlying23 rfl (by kernel_rfl)) rfl ?_;exact ⟨by first|rfl|(simp [errW_none,errW_some] <;> rfl)|(simp [*,errW_none,errW_some] <;> rfl),by repeat (first|(with_reducible first|exact T.1|apply below_alloc|apply pw_below_drewN|apply below_drew1|refine below_set ?_ d5.1|refine below_set ?_ d7.1|refine below_set ?_ d9.1)|exact T.1)⟩
 ·
  rw [if_neg c4] at H;have c4b0:(a1 == 0)=false:=beq_eq_false_iff_ne.mpr c4;have c4b1:(a1 != 0)=true:=bne_iff_ne.mpr c4;simp only [Option.some.injEq,Prod.mk.injEq] at H;obtain ⟨rfl,rfl,rfl,rfl,rfl⟩:=H;go_enter Try.func38,Try.ntmps38;go_wp2_with (first|((with_reducible refine gate_dst (N:=2) rfl ?_);refine box_event ?hg (N:=2) ?hd (cs:=#[.int .i64 F,.int .i64 G,.int .i64 I,.int .i64 J]) (t:=23) ?hr ?_;(case hd=>rfl);(case hg=>rfl);(case hr=>first|(go_simp;done)|(go_simp;rfl));intro a6 hg q9 a0 hb;have B:=mk0 (a0);have d4:=szw hg T;have d5:=d4;replace T:=bst T hb;clear hb a0 hg)|((with_reducible refine gate_dst (N:=3) rfl ?_);refine box_event ?hg (N:=3) ?hd (cs:=#[.int .i64 L,.int .i64 O,.int .i64 Q,.int .i64 R]) (t:=23) ?hr ?_;(case hd=>rfl);(case hg=>rfl);(case hr=>first|(go_simp;done)|(go_simp;rfl));intro a7 hg r0 a0 hb;have C:=mk0 (a0);have d6:=szw hg T;have d7:=d6;have a9:=nlt hg B;have b0:=ngt hg B;replace B:=bkb B hb;replace T:=bst T hb;clear hb a0 hg)|((with_reducible refine gate_dst (N:=4) rfl ?_);refine box_event ?hg (N:=4) ?hd (cs:=#[.int .i64 0,.int .i64 0,.int .i64 0,.int .i64 0]) (t:=23) ?hr ?_;(case hd=>rfl);(case hg=>rfl);(case hr=>first|(go_simp;done)|(go_simp;rfl));intro c3 hg r6 a0 hb;have D:=mk0 (a0);have d8:=szw hg T;have d9:=d8;have V:=nlt hg B;have a4:=ngt hg B;have X:=nlt hg C;have a5:=ngt hg C;replace B:=bkb B hb;replace C:=bkb C hb;replace T:=bst T hb;clear hb a0 hg;have n6:=a9.1;have n7:=b0.1;have n8:=V.1;have n9:=a4.1;have i9:=q0_ B;have j0:=q1_ B;have j1:=q2_ B;have j2:=q3_ B;have j3:=blk_frozen B.1 0;have j4:=blk_frozen B.1 1;have j5:=blk_frozen B.1 2;have j6:=blk_frozen B.1 3;have o0:=X.1;have o1:=a5.1;have j7:=q0_ C;have j8:=q1_ C;have j9:=q2_ C;have l0:=q3_ C;have l1:=blk_frozen C.1 0;have l2:=blk_frozen C.1 1;have l3:=blk_frozen C.1 2;have l4:=blk_frozen C.1 3)|((with_reducible refine gate_dst (N:=9) rfl ?_);refine Kd.R_lit k23 _ 23 ?hg (N:=9) ?hd (xs:=([(⟨F,G,I,J⟩:S23),(⟨L,O,Q,R⟩:S23)]:List (S23))) (inner:=[.int .i64 F,.int .i64 G,.int .i64 I,.int .i64 J,.int .i64 L,.int .i64 O,.int .i64 Q,.int .i64 R]) (ok:=fun _=>True) (okp:=fun _=>True) ?hr ?hp (fun _ hk=>hk) trivial (Below.refl _ _) (Nat.le_refl _) (by simp) ?_;(case hd=>rfl);(case hg=>rfl);(case hr=>first|(go_simp;done)|(go_simp;rfl));(case hp=>exact (Reps.c4 (show Kd.M k23 _ _ _ (⟨F,G,I,J⟩:S23) [.int .i64 F,.int .i64 G,.int .i64 I,.int .i64 J] from (k23_mkM _ _ _ (⟨F,G,I,J⟩:S23) )) (Reps.c4 (show Kd.M k23 _ _ _ (⟨L,O,Q,R⟩:S23) [.int .i64 L,.int .i64 O,.int .i64 Q,.int .i64 R] from (k23_mkM _ _ _ (⟨L,O,Q,R⟩:S23) )) (Reps.none _ _))));intro g0 r7 d2 hb hg_ c5;clear hg_ c5;(first|rw [← c6.1] at d2|(simp only [Int.reduceToNat] at d2;rw [← c6.1] at d2));have E:=mk0 (Kd.R_lower (Kd.R_newB (Kd.R_newB (Kd.R_newB d2 (g:=a6) (o:=.cells #[.int .i64 F,.int .i64 G,.int .i64 I,.int .i64 J] 23 (0,0)) B.1) (g:=a7) (o:=.cells #[.int .i64 L,.int .i64 O,.int .i64 Q,.int .i64 R] 23 (0,0)) C.1) (g:=c3) (o:=.cells #[.int .i64 0,.int .i64 0,.int .i64 0,.int .i64 0] 23 (0,0)) D.1) (below_size T.1));replace B:=bkb B hb;replace C:=bkb C hb;replace D:=bkb D hb;replace T:=bst T hb;clear hb d2;obtain ⟨g6,g7,g8⟩:=Kd.R_slice E.1;subst g8)|((with_reducible refine gate_callee (f:=47) rfl ?_);refine goesL_ (some 10) rfl rfl Try.func47 (by kernel_rfl) rfl #[.slice g6 c7.length g7] rfl (by (try simp only [m0_,m1_,m2_]);first|done|rfl|(simp only [l0_,l1_];rfl)) ?_;(with_reducible refine (norm_check.calls k _ _ c7 a1 _ ?side1 ?side2 A3.1).mono ?_);(case side1=>repeat (first|exact (Kd.R_reads' E.1).2.2|(with_reducible refine Kd.C_alloc ?_ _)|(with_reducible refine Kd.C_drewN ?_ _)|(with_reducible refine Kd.C_drew ?_)));(case side2=>exact (Kd.R_reads' E.1).2.1);rintro e r8 ⟨rfl,hb⟩;refine ⟨_,rfl,?_⟩;replace E:=rbl E hb;replace B:=bkb B hb;replace C:=bkb C hb;replace D:=bkb D hb;replace T:=bst T hb;(try clear hb);(try clear hk);have l5:=q0_ D;have l6:=q1_ D;have l7:=q2_ D;have l8:=q3_ D;have l9:=blk_frozen D.1 0;have m0:=blk_frozen D.1 1;have m1:=blk_frozen D.1 2;have m2:=blk_frozen D.1 3))
  refine bodyPost_ret (results_ct rfl _ _ c3 23 #[.int .i64 0,.int .i64 0,.int .i64 0,.int .i64 0] (0,0) _ rfl (by refine blk_put (cs:=#[.int .i64 0,.int .i64 0,.int .i64 0,.int .i64 0]) ?_ 3 _ rfl;refine blk_put (cs:=#[.int .i64 0,.int .i64 0,.int .i64 0,.int .i64 0]) ?_ 2 _ rfl;refine blk_put (cs:=#[.int .i64 0,.int .i64 0,.int .i64 0,.int .i64 0]) ?_ 1 _ rfl;refine blk_put (cs:=#[.int .i64 0,.int .i64 0,.int .i64 0,.int .i64 0]) ?_ 0 _ rfl;exact D.1) Try.underlying23 rfl (by kernel_rfl)) rfl ?_;exact ⟨by first|rfl|(simp [errW_none,errW_some] <;> rfl)|(simp [*,errW_none,errW_some] <;> rfl),by repeat (first|(with_reducible first|exact T.1|apply below_alloc|apply pw_below_drewN|apply below_drew1|refine below_set ?_ d5.1|refine below_set ?_ d7.1|refine below_set ?_ d9.1)|exact T.1)⟩
/-! ### norm_Norm: function 40 -/
def norm_Norm.f (k:Nat) (a0_0:Int) (a0_1:Int) (a0_2:Int) (a0_3:Int):Option (Int × Int):=(norm_check.f k (([(⟨a0_0,a0_1,a0_2,a0_3⟩:S23)]:List (S23)))).bind fun t325=>(if t325=0 then ((norm_of.f a0_0 a0_1 a0_2 a0_3).bind fun bt326=>((norm_quat_norm.f bt326.1 bt326.2.1 bt326.2.2.1 bt326.2.2.2).bind fun t330=>(some (t330,0)))) else (some (0,t325)))
theorem norm_Norm.mono:∀ a0 a1 a2 a3 k,LeO (norm_Norm.f k a0 a1 a2 a3) (norm_Norm.f (k + 1) a0 a1 a2 a3):=by
  intro a0 a1 a2 a3 k
  unfold norm_Norm.f
  with_reducible repeat' first|exact norm_check.mono _ _|exact LeO.refl _|exact LeO.none _|refine LeO.ite ?_ ?_|refine LeO.bind ?_ (fun _=>?_)
set_option maxHeartbeats 8000000 in
set_option maxRecDepth 100000 in
theorem norm_Norm.calls (k:Nat) (C:Int) (D:Int) (E:Int) (F:Int) (r1:Int) (r2:Int) (w:World) (h:norm_Norm.f k C D E F=some (r1,r2)) :
    Calls Try.prog 40 #[.agg #[.int .i64 C,.int .i64 D,.int .i64 E,.int .i64 F]] w fun e w'=>e=.returned (.tuple #[.int .i64 r1,.int .i64 r2])∧Below w.heap.size w w':=by
 have e6:=Try.underlying23;have J:=mk0 (Below.refl w.heap.size w);have H:((norm_check.f k (([(⟨C,D,E,F⟩:S23)]:List (S23)))).bind fun I=>(if I=0 then ((norm_of.f C D E F).bind fun L=>((norm_quat_norm.f L.1 L.2.1 L.2.2.1 L.2.2.2).bind fun R=>(some (R,0)))) else (some (0,I))))=some (r1,r2):=h;clear h;obtain ⟨T,O⟩:∃ y_:List (S23),y_=(([(⟨C,D,E,F⟩:S23)]:List (S23))):=⟨_,rfl⟩
 replace H:((norm_check.f k T).bind fun I=>(if I=0 then ((norm_of.f C D E F).bind fun L=>((norm_quat_norm.f L.1 L.2.1 L.2.2.1 L.2.2.2).bind fun R=>(some (R,0)))) else (some (0,I))))=some (r1,r2):=by first|(rw [O];with_reducible exact H)|(have a6:=(Option.bind_some _ _).symm.trans H;rw [O];with_reducible exact a6)|(have a6:=(Option.bind_some _ _).symm.trans H;with_reducible exact a6)|with_reducible exact H|(rw [O];exact H)|exact H
 have Q:=mk0 O;clear O;replace H:=Option.bind_eq_some_iff.mp H;obtain ⟨I,a9,H⟩:=H;(try dsimp only at H);have A2:=mk0 a9;clear a9
 by_cases c3:I=0
 ·
  rw [if_pos c3] at H;have c3b0:(I == 0)=true:=beq_iff_eq.mpr c3;have c3b1:(I != 0)=false:=bne_eq_false_iff_eq.mpr c3;clear c3;replace H:=Option.bind_eq_some_iff.mp H;obtain ⟨⟨a2,a3,a4,a5⟩,b0,H⟩:=H;(try dsimp only at H);have A4:=mk0 b0;clear b0;replace H:=Option.bind_eq_some_iff.mp H;obtain ⟨R,b1,H⟩:=H;(try dsimp only at H);have A5:=mk0 b1;clear b1;simp only [Option.some.injEq,Prod.mk.injEq] at H;obtain ⟨rfl,rfl⟩:=H;go_enter Try.func40,Try.ntmps40;go_wp2_with (first|((with_reducible refine gate_dst (N:=1) rfl ?_);refine box_event ?hg (N:=1) ?hd (cs:=#[.int .i64 C,.int .i64 D,.int .i64 E,.int .i64 F]) (t:=23) ?hr ?_;(case hd=>rfl);(case hg=>rfl);(case hr=>first|(go_simp;done)|(go_simp;rfl));intro X hg w6 U hb;have B:=mk0 (U);have Y:=szw hg J;have Z:=Y;replace J:=bst J hb;clear hb U hg;have d8:=q0_ B;have d9:=q1_ B;have e0:=q2_ B;have e1:=q3_ B;have e2:=blk_frozen B.1 0;have e3:=blk_frozen B.1 1;have e4:=blk_frozen B.1 2;have e5:=blk_frozen B.1 3)|((with_reducible refine gate_dst (N:=6) rfl ?_);refine Kd.R_lit k23 _ 23 ?hg (N:=6) ?hd (xs:=([(⟨C,D,E,F⟩:S23)]:List (S23))) (inner:=[.int .i64 C,.int .i64 D,.int .i64 E,.int .i64 F]) (ok:=fun _=>True) (okp:=fun _=>True) ?hr ?hp (fun _ hk=>hk) trivial (Below.refl _ _) (Nat.le_refl _) (by simp) ?_;(case hd=>rfl);(case hg=>rfl);(case hr=>first|(go_simp;done)|(go_simp;rfl));(case hp=>exact (Reps.c4 (show Kd.M k23 _ _ _ (⟨C,D,E,F⟩:S23) [.int .i64 C,.int .i64 D,.int .i64 E,.int .i64 F] from (k23_mkM _ _ _ (⟨C,D,E,F⟩:S23) )) (Reps.none _ _)));intro b2 w8 a1 hb hg_ a0;clear hg_ a0;(first|rw [← Q.1] at a1|(simp only [Int.reduceToNat] at a1;rw [← Q.1] at a1));have G:=mk0 (Kd.R_lower (Kd.R_newB a1 (g:=X) (o:=.cells #[.int .i64 C,.int .i64 D,.int .i64 E,.int .i64 F] 23 (0,0)) B.1) (below_size J.1));replace B:=bkb B hb;replace J:=bst J hb;clear hb a1;obtain ⟨b3,b4,b5⟩:=Kd.R_slice G.1;subst b5)|((with_reducible refine gate_callee (f:=47) rfl ?_);refine goesL_ (some 7) rfl rfl Try.func47 (by kernel_rfl) rfl #[.slice b3 T.length b4] rfl (by (try simp only [m0_,m1_,m2_]);first|done|rfl|(simp only [l0_,l1_];rfl)) ?_;(with_reducible refine (norm_check.calls k _ _ T I _ ?side1 ?side2 A2.1).mono ?_);(case side1=>repeat (first|exact (Kd.R_reads' G.1).2.2|(with_reducible refine Kd.C_alloc ?_ _)|(with_reducible refine Kd.C_drewN ?_ _)|(with_reducible refine Kd.C_drew ?_)));(case side2=>exact (Kd.R_reads' G.1).2.1);rintro e e9 ⟨rfl,hb⟩;refine ⟨_,rfl,?_⟩;replace G:=rbl G hb;replace B:=bkb B hb;replace J:=bst J hb;(try clear hb);(try clear hk);have b9:=q0_ B;have c0:=q1_ B;have c1:=q2_ B;have c2:=q3_ B;have c5:=blk_frozen B.1 0;have c6:=blk_frozen B.1 1;have c7:=blk_frozen B.1 2;have c8:=blk_frozen B.1 3)|((with_reducible refine gate_callee (f:=48) rfl ?_);refine goesL_ (some 12) rfl rfl Try.func48 (by kernel_rfl) rfl #[.agg #[.int .i64 C,.int .i64 D,.int .i64 E,.int .i64 F]] rfl (by (try simp only [m0_,m1_,m2_]);first|done|rfl|(simp only [l0_,l1_];rfl)) ?_;(with_reducible refine (norm_of.calls C D E F a2 a3 a4 a5 _ A4.1).mono ?_);rintro e f0 ⟨rfl,hb⟩;refine ⟨_,rfl,?_⟩;replace G:=rbl G hb;replace B:=bkb B hb;replace J:=bst J hb;(try clear hb);(try clear hk))|((with_reducible refine gate_callee (f:=66) rfl ?_);refine goesL_ (some 13) rfl rfl Try.func66 (by kernel_rfl) rfl #[.agg #[.int .i64 a2,.int .i64 a3,.int .i64 a4,.int .i64 a5]] rfl (by (try simp only [m0_,m1_,m2_]);first|done|rfl|(simp only [l0_,l1_];rfl)) ?_;(with_reducible refine (norm_quat_norm.calls a2 a3 a4 a5 R _ A5.1).mono ?_);rintro e f1 ⟨rfl,hb⟩;refine ⟨_,rfl,?_⟩;replace G:=rbl G hb;replace B:=bkb B hb;replace J:=bst J hb;(try clear hb);(try clear hk)))
  go_ret2;exact ⟨by first|rfl|(simp [errW_none,errW_some] <;> rfl)|(simp [*,errW_none,errW_some] <;> rfl),by repeat (first|(with_reducible first|exact J.1|apply below_alloc|apply pw_below_drewN|apply below_drew1|refine below_set ?_ Z.1)|exact J.1)⟩
 ·
  rw [if_neg c3] at H;have c3b0:(I == 0)=false:=beq_eq_false_iff_ne.mpr c3;have c3b1:(I != 0)=true:=bne_iff_ne.mpr c3;simp only [Option.some.injEq,Prod.mk.injEq] at H;obtain ⟨rfl,rfl⟩:=H;go_enter Try.func40,Try.ntmps40;go_wp2_with (first|((with_reducible refine gate_dst (N:=1) rfl ?_);refine box_event ?hg (N:=1) ?hd (cs:=#[.int .i64 C,.int .i64 D,.int .i64 E,.int .i64 F]) (t:=23) ?hr ?_;(case hd=>rfl);(case hg=>rfl);(case hr=>first|(go_simp;done)|(go_simp;rfl));intro X hg f2 U hb;have B:=mk0 (U);have Y:=szw hg J;have Z:=Y;replace J:=bst J hb;clear hb U hg;have c9:=q0_ B;have d0:=q1_ B;have d1:=q2_ B;have d2:=q3_ B;have d3:=blk_frozen B.1 0;have d4:=blk_frozen B.1 1;have d5:=blk_frozen B.1 2;have d6:=blk_frozen B.1 3)|((with_reducible refine gate_dst (N:=6) rfl ?_);refine Kd.R_lit k23 _ 23 ?hg (N:=6) ?hd (xs:=([(⟨C,D,E,F⟩:S23)]:List (S23))) (inner:=[.int .i64 C,.int .i64 D,.int .i64 E,.int .i64 F]) (ok:=fun _=>True) (okp:=fun _=>True) ?hr ?hp (fun _ hk=>hk) trivial (Below.refl _ _) (Nat.le_refl _) (by simp) ?_;(case hd=>rfl);(case hg=>rfl);(case hr=>first|(go_simp;done)|(go_simp;rfl));(case hp=>exact (Reps.c4 (show Kd.M k23 _ _ _ (⟨C,D,E,F⟩:S23) [.int .i64 C,.int .i64 D,.int .i64 E,.int .i64 F] from (k23_mkM _ _ _ (⟨C,D,E,F⟩:S23) )) (Reps.none _ _)));intro b2 f3 V hb hg_ a0;clear hg_ a0;(first|rw [← Q.1] at V|(simp only [Int.reduceToNat] at V;rw [← Q.1] at V));have G:=mk0 (Kd.R_lower (Kd.R_newB V (g:=X) (o:=.cells #[.int .i64 C,.int .i64 D,.int .i64 E,.int .i64 F] 23 (0,0)) B.1) (below_size J.1));replace B:=bkb B hb;replace J:=bst J hb;clear hb V;obtain ⟨b6,b7,b8⟩:=Kd.R_slice G.1;subst b8)|((with_reducible refine gate_callee (f:=47) rfl ?_);refine goesL_ (some 7) rfl rfl Try.func47 (by kernel_rfl) rfl #[.slice b6 T.length b7] rfl (by (try simp only [m0_,m1_,m2_]);first|done|rfl|(simp only [l0_,l1_];rfl)) ?_;(with_reducible refine (norm_check.calls k _ _ T I _ ?side1 ?side2 A2.1).mono ?_);(case side1=>repeat (first|exact (Kd.R_reads' G.1).2.2|(with_reducible refine Kd.C_alloc ?_ _)|(with_reducible refine Kd.C_drewN ?_ _)|(with_reducible refine Kd.C_drew ?_)));(case side2=>exact (Kd.R_reads' G.1).2.1);rintro e f4 ⟨rfl,hb⟩;refine ⟨_,rfl,?_⟩;replace G:=rbl G hb;replace B:=bkb B hb;replace J:=bst J hb;(try clear hb);(try clear hk)));go_ret2;exact ⟨by first|rfl|(simp [errW_none,errW_some] <;> rfl)|(simp [*,errW_none,errW_some] <;> rfl),by repeat (first|(with_reducible first|exact J.1|apply below_alloc|apply pw_below_drewN|apply below_drew1|refine below_set ?_ Z.1)|exact J.1)⟩
/-! ### norm_prime: function 67 -/
def norm_prime.l0:Nat → Int → Int → Option (Bool)
  | 0,_,_=>none
  | k + 1,x0,x3=>if (wrap64 (x3 * x3)) ≤ x0 then (if x3=0 then (none) else (if (Int.tmod x0 x3)=0 then (some false) else (norm_prime.l0 k x0 (wrap64 (x3 + 1))))) else (some (decide (x0 > 1)))
def norm_prime.f (k:Nat) (a0:Int):Option (Bool):=norm_prime.l0 k a0 2
theorem norm_prime.mono_l:∀ k,(∀ y0 y1,LeO (norm_prime.l0 k y0 y1) (norm_prime.l0 (k + 1) y0 y1))
  | 0=>fun _ _ r h=>by simp [norm_prime.l0] at h
  | k + 1=>by
    have ih0:=norm_prime.mono_l k
    · intro y0 y1
      unfold norm_prime.l0
      with_reducible repeat' first|exact ih0 _ _|exact LeO.refl _|exact LeO.none _|refine LeO.ite ?_ ?_|refine LeO.bind ?_ (fun _=>?_)
theorem norm_prime.mono:∀ a0 k,LeO (norm_prime.f k a0) (norm_prime.f (k + 1) a0):=by
  intro a0 k
  have ih0:=norm_prime.mono_l k
  unfold norm_prime.f
  with_reducible repeat' first|exact ih0 _ _|exact LeO.refl _|exact LeO.none _|refine LeO.ite ?_ ?_|refine LeO.bind ?_ (fun _=>?_)
set_option maxHeartbeats 8000000 in
set_option maxRecDepth 100000 in
theorem norm_prime.calls (k:Nat) (C:Int) (r:Bool) (w:World) (h:norm_prime.f k C=some r) :
    Calls Try.prog 67 #[.int .i64 C] w fun e w'=>e=.returned (.bool r)∧Drawn0 w w':=by
 have H:(norm_prime.l0 k C 2)=some r:=h;clear h;have H':=mk0 H;clear H;go_enter Try.func67,Try.ntmps67;go_wp2
 go_loopg [3] k (fun kq E w'=>∃ (B:Int),E=.int .i64 B∧Aside0 (norm_prime.l0 kq C B=some r)∧Aside0 (kq ≤ k)∧Drawn0 w w')
 case atStart=>exact ⟨(2),(by first|rfl|(simp;done)|(simp [*];done)),H',⟨Nat.le_refl _⟩,by repeat (first|exact Drawn0.refl _|apply Drawn0.step)⟩
 case round =>
  clear H';obtain ⟨B,rfl,HA,D,⟨F,rfl⟩⟩:=hrel;cases gk with
  | zero=>exact absurd HA.1 (by simp [norm_prime.l0])
  | succ k1 =>
   have H:=HA.1;clear HA;simp only [norm_prime.l0] at H
   by_cases c2:(wrap64 (B * B)) ≤ C
   ·
    rw [if_pos c2] at H;have c2b0:decide ((wrap64 (B * B)) ≤ C)=true:=decide_eq_true c2;clear c2
    by_cases c3:B=0
    ·
     rw [if_pos c3] at H;exact absurd H (by simp)
    ·
     rw [if_neg c3] at H;have c3b0:(B == 0)=false:=beq_eq_false_iff_ne.mpr c3;have c3b1:(B != 0)=true:=bne_iff_ne.mpr c3
     by_cases c4:(Int.tmod C B)=0
     ·
      rw [if_pos c4] at H;have c4b0:((Int.tmod C B) == 0)=true:=beq_iff_eq.mpr c4;have c4b1:((Int.tmod C B) != 0)=false:=bne_eq_false_iff_eq.mpr c4;clear c4;obtain rfl:=Option.some.inj H;go_wp2;go_ret;exact ⟨by first|rfl|(simp;done)|(simp [*];done),by repeat (first|exact Drawn0.refl _|apply Drawn0.step)⟩
     ·
      rw [if_neg c4] at H;have c4b0:((Int.tmod C B) == 0)=false:=beq_eq_false_iff_ne.mpr c4;have c4b1:((Int.tmod C B) != 0)=true:=bne_iff_ne.mpr c4;have H':=mk0 H;clear H;go_wp2;go_roundg k1
      case measure=>have:=D.1;omega
      case rel=>exact ⟨(wrap64 (B + 1)),(by first|rfl|(simp;done)|(simp [*];done)),H',⟨by have:=D.1;omega⟩,by repeat (first|exact Drawn0.refl _|apply Drawn0.step)⟩
   ·
    rw [if_neg c2] at H;have c2b0:decide ((wrap64 (B * B)) ≤ C)=false:=decide_eq_false c2;clear c2;obtain rfl:=Option.some.inj H;go_wp2;go_ret;exact ⟨by first|rfl|(simp;done)|(simp [*];done),by repeat (first|exact Drawn0.refl _|apply Drawn0.step)⟩
/-! ### norm_Split: function 44 -/
def norm_Split.j0:Nat → Int → Bool → Option (Int × Int × Int × Int × Int)
  | 0,_,_=>none
  | k + 1,x0,x12=>if x12=true then (some (0,0,0,0,1)) else ((norm_root.f k x0).bind fun t334=>((norm_squares.f k x0 4 t334).bind fun t335=>(if 0 < (t335.length:Int) then (if 1 < (t335.length:Int) then (if 2 < (t335.length:Int) then (if 3 < (t335.length:Int) then (some (wrap64 (2 * (rd t335 0)),wrap64 (2 * (rd t335 1)),wrap64 (2 * (rd t335 2)),wrap64 (2 * (rd t335 3)),0)) else (none)) else (none)) else (none)) else (none))))
def norm_Split.f (k:Nat) (a0:Int):Option (Int × Int × Int × Int × Int):=(norm_counted.f a0 2).bind fun t332=>(if t332=true then ((norm_prime.f k a0).bind fun t333=>(norm_Split.j0 k a0 (!t333))) else (norm_Split.j0 k a0 true))
theorem norm_Split.mono_l:∀ k,(∀ y0 y1,LeO (norm_Split.j0 k y0 y1) (norm_Split.j0 (k + 1) y0 y1))
  | 0=>fun _ _ r h=>by simp [norm_Split.j0] at h
  | k + 1=>by
    have ih0:=norm_Split.mono_l k
    · intro y0 y1
      unfold norm_Split.j0
      with_reducible repeat' first|exact ih0 _ _|exact norm_prime.mono _ _|exact norm_root.mono _ _|exact norm_squares.mono _ _ _ _|exact LeO.refl _|exact LeO.none _|refine LeO.ite ?_ ?_|refine LeO.bind ?_ (fun _=>?_)
theorem norm_Split.mono:∀ a0 k,LeO (norm_Split.f k a0) (norm_Split.f (k + 1) a0):=by
  intro a0 k
  have ih0:=norm_Split.mono_l k
  unfold norm_Split.f
  with_reducible repeat' first|exact ih0 _ _|exact norm_prime.mono _ _|exact norm_root.mono _ _|exact norm_squares.mono _ _ _ _|exact LeO.refl _|exact LeO.none _|refine LeO.ite ?_ ?_|refine LeO.bind ?_ (fun _=>?_)
def norm_Split.T4:Bool × List (List Nat × List Nat):=(true,[([],[]),([0],[0]),([1],[1]),([2],[2]),([],[]),([4],[4]),([5],[5]),([6],[6]),([],[]),([8],[8]),([9],[9]),([10],[10]),([],[]),([12],[12]),([13],[13]),([14],[14]),([3,7,11,15],[3,7,11,15]),([16,0,1,2,3,4,5,6,7,8,9,10,11,12,13,14,15,16],[16]),([17,0,1,2,3,4,5,6,7,8,9,10,11,12,13,14,15,16,17],[])])
def norm_Split.B4:List Nat:=[0,1,3,7,0,16,48,112,0,256,768,1792,0,4096,12288,28672,65535,131071,262143]
theorem norm_Split.tab4:rtab .any (opsOf Try.f44 4)=norm_Split.T4:=by kernel_rfl
theorem norm_Split.bits4:waitsOk norm_Split.T4.2 norm_Split.B4=true:=by kernel_rfl
set_option maxHeartbeats 8000000 in
set_option maxRecDepth 100000 in
theorem norm_Split.calls (k:Nat) (L:Int) (Z:Int) (r2:Int) (r3:Int) (r4:Int) (r5:Int) (w:World) (h:norm_Split.f k L=some (Z,r2,r3,r4,r5)) :
    Calls Try.prog 44 #[.int .i64 L] w fun e w'=>e=.returned (.tuple #[.agg #[.int .i64 Z,.int .i64 r2,.int .i64 r3,.int .i64 r4],.int .i64 r5])∧Below w.heap.size w w':=by
 have g6:=Try.underlying23;have J:=mk0 (Below.refl w.heap.size w);have H:((norm_counted.f L 2).bind fun a5=>(if a5=true then ((norm_prime.f k L).bind fun U=>(norm_Split.j0 k L (!U))) else (norm_Split.j0 k L true)))=some (Z,r2,r3,r4,r5):=h;clear h;have b5:=mk0 H;clear H;go_enter Try.func44,Try.ntmps44;go_upto_region 1 with (first|((with_reducible refine gate_dst (N:=2) rfl ?_);refine box_event ?hg (N:=2) ?hd (cs:=#[.int .i64 0,.int .i64 0,.int .i64 0,.int .i64 0]) (t:=23) ?hr ?_;(case hd=>rfl);(case hg=>rfl);(case hr=>first|(go_simp;done)|(go_simp;rfl));intro E hg w3 b6 hb;have B:=mk0 (b6);have c0:=szw hg J;have M:=c0;replace J:=bst J hb;clear hb b6 hg));(try simp only [Act.put,s0_,s1_,s2_])
 go_cut [12] (fun e3 wc=>∃ (kq:Nat) (V:Bool),e3=.bool V∧Aside0 (norm_Split.j0 kq L V=some (Z,r2,r3,r4,r5))∧Aside0 (kq ≤ k)∧Aside0 (Q4_ wc E 0 0 0 0 23)∧Aside0 (Below w.heap.size w wc))
 case first =>
  have H:=b5.1;clear b5;replace H:=Option.bind_eq_some_iff.mp H;obtain ⟨a5,c8,H⟩:=H;(try dsimp only at H);have A4:=mk0 c8;clear c8
  by_cases c5:a5=true
  ·
   subst c5;have X:((norm_prime.f k L).bind fun U=>(norm_Split.j0 k L (!U)))=some (Z,r2,r3,r4,r5):=by rw [if_pos rfl] at H;exact H
   clear H;have H:=X;clear X;replace H:=Option.bind_eq_some_iff.mp H;obtain ⟨U,c9,H⟩:=H;(try dsimp only at H);have A6:=mk0 c9;clear c9;have H':=mk0 H;clear H;go_wp2_with (first|((with_reducible refine gate_callee (f:=57) rfl ?_);refine goesL_ (some 6) rfl rfl Try.func57 (by kernel_rfl) rfl #[.int .i64 L,.int .i64 2] rfl (by (try simp only [m0_,m1_,m2_]);first|done|rfl|(simp only [l0_,l1_];rfl)) ?_;(with_reducible refine (norm_counted.calls L 2 true _ A4.1).mono ?_);rintro e w' ⟨rfl,⟨nd,rfl⟩⟩;refine ⟨_,rfl,?_⟩)|(go_at_call 67;(with_reducible refine (norm_prime.calls k L U _ A6.1).mono ?_);rintro e w' ⟨rfl,⟨nd,rfl⟩⟩));go_meet
   case rel=>exact ⟨_,(!U),(by first|rfl|(simp;done)|(simp [*];done)),H',⟨by first|omega|exact Nat.le_refl _⟩,⟨by exact B.1⟩,⟨by repeat (first|(with_reducible first|exact J.1|apply below_alloc|apply pw_below_drewN|apply below_drew1|refine below_set ?_ M.1)|exact J.1)⟩⟩
  ·
   replace c5:=Bool.eq_false_iff.mpr c5;subst c5;have X:(norm_Split.j0 k L true)=some (Z,r2,r3,r4,r5):=by rw [if_neg (show ¬ (false=true) by decide)] at H;exact H
   clear H;have H:=X;clear X;have H':=mk0 H;clear H;go_wp2_with (first|((with_reducible refine gate_callee (f:=57) rfl ?_);refine goesL_ (some 6) rfl rfl Try.func57 (by kernel_rfl) rfl #[.int .i64 L,.int .i64 2] rfl (by (try simp only [m0_,m1_,m2_]);first|done|rfl|(simp only [l0_,l1_];rfl)) ?_;(with_reducible refine (norm_counted.calls L 2 false _ A4.1).mono ?_);rintro e w' ⟨rfl,⟨nd,rfl⟩⟩;refine ⟨_,rfl,?_⟩));go_meet
   case rel=>exact ⟨_,(true),(by first|rfl|(simp;done)|(simp [*];done)),H',⟨by first|omega|exact Nat.le_refl _⟩,⟨by exact B.1⟩,⟨by repeat (first|(with_reducible first|exact J.1|apply below_alloc|apply pw_below_drewN|apply below_drew1|refine below_set ?_ M.1)|exact J.1)⟩⟩
 case rest =>
  clear b5;try clear p2
  try clear c4
  try clear c5
  obtain ⟨kq,V,rfl,HA,h6,B,J⟩:=hcut;cases kq with
  | zero=>exact absurd HA.1 (by simp [norm_Split.j0])
  | succ kj1 =>
   have H:=HA.1;clear HA;simp only [norm_Split.j0] at H
   by_cases c7:V=true
   ·
    subst c7;have X:(some (0,0,0,0,1))=some (Z,r2,r3,r4,r5):=by rw [if_pos rfl] at H;exact H
    clear H;have H:=X;clear X;simp only [Option.some.injEq,Prod.mk.injEq] at H;obtain ⟨rfl,rfl,rfl,rfl,rfl⟩:=H;have e5:=q0_ B;have e6:=q1_ B;have e7:=q2_ B;have e8:=q3_ B;have e9:=blk_frozen B.1 0;have f0:=blk_frozen B.1 1;have f1:=blk_frozen B.1 2;have f2:=blk_frozen B.1 3;go_wp2;refine bodyPost_ret (results_ct rfl _ _ E 23 #[.int .i64 0,.int .i64 0,.int .i64 0,.int .i64 0] (0,0) _ rfl (by refine blk_put (cs:=#[.int .i64 0,.int .i64 0,.int .i64 0,.int .i64 0]) ?_ 3 _ rfl;refine blk_put (cs:=#[.int .i64 0,.int .i64 0,.int .i64 0,.int .i64 0]) ?_ 2 _ rfl;refine blk_put (cs:=#[.int .i64 0,.int .i64 0,.int .i64 0,.int .i64 0]) ?_ 1 _ rfl;refine blk_put (cs:=#[.int .i64 0,.int .i64 0,.int .i64 0,.int .i64 0]) ?_ 0 _ rfl;exact B.1) Try.underlying23 rfl (by kernel_rfl)) rfl ?_;exact ⟨by first|rfl|(simp [errW_none,errW_some] <;> rfl)|(simp [*,errW_none,errW_some] <;> rfl),by repeat (first|(with_reducible first|exact J.1|apply below_alloc|apply pw_below_drewN|apply below_drew1|refine below_set ?_ M.1)|exact J.1)⟩
   ·
    replace c7:=Bool.eq_false_iff.mpr c7;subst c7;have X:((norm_root.f kj1 L).bind fun Y=>((norm_squares.f kj1 L 4 Y).bind fun D=>(if 0 < (D.length:Int) then (if 1 < (D.length:Int) then (if 2 < (D.length:Int) then (if 3 < (D.length:Int) then (some (wrap64 (2 * (rd D 0)),wrap64 (2 * (rd D 1)),wrap64 (2 * (rd D 2)),wrap64 (2 * (rd D 3)),0)) else (none)) else (none)) else (none)) else (none))))=some (Z,r2,r3,r4,r5):=by rw [if_neg (show ¬ (false=true) by decide)] at H;exact H
    clear H;have H:=X;clear X;replace H:=Option.bind_eq_some_iff.mp H;obtain ⟨Y,d0,H⟩:=H;(try dsimp only at H);have A9:=mk0 d0;clear d0;replace H:=Option.bind_eq_some_iff.mp H;obtain ⟨D,b8,H⟩:=H;(try dsimp only at H);have f3:=mk0 b8;clear b8
    by_cases c11:0 < (D.length:Int)
    ·
     rw [if_pos c11] at H;have c11b0:decide (0 < (D.length:Int))=true:=decide_eq_true c11;have c11b1:decide (0 < D.length)=true:=decide_eq_true (by omega);clear c11
     by_cases c12:1 < (D.length:Int)
     ·
      rw [if_pos c12] at H;have c12b0:decide (1 < (D.length:Int))=true:=decide_eq_true c12;have c12b1:decide (1 < D.length)=true:=decide_eq_true (by omega);clear c12
      by_cases c13:2 < (D.length:Int)
      ·
       rw [if_pos c13] at H;have c13b0:decide (2 < (D.length:Int))=true:=decide_eq_true c13;have c13b1:decide (2 < D.length)=true:=decide_eq_true (by omega);clear c13
       by_cases c14:3 < (D.length:Int)
       ·
        rw [if_pos c14] at H;have c14b0:decide (3 < (D.length:Int))=true:=decide_eq_true c14;have c14b1:decide (3 < D.length)=true:=decide_eq_true (by omega);clear c14;simp only [Option.some.injEq,Prod.mk.injEq] at H;obtain ⟨rfl,rfl,rfl,rfl,rfl⟩:=H;try go_wp2_with (first|((with_reducible refine gate_callee (f:=59) rfl ?_);refine goesL_ (some 16) rfl rfl Try.func59 (by kernel_rfl) rfl #[.int .i64 L] rfl (by (try simp only [m0_,m1_,m2_]);first|done|rfl|(simp only [l0_,l1_];rfl)) ?_;(with_reducible refine (norm_root.calls kj1 L Y _ A9.1).mono ?_);rintro e w' ⟨rfl,⟨nd,rfl⟩⟩;refine ⟨_,rfl,?_⟩;(try (rw [drewN_self wc];generalize hq_:World.drewN wc _=wc;have d1:Aside0 (Q4_ wc E 0 0 0 0 23):=⟨by rw [← hq_];exact (by (with_reducible repeat (first|refine blk_drewN ?_ _|refine blk_drew ?_|refine blk_alloc ?_ _));exact B.1)⟩;have d2:Aside0 (Below w.heap.size w wc):=⟨by rw [← hq_];exact (by repeat (first|(with_reducible first|exact J.1|apply below_alloc|apply pw_below_drewN|apply below_drew1|refine below_set ?_ M.1)|exact J.1))⟩;clear B J hq_;have B:=d1;have J:=d2;clear d1 d2)))|((with_reducible refine gate_callee (f:=58) rfl ?_);refine goesL_ (some 17) rfl rfl Try.func58 (by kernel_rfl) rfl #[.int .i64 L,.int .i64 4,.int .i64 Y] rfl (by (try simp only [m0_,m1_,m2_]);first|done|rfl|(simp only [l0_,l1_];rfl)) ?_;(with_reducible refine (norm_squares.calls kj1 L 4 Y D _ f3.1).mono ?_);rintro e f4 ⟨g9,rfl,d3,f5,hb⟩;refine ⟨_,rfl,?_⟩;have C:=mk0 (Kd.R_lower d3 (below_size (by repeat (first|(with_reducible first|exact J.1|apply below_alloc|apply pw_below_drewN|apply below_drew1|refine below_set ?_ M.1)|exact J.1))));have e2:=mk0 (f5);replace B:=mk0 (blk_below (g:=E) (o:=.cells #[.int .i64 0,.int .i64 0,.int .i64 0,.int .i64 0] 23 (0,0)) (by (with_reducible repeat (first|refine blk_drewN ?_ _|refine blk_drew ?_|refine blk_alloc ?_ _));exact B.1) hb);replace J:=mk0 (below_step (by repeat (first|(with_reducible first|exact J.1|apply below_alloc|apply pw_below_drewN|apply below_drew1|refine below_set ?_ M.1)|exact J.1)) hb);(try clear hb);(try clear d3)))
        replace C:=rdr C;replace B:=bdr B;replace J:=hdr J;obtain ⟨h0,h1,b9⟩:=Kd.R_slice C.1;(first|subst b9|(injection b9 with f1_ f2_ f3_;have f4_:=f1_.symm;have f6:=f3_.symm;clear f1_ f2_ f3_;subst f4_;subst f6));have a6:0 ≤ (0:Int):=(by omega)
        have a7:0 < (D.length:Int):=of_decide_eq_true (by first|(with_reducible assumption)|assumption);obtain ⟨G,d4,O⟩:=Kd.at_int (Kd.R_reads' C.1).2.2 0 a6 a7;cases d4;have f8:(0 < D.length)=True:=eq_true (by omega);(try rw [show ((0:Int)).toNat=0 from rfl] at O);(try rw [Addr.add_zero'] at O);replace a6:=eq_true a6;replace a7:=eq_true a7;have a8:0 ≤ (1:Int):=(by omega)
        have a9:1 < (D.length:Int):=of_decide_eq_true (by first|(with_reducible assumption)|assumption);obtain ⟨c2,d5,Q⟩:=Kd.at_int (Kd.R_reads' C.1).2.2 1 a8 a9;obtain rfl:G=c2:=(by injection d5)
        (try simp only [show (1:Int).toNat=1 from rfl,Nat.reduceMul,Nat.reduceEqDiff,Go.Addr.add,↓reduceIte] at Q);have f9:(1 < D.length)=True:=eq_true (by omega);(try rw [show ((1:Int)).toNat=1 from rfl] at Q);replace a8:=eq_true a8;replace a9:=eq_true a9;have b0:0 ≤ (2:Int):=(by omega)
        have b1:2 < (D.length:Int):=of_decide_eq_true (by first|(with_reducible assumption)|assumption);obtain ⟨c3,d6,R⟩:=Kd.at_int (Kd.R_reads' C.1).2.2 2 b0 b1;obtain rfl:G=c3:=(by injection d6)
        (try simp only [show (2:Int).toNat=2 from rfl,Nat.reduceMul,Nat.reduceEqDiff,Go.Addr.add,↓reduceIte] at R);have g0:(2 < D.length)=True:=eq_true (by omega);(try rw [show ((2:Int)).toNat=2 from rfl] at R);replace b0:=eq_true b0;replace b1:=eq_true b1;have b2:0 ≤ (3:Int):=(by omega)
        have b3:3 < (D.length:Int):=of_decide_eq_true (by first|(with_reducible assumption)|assumption);obtain ⟨c6,d7,T⟩:=Kd.at_int (Kd.R_reads' C.1).2.2 3 b2 b3;obtain rfl:G=c6:=(by injection d7)
        (try simp only [show (3:Int).toNat=3 from rfl,Nat.reduceMul,Nat.reduceEqDiff,Go.Addr.add,↓reduceIte] at T);have g1:(3 < D.length)=True:=eq_true (by omega);(try rw [show ((3:Int)).toNat=3 from rfl] at T);replace b2:=eq_true b2;replace b3:=eq_true b3;refine start_ (n:=19) (S:=fun w'=>w'.cell? G=some (.int .i64 (rd D 0))∧w'.cell? ⟨G.block,G.off + 1,none⟩=some (.int .i64 (rd D 1))∧w'.cell? ⟨G.block,G.off + 2,none⟩=some (.int .i64 (rd D 2))∧w'.cell? ⟨G.block,G.off + 3,none⟩=some (.int .i64 (rd D 3))) (ds:=[]) #[n_,n_,n_,n_,n_,n_,n_,n_,n_,n_,n_,n_,n_,n_,n_,n_,n_,n_,n_] (by kernel_rfl) rfl rfl ⟨O,Q,R,T⟩ (fun I=>?_);refine with_tabW norm_Split.tab4 norm_Split.bits4 (fun F b4=>?_);generalize f4.drew=h7 at C B J O Q R T I ⊢;refine pure_ (i:=0) (N:=some 18) (v:=?_) (a':=?_) #[y_,n_,n_,n_,n_,n_,n_,n_,n_,n_,n_,n_,n_,n_,n_,n_,n_,n_,n_] rfl rfl (any_of F.1 (by kernel_rfl)) (fun _ _ _ h=>h) (Or.inl ⟨by rfl,?_⟩) ?_ ?_;rotate_left
        ·
         intro w';go_simp;with_reducible rfl
        rotate_left
        ·
         simp only [Act.put,s0_,s1_,s2_,i64_w,i32_w];rfl
        refine pure_ (i:=1) (N:=some 19) (v:=?_) (a':=?_) #[y_,y_,n_,n_,n_,n_,n_,n_,n_,n_,n_,n_,n_,n_,n_,n_,n_,n_,n_] rfl rfl (any_of F.1 (by kernel_rfl)) (fun _ _ _ h=>h) (Or.inl ⟨by rfl,?_⟩) ?_ ?_;rotate_left
        ·
         intro w';go_simp;with_reducible rfl
        rotate_left
        ·
         simp only [Act.put,s0_,s1_,s2_,i64_w,i32_w];rfl
        refine pure_ (i:=4) (N:=some 22) (v:=?_) (a':=?_) #[y_,y_,n_,n_,y_,n_,n_,n_,n_,n_,n_,n_,n_,n_,n_,n_,n_,n_,n_] rfl rfl (any_of F.1 (by kernel_rfl)) (fun _ _ _ h=>h) (Or.inl ⟨by rfl,?_⟩) ?_ ?_;rotate_left
        ·
         intro w';go_simp;with_reducible rfl
        rotate_left
        ·
         simp only [Act.put,s0_,s1_,s2_,i64_w,i32_w];rfl
        refine pure_ (i:=5) (N:=some 23) (v:=?_) (a':=?_) #[y_,y_,n_,n_,y_,y_,n_,n_,n_,n_,n_,n_,n_,n_,n_,n_,n_,n_,n_] rfl rfl (any_of F.1 (by kernel_rfl)) (fun _ _ _ h=>h) (Or.inl ⟨by rfl,?_⟩) ?_ ?_;rotate_left
        ·
         intro w';go_simp;with_reducible rfl
        rotate_left
        ·
         simp only [Act.put,s0_,s1_,s2_,i64_w,i32_w];rfl
        refine pure_ (i:=8) (N:=some 26) (v:=?_) (a':=?_) #[y_,y_,n_,n_,y_,y_,n_,n_,y_,n_,n_,n_,n_,n_,n_,n_,n_,n_,n_] rfl rfl (any_of F.1 (by kernel_rfl)) (fun _ _ _ h=>h) (Or.inl ⟨by rfl,?_⟩) ?_ ?_;rotate_left
        ·
         intro w';go_simp;with_reducible rfl
        rotate_left
        ·
         simp only [Act.put,s0_,s1_,s2_,i64_w,i32_w];rfl
        refine pure_ (i:=9) (N:=some 27) (v:=?_) (a':=?_) #[y_,y_,n_,n_,y_,y_,n_,n_,y_,y_,n_,n_,n_,n_,n_,n_,n_,n_,n_] rfl rfl (any_of F.1 (by kernel_rfl)) (fun _ _ _ h=>h) (Or.inl ⟨by rfl,?_⟩) ?_ ?_;rotate_left
        ·
         intro w';go_simp;with_reducible rfl
        rotate_left
        ·
         simp only [Act.put,s0_,s1_,s2_,i64_w,i32_w];rfl
        refine pure_ (i:=12) (N:=some 30) (v:=?_) (a':=?_) #[y_,y_,n_,n_,y_,y_,n_,n_,y_,y_,n_,n_,y_,n_,n_,n_,n_,n_,n_] rfl rfl (any_of F.1 (by kernel_rfl)) (fun _ _ _ h=>h) (Or.inl ⟨by rfl,?_⟩) ?_ ?_;rotate_left
        ·
         intro w';go_simp;with_reducible rfl
        rotate_left
        ·
         simp only [Act.put,s0_,s1_,s2_,i64_w,i32_w];rfl
        refine pure_ (i:=13) (N:=some 31) (v:=?_) (a':=?_) #[y_,y_,n_,n_,y_,y_,n_,n_,y_,y_,n_,n_,y_,y_,n_,n_,n_,n_,n_] rfl rfl (any_of F.1 (by kernel_rfl)) (fun _ _ _ h=>h) (Or.inl ⟨by rfl,?_⟩) ?_ ?_;rotate_left
        ·
         intro w';go_simp;with_reducible rfl
        rotate_left
        ·
         simp only [Act.put,s0_,s1_,s2_,i64_w,i32_w];rfl
        refine take_ (i:=2) (N:=some 20) (v:=?_) (a':=?_) #[y_,y_,y_,n_,y_,y_,n_,n_,y_,y_,n_,n_,y_,y_,n_,n_,n_,n_,n_] rfl rfl (take_ofW F.1 b4.1 (by kernel_rfl)) (fun _ _ _ h=>h) (Or.inl ⟨by rfl,?_⟩) I ?_ ?_;rotate_left
        ·
         rintro w' ⟨s0,s1,s2,s3⟩;go_simp;with_reducible rfl
        rotate_left
        ·
         simp only [Act.put,s0_,s1_,s2_,i64_w,i32_w];rfl
        refine pure_ (i:=3) (N:=some 21) (v:=?_) (a':=?_) #[y_,y_,y_,y_,y_,y_,n_,n_,y_,y_,n_,n_,y_,y_,n_,n_,n_,n_,n_] rfl rfl (any_of F.1 (by kernel_rfl)) (fun _ _ _ h=>h) (Or.inl ⟨by rfl,?_⟩) ?_ ?_;rotate_left
        ·
         intro w';go_simp;with_reducible rfl
        rotate_left
        ·
         simp only [Act.put,s0_,s1_,s2_,i64_w,i32_w];rfl
        refine take_ (i:=6) (N:=some 24) (v:=?_) (a':=?_) #[y_,y_,y_,y_,y_,y_,y_,n_,y_,y_,n_,n_,y_,y_,n_,n_,n_,n_,n_] rfl rfl (take_ofW F.1 b4.1 (by kernel_rfl)) (fun _ _ _ h=>h) (Or.inl ⟨by rfl,?_⟩) I ?_ ?_;rotate_left
        ·
         rintro w' ⟨s0,s1,s2,s3⟩;go_simp;with_reducible rfl
        rotate_left
        ·
         simp only [Act.put,s0_,s1_,s2_,i64_w,i32_w];rfl
        refine pure_ (i:=7) (N:=some 25) (v:=?_) (a':=?_) #[y_,y_,y_,y_,y_,y_,y_,y_,y_,y_,n_,n_,y_,y_,n_,n_,n_,n_,n_] rfl rfl (any_of F.1 (by kernel_rfl)) (fun _ _ _ h=>h) (Or.inl ⟨by rfl,?_⟩) ?_ ?_;rotate_left
        ·
         intro w';go_simp;with_reducible rfl
        rotate_left
        ·
         simp only [Act.put,s0_,s1_,s2_,i64_w,i32_w];rfl
        refine take_ (i:=10) (N:=some 28) (v:=?_) (a':=?_) #[y_,y_,y_,y_,y_,y_,y_,y_,y_,y_,y_,n_,y_,y_,n_,n_,n_,n_,n_] rfl rfl (take_ofW F.1 b4.1 (by kernel_rfl)) (fun _ _ _ h=>h) (Or.inl ⟨by rfl,?_⟩) I ?_ ?_;rotate_left
        ·
         rintro w' ⟨s0,s1,s2,s3⟩;go_simp;with_reducible rfl
        rotate_left
        ·
         simp only [Act.put,s0_,s1_,s2_,i64_w,i32_w];rfl
        refine pure_ (i:=11) (N:=some 29) (v:=?_) (a':=?_) #[y_,y_,y_,y_,y_,y_,y_,y_,y_,y_,y_,y_,y_,y_,n_,n_,n_,n_,n_] rfl rfl (any_of F.1 (by kernel_rfl)) (fun _ _ _ h=>h) (Or.inl ⟨by rfl,?_⟩) ?_ ?_;rotate_left
        ·
         intro w';go_simp;with_reducible rfl
        rotate_left
        ·
         simp only [Act.put,s0_,s1_,s2_,i64_w,i32_w];rfl
        refine take_ (i:=14) (N:=some 32) (v:=?_) (a':=?_) #[y_,y_,y_,y_,y_,y_,y_,y_,y_,y_,y_,y_,y_,y_,y_,n_,n_,n_,n_] rfl rfl (take_ofW F.1 b4.1 (by kernel_rfl)) (fun _ _ _ h=>h) (Or.inl ⟨by rfl,?_⟩) I ?_ ?_;rotate_left
        ·
         rintro w' ⟨s0,s1,s2,s3⟩;go_simp;with_reducible rfl
        rotate_left
        ·
         simp only [Act.put,s0_,s1_,s2_,i64_w,i32_w];rfl
        refine pure_ (i:=15) (N:=some 33) (v:=?_) (a':=?_) #[y_,y_,y_,y_,y_,y_,y_,y_,y_,y_,y_,y_,y_,y_,y_,y_,n_,n_,n_] rfl rfl (any_of F.1 (by kernel_rfl)) (fun _ _ _ h=>h) (Or.inl ⟨by rfl,?_⟩) ?_ ?_;rotate_left
        ·
         intro w';go_simp;with_reducible rfl
        rotate_left
        ·
         simp only [Act.put,s0_,s1_,s2_,i64_w,i32_w];rfl
        refine pure_ (i:=16) (N:=some 34) (v:=?_) (a':=?_) #[y_,y_,y_,y_,y_,y_,y_,y_,y_,y_,y_,y_,y_,y_,y_,y_,y_,n_,n_] rfl rfl (any_of F.1 (by kernel_rfl)) (fun _ _ _ h=>h) (Or.inl ⟨by rfl,?_⟩) ?_ ?_;rotate_left
        ·
         intro w';go_simp;with_reducible rfl
        rotate_left
        ·
         simp only [Act.put,s0_,s1_,s2_,i64_w,i32_w];rfl
        refine one_ (i:=17) (N:=none) #[y_,y_,y_,y_,y_,y_,y_,y_,y_,y_,y_,y_,y_,y_,y_,y_,y_,y_,n_] rfl rfl (one_of F.1 (by kernel_rfl)) (by decide) (fun K hK=>?_);have h2:=q0_ B;have g2:=blk_frozen B.1 0;have h3:=q1_ B;have g3:=blk_frozen B.1 1;have h4:=q2_ B;have g4:=blk_frozen B.1 2;have h5:=q3_ B;have g5:=blk_frozen B.1 3;refine skip_ (w1:=?_) (by rfl) rfl ?_ ?_;rotate_left
        ·
         go_simp;rfl
        refine hK.out _ _ ⟨((cell_far (p:=⟨E,_,none⟩) (by first|exact Kd.own_blk (Kd.R_ne C.1 B.1 (by decide))|(rw [add_block];exact Kd.own_blk (Kd.R_ne C.1 B.1 (by decide)))|(show (Addr.add _ _).block ≠ _;rw [add_block];exact Kd.own_blk (Kd.R_ne C.1 B.1 (by decide)))|(dsimp only;exact Kd.own_blk (Kd.R_ne C.1 B.1 (by decide)))) _).trans (((cell_far (p:=⟨E,_,none⟩) (by first|exact Kd.own_blk (Kd.R_ne C.1 B.1 (by decide))|(rw [add_block];exact Kd.own_blk (Kd.R_ne C.1 B.1 (by decide)))|(show (Addr.add _ _).block ≠ _;rw [add_block];exact Kd.own_blk (Kd.R_ne C.1 B.1 (by decide)))|(dsimp only;exact Kd.own_blk (Kd.R_ne C.1 B.1 (by decide)))) _).trans (((cell_far (p:=⟨E,_,none⟩) (by first|exact Kd.own_blk (Kd.R_ne C.1 B.1 (by decide))|(rw [add_block];exact Kd.own_blk (Kd.R_ne C.1 B.1 (by decide)))|(show (Addr.add _ _).block ≠ _;rw [add_block];exact Kd.own_blk (Kd.R_ne C.1 B.1 (by decide)))|(dsimp only;exact Kd.own_blk (Kd.R_ne C.1 B.1 (by decide)))) _).trans (((cell_far (p:=⟨E,_,none⟩) (by first|exact Kd.own_blk (Kd.R_ne C.1 B.1 (by decide))|(rw [add_block];exact Kd.own_blk (Kd.R_ne C.1 B.1 (by decide)))|(show (Addr.add _ _).block ≠ _;rw [add_block];exact Kd.own_blk (Kd.R_ne C.1 B.1 (by decide)))|(dsimp only;exact Kd.own_blk (Kd.R_ne C.1 B.1 (by decide)))) _).trans (I.1)))))))),((cell_far (p:=⟨E,_,none⟩) (by first|exact Kd.own_blk (Kd.R_ne C.1 B.1 (by decide))|(rw [add_block];exact Kd.own_blk (Kd.R_ne C.1 B.1 (by decide)))|(show (Addr.add _ _).block ≠ _;rw [add_block];exact Kd.own_blk (Kd.R_ne C.1 B.1 (by decide)))|(dsimp only;exact Kd.own_blk (Kd.R_ne C.1 B.1 (by decide)))) _).trans (((cell_far (p:=⟨E,_,none⟩) (by first|exact Kd.own_blk (Kd.R_ne C.1 B.1 (by decide))|(rw [add_block];exact Kd.own_blk (Kd.R_ne C.1 B.1 (by decide)))|(show (Addr.add _ _).block ≠ _;rw [add_block];exact Kd.own_blk (Kd.R_ne C.1 B.1 (by decide)))|(dsimp only;exact Kd.own_blk (Kd.R_ne C.1 B.1 (by decide)))) _).trans (((cell_far (p:=⟨E,_,none⟩) (by first|exact Kd.own_blk (Kd.R_ne C.1 B.1 (by decide))|(rw [add_block];exact Kd.own_blk (Kd.R_ne C.1 B.1 (by decide)))|(show (Addr.add _ _).block ≠ _;rw [add_block];exact Kd.own_blk (Kd.R_ne C.1 B.1 (by decide)))|(dsimp only;exact Kd.own_blk (Kd.R_ne C.1 B.1 (by decide)))) _).trans (((cell_far (p:=⟨E,_,none⟩) (by first|exact Kd.own_blk (Kd.R_ne C.1 B.1 (by decide))|(rw [add_block];exact Kd.own_blk (Kd.R_ne C.1 B.1 (by decide)))|(show (Addr.add _ _).block ≠ _;rw [add_block];exact Kd.own_blk (Kd.R_ne C.1 B.1 (by decide)))|(dsimp only;exact Kd.own_blk (Kd.R_ne C.1 B.1 (by decide)))) _).trans (I.2.1)))))))),((cell_far (p:=⟨E,_,none⟩) (by first|exact Kd.own_blk (Kd.R_ne C.1 B.1 (by decide))|(rw [add_block];exact Kd.own_blk (Kd.R_ne C.1 B.1 (by decide)))|(show (Addr.add _ _).block ≠ _;rw [add_block];exact Kd.own_blk (Kd.R_ne C.1 B.1 (by decide)))|(dsimp only;exact Kd.own_blk (Kd.R_ne C.1 B.1 (by decide)))) _).trans (((cell_far (p:=⟨E,_,none⟩) (by first|exact Kd.own_blk (Kd.R_ne C.1 B.1 (by decide))|(rw [add_block];exact Kd.own_blk (Kd.R_ne C.1 B.1 (by decide)))|(show (Addr.add _ _).block ≠ _;rw [add_block];exact Kd.own_blk (Kd.R_ne C.1 B.1 (by decide)))|(dsimp only;exact Kd.own_blk (Kd.R_ne C.1 B.1 (by decide)))) _).trans (((cell_far (p:=⟨E,_,none⟩) (by first|exact Kd.own_blk (Kd.R_ne C.1 B.1 (by decide))|(rw [add_block];exact Kd.own_blk (Kd.R_ne C.1 B.1 (by decide)))|(show (Addr.add _ _).block ≠ _;rw [add_block];exact Kd.own_blk (Kd.R_ne C.1 B.1 (by decide)))|(dsimp only;exact Kd.own_blk (Kd.R_ne C.1 B.1 (by decide)))) _).trans (((cell_far (p:=⟨E,_,none⟩) (by first|exact Kd.own_blk (Kd.R_ne C.1 B.1 (by decide))|(rw [add_block];exact Kd.own_blk (Kd.R_ne C.1 B.1 (by decide)))|(show (Addr.add _ _).block ≠ _;rw [add_block];exact Kd.own_blk (Kd.R_ne C.1 B.1 (by decide)))|(dsimp only;exact Kd.own_blk (Kd.R_ne C.1 B.1 (by decide)))) _).trans (I.2.2.1)))))))),((cell_far (p:=⟨E,_,none⟩) (by first|exact Kd.own_blk (Kd.R_ne C.1 B.1 (by decide))|(rw [add_block];exact Kd.own_blk (Kd.R_ne C.1 B.1 (by decide)))|(show (Addr.add _ _).block ≠ _;rw [add_block];exact Kd.own_blk (Kd.R_ne C.1 B.1 (by decide)))|(dsimp only;exact Kd.own_blk (Kd.R_ne C.1 B.1 (by decide)))) _).trans (((cell_far (p:=⟨E,_,none⟩) (by first|exact Kd.own_blk (Kd.R_ne C.1 B.1 (by decide))|(rw [add_block];exact Kd.own_blk (Kd.R_ne C.1 B.1 (by decide)))|(show (Addr.add _ _).block ≠ _;rw [add_block];exact Kd.own_blk (Kd.R_ne C.1 B.1 (by decide)))|(dsimp only;exact Kd.own_blk (Kd.R_ne C.1 B.1 (by decide)))) _).trans (((cell_far (p:=⟨E,_,none⟩) (by first|exact Kd.own_blk (Kd.R_ne C.1 B.1 (by decide))|(rw [add_block];exact Kd.own_blk (Kd.R_ne C.1 B.1 (by decide)))|(show (Addr.add _ _).block ≠ _;rw [add_block];exact Kd.own_blk (Kd.R_ne C.1 B.1 (by decide)))|(dsimp only;exact Kd.own_blk (Kd.R_ne C.1 B.1 (by decide)))) _).trans (((cell_far (p:=⟨E,_,none⟩) (by first|exact Kd.own_blk (Kd.R_ne C.1 B.1 (by decide))|(rw [add_block];exact Kd.own_blk (Kd.R_ne C.1 B.1 (by decide)))|(show (Addr.add _ _).block ≠ _;rw [add_block];exact Kd.own_blk (Kd.R_ne C.1 B.1 (by decide)))|(dsimp only;exact Kd.own_blk (Kd.R_ne C.1 B.1 (by decide)))) _).trans (I.2.2.2))))))))⟩ (fun I=>?_)
        clear hK K;refine pure_ (i:=18) (N:=some 3) (v:=?_) (a':=?_) #[y_,y_,y_,y_,y_,y_,y_,y_,y_,y_,y_,y_,y_,y_,y_,y_,y_,y_,y_] rfl rfl (any_of F.1 (by kernel_rfl)) (fun _ _ _ h=>h) (Or.inl ⟨by rfl,?_⟩) ?_ ?_;rotate_left
        ·
         intro w';go_simp;with_reducible rfl
        rotate_left
        ·
         simp only [Act.put,s0_,s1_,s2_,i64_w,i32_w];rfl
        refine done_ (done_of F.1 (by kernel_rfl)) ?_;try go_wp2
        refine bodyPost_ret (results_ct rfl _ _ E 23 #[.int .i64 (wrap64 (2 * (rd D 0))),.int .i64 (wrap64 (2 * (rd D 1))),.int .i64 (wrap64 (2 * (rd D 2))),.int .i64 (wrap64 (2 * (rd D 3)))] (0,0) _ rfl (by refine blk_put (cs:=#[.int .i64 (wrap64 (2 * (rd D 0))),.int .i64 (wrap64 (2 * (rd D 1))),.int .i64 (wrap64 (2 * (rd D 2))),.int .i64 0]) ?_ 3 _ rfl;refine blk_put (cs:=#[.int .i64 (wrap64 (2 * (rd D 0))),.int .i64 (wrap64 (2 * (rd D 1))),.int .i64 0,.int .i64 0]) ?_ 2 _ rfl;refine blk_put (cs:=#[.int .i64 (wrap64 (2 * (rd D 0))),.int .i64 0,.int .i64 0,.int .i64 0]) ?_ 1 _ rfl;refine blk_put (cs:=#[.int .i64 0,.int .i64 0,.int .i64 0,.int .i64 0]) ?_ 0 _ rfl;exact B.1) Try.underlying23 rfl (by kernel_rfl)) rfl ?_;exact ⟨by first|rfl|(simp [errW_none,errW_some] <;> rfl)|(simp [*,errW_none,errW_some] <;> rfl),by repeat (first|(with_reducible first|exact J.1|apply below_alloc|apply pw_below_drewN|apply below_drew1|refine below_set ?_ M.1)|exact J.1)⟩
       ·
        rw [if_neg c14] at H;exact absurd H (by simp)
      ·
       rw [if_neg c13] at H;exact absurd H (by simp)
     ·
      rw [if_neg c12] at H;exact absurd H (by simp)
    ·
     rw [if_neg c11] at H;exact absurd H (by simp)
/-! ### bellpulllaw04_lives: function 19 -/
def bellpulllaw04_lives.f (k:Nat) :Option (Bool):=(norm_Mul.f k 0 2 0 0 0 0 2 0).bind fun bt342=>((norm_Norm.f k 1 1 1 1).bind fun bt348=>((norm_Four.f k 7).bind fun bt350=>((norm_Three.f k 7).bind fun bt354=>((norm_Count.f k 4).bind fun bt358=>((norm_Hurwitz.f k 2).bind fun bt360=>((norm_Split.f k 5).bind fun bt362=>((norm_Gcd.f k 4 0 0 0 2 2 0 0).bind fun bt368=>((norm_Divide.f k 4 0 0 0 2 2 0 0).bind fun bt374=>(if (bt342.1 == 0 && (bt342.2.1 == 0 && (bt342.2.2.1 == 0 && (bt342.2.2.2.1 == 2))))=true then (if bt342.2.2.2.2=0 then (if bt348.1=1 then (if bt348.2=0 then ((bellpullref01_Same.f k bt350.1 (([2,1,1,1]:List Int))).bind fun t388=>(if t388=true then (if bt350.2=0 then (if bt354.2=5 then (if bt358.1=24 then (if bt358.2=0 then (if bt360.1=24 then (if bt360.2=0 then (if (bt362.1 == 4 && (bt362.2.1 == 2 && (bt362.2.2.1 == 0 && (bt362.2.2.2.1 == 0))))=true then (if bt362.2.2.2.2=0 then (if (bt368.1 == 2 && (bt368.2.1 == 2 && (bt368.2.2.1 == 0 && (bt368.2.2.2.1 == 0))))=true then (if bt368.2.2.2.2=0 then (if (bt374.1 == 2 && (bt374.2.1 == (-2) && (bt374.2.2.1 == 0 && (bt374.2.2.2.1 == 0))))=true then (if (bt374.2.2.2.2.1 == 0 && (bt374.2.2.2.2.2.1 == 0 && (bt374.2.2.2.2.2.2.1 == 0 && (bt374.2.2.2.2.2.2.2.1 == 0))))=true then (some (bt374.2.2.2.2.2.2.2.2 == 0)) else (none)) else (none)) else (none)) else (none)) else (none)) else (none)) else (none)) else (none)) else (none)) else (none)) else (none)) else (none)) else (none))) else (none)) else (none)) else (none)) else (none))))))))))
theorem bellpulllaw04_lives.mono:∀ k,LeO (bellpulllaw04_lives.f k ) (bellpulllaw04_lives.f (k + 1) ):=by
  intro  k
  unfold bellpulllaw04_lives.f
  with_reducible repeat' first|exact bellpullref01_Same.mono _ _ _|exact norm_Count.mono _ _|exact norm_Divide.mono _ _ _ _ _ _ _ _ _|exact norm_Four.mono _ _|exact norm_Gcd.mono _ _ _ _ _ _ _ _ _|exact norm_Hurwitz.mono _ _|exact norm_Mul.mono _ _ _ _ _ _ _ _ _|exact norm_Norm.mono _ _ _ _ _|exact norm_Split.mono _ _|exact norm_Three.mono _ _|exact LeO.refl _|exact LeO.none _|refine LeO.ite ?_ ?_|refine LeO.bind ?_ (fun _=>?_)
set_option maxHeartbeats 8000000 in
set_option maxRecDepth 100000 in
theorem bellpulllaw04_lives.calls (k:Nat)  (r:Bool) (w:World) (h:bellpulllaw04_lives.f k =some r) :
    Calls Try.prog 19 #[] w fun e w'=>e=.returned (.bool r)∧Below w.heap.size w w':=by
 have u3:=Try.underlying23;have I:=mk0 (Below.refl w.heap.size w);have H:((norm_Mul.f k 0 2 0 0 0 0 2 0).bind fun d3=>((norm_Norm.f k 1 1 1 1).bind fun g3=>((norm_Four.f k 7).bind fun g4=>((norm_Three.f k 7).bind fun h3=>((norm_Count.f k 4).bind fun g5=>((norm_Hurwitz.f k 2).bind fun g6=>((norm_Split.f k 5).bind fun d4=>((norm_Gcd.f k 4 0 0 0 2 2 0 0).bind fun d5=>((norm_Divide.f k 4 0 0 0 2 2 0 0).bind fun d0=>(if (d3.1 == 0 && (d3.2.1 == 0 && (d3.2.2.1 == 0 && (d3.2.2.2.1 == 2))))=true then (if d3.2.2.2.2=0 then (if g3.1=1 then (if g3.2=0 then ((bellpullref01_Same.f k g4.1 (([2,1,1,1]:List Int))).bind fun e5=>(if e5=true then (if g4.2=0 then (if h3.2=5 then (if g5.1=24 then (if g5.2=0 then (if g6.1=24 then (if g6.2=0 then (if (d4.1 == 4 && (d4.2.1 == 2 && (d4.2.2.1 == 0 && (d4.2.2.2.1 == 0))))=true then (if d4.2.2.2.2=0 then (if (d5.1 == 2 && (d5.2.1 == 2 && (d5.2.2.1 == 0 && (d5.2.2.2.1 == 0))))=true then (if d5.2.2.2.2=0 then (if (d0.1 == 2 && (d0.2.1 == (-2) && (d0.2.2.1 == 0 && (d0.2.2.2.1 == 0))))=true then (if (d0.2.2.2.2.1 == 0 && (d0.2.2.2.2.2.1 == 0 && (d0.2.2.2.2.2.2.1 == 0 && (d0.2.2.2.2.2.2.2.1 == 0))))=true then (some (d0.2.2.2.2.2.2.2.2 == 0)) else (none)) else (none)) else (none)) else (none)) else (none)) else (none)) else (none)) else (none)) else (none)) else (none)) else (none)) else (none)) else (none))) else (none)) else (none)) else (none)) else (none)))))))))))=some r:=h;clear h;replace H:=Option.bind_eq_some_iff.mp H;obtain ⟨⟨T,U,X,Z,e7⟩,h5,H⟩:=H;(try dsimp only at H);have A1:=mk0 h5;clear h5;replace H:=Option.bind_eq_some_iff.mp H;obtain ⟨⟨e8,e9⟩,h6,H⟩:=H;(try dsimp only at H);have A2:=mk0 h6;clear h6;replace H:=Option.bind_eq_some_iff.mp H;obtain ⟨⟨g1,d7⟩,h7,H⟩:=H;(try dsimp only at H);have A3:=mk0 h7;clear h7;replace H:=Option.bind_eq_some_iff.mp H;obtain ⟨⟨i4,d8⟩,h8,H⟩:=H;(try dsimp only at H);have A4:=mk0 h8;clear h8;replace H:=Option.bind_eq_some_iff.mp H;obtain ⟨⟨d9,e0⟩,h9,H⟩:=H;(try dsimp only at H);have A5:=mk0 h9;clear h9;replace H:=Option.bind_eq_some_iff.mp H;obtain ⟨⟨e1,e2⟩,i0,H⟩:=H;(try dsimp only at H);have A6:=mk0 i0;clear i0;replace H:=Option.bind_eq_some_iff.mp H;obtain ⟨⟨a0,a1,a2,a3,e3⟩,i1,H⟩:=H;(try dsimp only at H);have A7:=mk0 i1;clear i1;replace H:=Option.bind_eq_some_iff.mp H;obtain ⟨⟨a4,a5,a6,a8,e4⟩,i2,H⟩:=H;(try dsimp only at H);have A8:=mk0 i2;clear i2;replace H:=Option.bind_eq_some_iff.mp H;obtain ⟨⟨a9,b1,b4,c8,b0,b2,b5,c9,g2⟩,i3,H⟩:=H;(try dsimp only at H);have A9:=mk0 i3;clear i3
 by_cases c10:(T == 0 && (U == 0 && (X == 0 && (Z == 2))))=true
 ·
  rw [if_pos c10] at H;have c10b0:(T == 0 && (U == 0 && (X == 0 && (Z == 2))))=true:=c10;(try (have c10b1:decide (T=0 && (U == 0 && (X == 0 && (Z == 2))))=true:=by simpa using c10));(try (have c10b2:(T == 0 && (U == 0 && (X == 0 && (Z == 2))))=true:=by simpa using c10));clear c10
  by_cases c11:e7=0
  ·
   rw [if_pos c11] at H;have c11b0:(e7 == 0)=true:=beq_iff_eq.mpr c11;have c11b1:(e7 != 0)=false:=bne_eq_false_iff_eq.mpr c11;clear c11
   by_cases c12:e8=1
   ·
    rw [if_pos c12] at H;have c12b0:(e8 == 1)=true:=beq_iff_eq.mpr c12;have c12b1:(e8 != 1)=false:=bne_eq_false_iff_eq.mpr c12;clear c12
    by_cases c13:e9=0
    ·
     rw [if_pos c13] at H;have c13b0:(e9 == 0)=true:=beq_iff_eq.mpr c13;have c13b1:(e9 != 0)=false:=bne_eq_false_iff_eq.mpr c13;clear c13;obtain ⟨g9,d6⟩:∃ y_:List Int,y_=(([2,1,1,1]:List Int)):=⟨_,rfl⟩
     replace H:((bellpullref01_Same.f k g1 g9).bind fun e5=>(if e5=true then (if d7=0 then (if d8=5 then (if d9=24 then (if e0=0 then (if e1=24 then (if e2=0 then (if (a0 == 4 && (a1 == 2 && (a2 == 0 && (a3 == 0))))=true then (if e3=0 then (if (a4 == 2 && (a5 == 2 && (a6 == 0 && (a8 == 0))))=true then (if e4=0 then (if (a9 == 2 && (b1 == (-2) && (b4 == 0 && (c8 == 0))))=true then (if (b0 == 0 && (b2 == 0 && (b5 == 0 && (c9 == 0))))=true then (some (g2 == 0)) else (none)) else (none)) else (none)) else (none)) else (none)) else (none)) else (none)) else (none)) else (none)) else (none)) else (none)) else (none)) else (none)))=some r:=by first|(rw [d6];with_reducible exact H)|(have h0:=(Option.bind_some _ _).symm.trans H;rw [d6];with_reducible exact h0)|(have h0:=(Option.bind_some _ _).symm.trans H;with_reducible exact h0)|with_reducible exact H|(rw [d6];exact H)|exact H
     have g7:=mk0 d6;clear d6;replace H:=Option.bind_eq_some_iff.mp H;obtain ⟨e5,h1,H⟩:=H;(try dsimp only at H);have r7:=mk0 h1;clear h1
     by_cases g8:e5=true
     ·
      subst g8;have H1:(if d7=0 then (if d8=5 then (if d9=24 then (if e0=0 then (if e1=24 then (if e2=0 then (if (a0 == 4 && (a1 == 2 && (a2 == 0 && (a3 == 0))))=true then (if e3=0 then (if (a4 == 2 && (a5 == 2 && (a6 == 0 && (a8 == 0))))=true then (if e4=0 then (if (a9 == 2 && (b1 == (-2) && (b4 == 0 && (c8 == 0))))=true then (if (b0 == 0 && (b2 == 0 && (b5 == 0 && (c9 == 0))))=true then (some (g2 == 0)) else (none)) else (none)) else (none)) else (none)) else (none)) else (none)) else (none)) else (none)) else (none)) else (none)) else (none)) else (none))=some r:=by rw [if_pos rfl] at H;exact H
      clear H;have H:=H1;clear H1
      by_cases c16:d7=0
      ·
       rw [if_pos c16] at H;have c16b0:(d7 == 0)=true:=beq_iff_eq.mpr c16;have c16b1:(d7 != 0)=false:=bne_eq_false_iff_eq.mpr c16;clear c16
       by_cases c17:d8=5
       ·
        rw [if_pos c17] at H;have c17b0:(d8 == 5)=true:=beq_iff_eq.mpr c17;have c17b1:(d8 != 5)=false:=bne_eq_false_iff_eq.mpr c17;clear c17
        by_cases c18:d9=24
        ·
         rw [if_pos c18] at H;have c18b0:(d9 == 24)=true:=beq_iff_eq.mpr c18;have c18b1:(d9 != 24)=false:=bne_eq_false_iff_eq.mpr c18;clear c18
         by_cases c19:e0=0
         ·
          rw [if_pos c19] at H;have c19b0:(e0 == 0)=true:=beq_iff_eq.mpr c19;have c19b1:(e0 != 0)=false:=bne_eq_false_iff_eq.mpr c19;clear c19
          by_cases c20:e1=24
          ·
           rw [if_pos c20] at H;have c20b0:(e1 == 24)=true:=beq_iff_eq.mpr c20;have c20b1:(e1 != 24)=false:=bne_eq_false_iff_eq.mpr c20;clear c20
           by_cases c21:e2=0
           ·
            rw [if_pos c21] at H;have c21b0:(e2 == 0)=true:=beq_iff_eq.mpr c21;have c21b1:(e2 != 0)=false:=bne_eq_false_iff_eq.mpr c21;clear c21
            by_cases c22:(a0 == 4 && (a1 == 2 && (a2 == 0 && (a3 == 0))))=true
            ·
             rw [if_pos c22] at H;have c22b0:(a0 == 4 && (a1 == 2 && (a2 == 0 && (a3 == 0))))=true:=c22;(try (have c22b1:decide (a0=4 && (a1 == 2 && (a2 == 0 && (a3 == 0))))=true:=by simpa using c22));(try (have c22b2:(a0 == 4 && (a1 == 2 && (a2 == 0 && (a3 == 0))))=true:=by simpa using c22));clear c22
             by_cases c23:e3=0
             ·
              rw [if_pos c23] at H;have c23b0:(e3 == 0)=true:=beq_iff_eq.mpr c23;have c23b1:(e3 != 0)=false:=bne_eq_false_iff_eq.mpr c23;clear c23
              by_cases c24:(a4 == 2 && (a5 == 2 && (a6 == 0 && (a8 == 0))))=true
              ·
               rw [if_pos c24] at H;have c24b0:(a4 == 2 && (a5 == 2 && (a6 == 0 && (a8 == 0))))=true:=c24;(try (have c24b1:decide (a4=2 && (a5 == 2 && (a6 == 0 && (a8 == 0))))=true:=by simpa using c24));(try (have c24b2:(a4 == 2 && (a5 == 2 && (a6 == 0 && (a8 == 0))))=true:=by simpa using c24));clear c24
               by_cases c25:e4=0
               ·
                rw [if_pos c25] at H;have c25b0:(e4 == 0)=true:=beq_iff_eq.mpr c25;have c25b1:(e4 != 0)=false:=bne_eq_false_iff_eq.mpr c25;clear c25
                by_cases c26:(a9 == 2 && (b1 == (-2) && (b4 == 0 && (c8 == 0))))=true
                ·
                 rw [if_pos c26] at H;have c26b0:(a9 == 2 && (b1 == (-2) && (b4 == 0 && (c8 == 0))))=true:=c26;(try (have c26b1:decide (a9=2 && (b1 == (-2) && (b4 == 0 && (c8 == 0))))=true:=by simpa using c26));(try (have c26b2:(a9 == 2 && (b1 == (-2) && (b4 == 0 && (c8 == 0))))=true:=by simpa using c26));clear c26
                 by_cases c27:(b0 == 0 && (b2 == 0 && (b5 == 0 && (c9 == 0))))=true
                 ·
                  rw [if_pos c27] at H;have c27b0:(b0 == 0 && (b2 == 0 && (b5 == 0 && (c9 == 0))))=true:=c27;(try (have c27b1:decide (b0=0 && (b2 == 0 && (b5 == 0 && (c9 == 0))))=true:=by simpa using c27));(try (have c27b2:(b0 == 0 && (b2 == 0 && (b5 == 0 && (c9 == 0))))=true:=by simpa using c27));clear c27;obtain rfl:=Option.some.inj H;(go_enter Try.func19,Try.ntmps19);dsimp only [List.append];go_wp2_with (first|((with_reducible refine gate_callee (f:=38) rfl ?_);refine goesL_ (some 23) rfl rfl Try.func38 (by kernel_rfl) rfl #[.agg #[.int .i64 0,.int .i64 2,.int .i64 0,.int .i64 0],.agg #[.int .i64 0,.int .i64 0,.int .i64 2,.int .i64 0]] rfl (by (try simp only [m0_,m1_,m2_]);first|done|rfl|(simp only [l0_,l1_];rfl)) ?_;(with_reducible refine (norm_Mul.calls k 0 2 0 0 0 0 2 0 T U X Z e7 _ A1.1).mono ?_);rintro e x0 ⟨rfl,hb⟩;refine ⟨_,rfl,?_⟩;replace I:=mk0 (below_step (by repeat (first|(with_reducible first|exact I.1|apply below_alloc|apply pw_below_drewN|apply below_drew1)|exact I.1)) hb);(try clear hb);(try clear hk))|((with_reducible refine gate_dst (N:=1) rfl ?_);(try (refine gate_guard (by rfl) ?_;dsimp only));refine box_event ?hg (N:=1) ?hd (cs:=#[.int .i64 0,.int .i64 0,.int .i64 0,.int .i64 0]) (t:=23) ?hr ?_;(case hd=>rfl);(case hg=>rfl);(case hr=>first|(go_simp;done)|(go_simp;rfl));intro D hg x1 b3 hb;have B:=mk0 (b3);have r8:=mk0 ((by rw [hg];exact (below_size (by repeat (first|(with_reducible first|exact I.1|apply below_alloc|apply pw_below_drewN|apply below_drew1)|exact I.1))):w.heap.size ≤ D));have R:=mk0 ((by rw [hg];exact (below_size (by repeat (first|(with_reducible first|exact I.1|apply below_alloc|apply pw_below_drewN|apply below_drew1)|exact I.1))):w.heap.size ≤ D));replace I:=mk0 (below_step (by repeat (first|(with_reducible first|exact I.1|apply below_alloc|apply pw_below_drewN|apply below_drew1)|exact I.1)) hb);clear hb b3 hg;have i7:=q0_ B;have i8:=q1_ B;have i9:=q2_ B;have j0:=q3_ B;have j1:=blk_frozen B.1 0;have j2:=blk_frozen B.1 1;have j3:=blk_frozen B.1 2;have j4:=blk_frozen B.1 3)|((with_reducible refine gate_callee (f:=40) rfl ?_);refine goesL_ (some 28) rfl rfl Try.func40 (by kernel_rfl) rfl #[.agg #[.int .i64 1,.int .i64 1,.int .i64 1,.int .i64 1]] rfl (by (try simp only [m0_,m1_,m2_]);first|done|rfl|(simp only [l0_,l1_];rfl)) ?_;(with_reducible refine (norm_Norm.calls k 1 1 1 1 e8 e9 _ A2.1).mono ?_);rintro e x2 ⟨rfl,hb⟩;refine ⟨_,rfl,?_⟩;replace B:=mk0 (blk_below (g:=D) (o:=.cells #[.int .i64 T,.int .i64 U,.int .i64 X,.int .i64 Z] 23 (0,0)) (by (with_reducible repeat (first|refine blk_drewN ?_ _|refine blk_drew ?_|refine blk_alloc ?_ _));refine blk_put (cs:=#[.int .i64 T,.int .i64 U,.int .i64 X,.int .i64 0]) ?_ 3 _ rfl;(with_reducible repeat (first|refine blk_drewN ?_ _|refine blk_drew ?_|refine blk_alloc ?_ _));refine blk_put (cs:=#[.int .i64 T,.int .i64 U,.int .i64 0,.int .i64 0]) ?_ 2 _ rfl;(with_reducible repeat (first|refine blk_drewN ?_ _|refine blk_drew ?_|refine blk_alloc ?_ _));refine blk_put (cs:=#[.int .i64 T,.int .i64 0,.int .i64 0,.int .i64 0]) ?_ 1 _ rfl;(with_reducible repeat (first|refine blk_drewN ?_ _|refine blk_drew ?_|refine blk_alloc ?_ _));refine blk_put (cs:=#[.int .i64 0,.int .i64 0,.int .i64 0,.int .i64 0]) ?_ 0 _ rfl;(with_reducible repeat (first|refine blk_drewN ?_ _|refine blk_drew ?_|refine blk_alloc ?_ _));exact B.1) hb);replace I:=mk0 (below_step (by repeat (first|(with_reducible first|exact I.1|apply below_alloc|apply pw_below_drewN|apply below_drew1|refine below_set ?_ R.1)|exact I.1)) hb);(try clear hb);(try clear hk))|((with_reducible refine gate_callee (f:=23) rfl ?_);refine goesL_ (some 32) rfl rfl Try.func23 (by kernel_rfl) rfl #[.int .i64 7] rfl (by (try simp only [m0_,m1_,m2_]);first|done|rfl|(simp only [l0_,l1_];rfl)) ?_;(with_reducible refine (norm_Four.calls k 7 g1 d7 _ A3.1).mono ?_);rintro e x3 ⟨v3,rfl,e6,hb⟩;refine ⟨_,rfl,?_⟩;have J:=mk0 (Kd.R_lower e6 (below_size (by repeat (first|(with_reducible first|exact I.1|apply below_alloc|apply pw_below_drewN|apply below_drew1|refine below_set ?_ R.1)|exact I.1))));replace B:=mk0 (blk_below (g:=D) (o:=.cells #[.int .i64 T,.int .i64 U,.int .i64 X,.int .i64 Z] 23 (0,0)) (by (with_reducible repeat (first|refine blk_drewN ?_ _|refine blk_drew ?_|refine blk_alloc ?_ _));exact B.1) hb);replace I:=mk0 (below_step (by repeat (first|(with_reducible first|exact I.1|apply below_alloc|apply pw_below_drewN|apply below_drew1|refine below_set ?_ R.1)|exact I.1)) hb);(try clear hb);(try clear hk);(try clear e6))|((with_reducible refine gate_callee (f:=24) rfl ?_);refine goesL_ (some 36) rfl rfl Try.func24 (by kernel_rfl) rfl #[.int .i64 7] rfl (by (try simp only [m0_,m1_,m2_]);first|done|rfl|(simp only [l0_,l1_];rfl)) ?_;(with_reducible refine (norm_Three.calls k 7 i4 d8 _ A4.1).mono ?_);rintro e x4 ⟨v4,rfl,e6,hb⟩;refine ⟨_,rfl,?_⟩;have Y:=mk0 (Kd.R_lower (Kd.R_new' e6 (Kd.R_lt (by (with_reducible repeat (first|apply Kd.R_alloc|apply Kd.R_drewN|apply Kd.R_drew));exact J.1))) (below_size (by repeat (first|(with_reducible first|exact I.1|apply below_alloc|apply pw_below_drewN|apply below_drew1|refine below_set ?_ R.1)|exact I.1))));replace J:=mk0 (Kd.R_elder' (by (with_reducible repeat (first|apply Kd.R_alloc|apply Kd.R_drewN|apply Kd.R_drew));exact J.1) (Kd.R_base e6) hb);replace B:=mk0 (blk_below (g:=D) (o:=.cells #[.int .i64 T,.int .i64 U,.int .i64 X,.int .i64 Z] 23 (0,0)) (by (with_reducible repeat (first|refine blk_drewN ?_ _|refine blk_drew ?_|refine blk_alloc ?_ _));exact B.1) hb);replace I:=mk0 (below_step (by repeat (first|(with_reducible first|exact I.1|apply below_alloc|apply pw_below_drewN|apply below_drew1|refine below_set ?_ R.1)|exact I.1)) hb);(try clear hb);(try clear hk);(try clear e6))|((with_reducible refine gate_callee (f:=28) rfl ?_);refine goesL_ (some 40) rfl rfl Try.func28 (by kernel_rfl) rfl #[.int .i64 4] rfl (by (try simp only [m0_,m1_,m2_]);first|done|rfl|(simp only [l0_,l1_];rfl)) ?_;(with_reducible refine (norm_Count.calls k 4 d9 e0 _ A5.1).mono ?_);rintro e x5 ⟨rfl,hb⟩;refine ⟨_,rfl,?_⟩;replace J:=mk0 (Kd.R_below (by (with_reducible repeat (first|apply Kd.R_alloc|apply Kd.R_drewN|apply Kd.R_drew));exact J.1) hb);replace Y:=mk0 (Kd.R_below (by (with_reducible repeat (first|apply Kd.R_alloc|apply Kd.R_drewN|apply Kd.R_drew));exact Y.1) hb);replace B:=mk0 (blk_below (g:=D) (o:=.cells #[.int .i64 T,.int .i64 U,.int .i64 X,.int .i64 Z] 23 (0,0)) (by (with_reducible repeat (first|refine blk_drewN ?_ _|refine blk_drew ?_|refine blk_alloc ?_ _));exact B.1) hb);replace I:=mk0 (below_step (by repeat (first|(with_reducible first|exact I.1|apply below_alloc|apply pw_below_drewN|apply below_drew1|refine below_set ?_ R.1)|exact I.1)) hb);(try clear hb);(try clear hk))|((with_reducible refine gate_callee (f:=29) rfl ?_);refine goesL_ (some 44) rfl rfl Try.func29 (by kernel_rfl) rfl #[.int .i64 2] rfl (by (try simp only [m0_,m1_,m2_]);first|done|rfl|(simp only [l0_,l1_];rfl)) ?_;(with_reducible refine (norm_Hurwitz.calls k 2 e1 e2 _ A6.1).mono ?_);rintro e x6 ⟨rfl,hb⟩;refine ⟨_,rfl,?_⟩;replace J:=mk0 (Kd.R_below (by (with_reducible repeat (first|apply Kd.R_alloc|apply Kd.R_drewN|apply Kd.R_drew));exact J.1) hb);replace Y:=mk0 (Kd.R_below (by (with_reducible repeat (first|apply Kd.R_alloc|apply Kd.R_drewN|apply Kd.R_drew));exact Y.1) hb);replace B:=mk0 (blk_below (g:=D) (o:=.cells #[.int .i64 T,.int .i64 U,.int .i64 X,.int .i64 Z] 23 (0,0)) (by (with_reducible repeat (first|refine blk_drewN ?_ _|refine blk_drew ?_|refine blk_alloc ?_ _));exact B.1) hb);replace I:=mk0 (below_step (by repeat (first|(with_reducible first|exact I.1|apply below_alloc|apply pw_below_drewN|apply below_drew1|refine below_set ?_ R.1)|exact I.1)) hb);(try clear hb);(try clear hk))|((with_reducible refine gate_callee (f:=44) rfl ?_);refine goesL_ (some 48) rfl rfl Try.func44 (by kernel_rfl) rfl #[.int .i64 5] rfl (by (try simp only [m0_,m1_,m2_]);first|done|rfl|(simp only [l0_,l1_];rfl)) ?_;(with_reducible refine (norm_Split.calls k 5 a0 a1 a2 a3 e3 _ A7.1).mono ?_);rintro e x7 ⟨rfl,hb⟩;refine ⟨_,rfl,?_⟩;replace J:=mk0 (Kd.R_below (by (with_reducible repeat (first|apply Kd.R_alloc|apply Kd.R_drewN|apply Kd.R_drew));exact J.1) hb);replace Y:=mk0 (Kd.R_below (by (with_reducible repeat (first|apply Kd.R_alloc|apply Kd.R_drewN|apply Kd.R_drew));exact Y.1) hb);replace B:=mk0 (blk_below (g:=D) (o:=.cells #[.int .i64 T,.int .i64 U,.int .i64 X,.int .i64 Z] 23 (0,0)) (by (with_reducible repeat (first|refine blk_drewN ?_ _|refine blk_drew ?_|refine blk_alloc ?_ _));exact B.1) hb);replace I:=mk0 (below_step (by repeat (first|(with_reducible first|exact I.1|apply below_alloc|apply pw_below_drewN|apply below_drew1|refine below_set ?_ R.1)|exact I.1)) hb);(try clear hb);(try clear hk))|((with_reducible refine gate_dst (N:=13) rfl ?_);(try (refine gate_guard (by rfl) ?_;dsimp only));refine box_event ?hg (N:=13) ?hd (cs:=#[.int .i64 0,.int .i64 0,.int .i64 0,.int .i64 0]) (t:=23) ?hr ?_;(case hd=>rfl);(case hg=>rfl);(case hr=>first|(go_simp;done)|(go_simp;rfl));intro E hg x8 b3 hb;have C:=mk0 (b3);have r9:=mk0 ((by rw [hg];exact (below_size (by repeat (first|(with_reducible first|exact I.1|apply below_alloc|apply pw_below_drewN|apply below_drew1|refine below_set ?_ R.1)|exact I.1))):w.heap.size ≤ E));have a7:=mk0 ((by rw [hg];exact (below_size (by repeat (first|(with_reducible first|exact I.1|apply below_alloc|apply pw_below_drewN|apply below_drew1|refine below_set ?_ R.1)|exact I.1))):w.heap.size ≤ E));have b7:=mk0 ((by rw [hg];exact Nat.ne_of_lt (blk_lt (g:=D) (o:=.cells #[.int .i64 T,.int .i64 U,.int .i64 X,.int .i64 Z] 23 (0,0)) (by (with_reducible repeat (first|refine blk_drewN ?_ _|refine blk_drew ?_|refine blk_alloc ?_ _));exact B.1)):D ≠ E));have f2:=mk0 ((by rw [hg];exact Nat.ne_of_gt (blk_lt (g:=D) (o:=.cells #[.int .i64 T,.int .i64 U,.int .i64 X,.int .i64 Z] 23 (0,0)) (by (with_reducible repeat (first|refine blk_drewN ?_ _|refine blk_drew ?_|refine blk_alloc ?_ _));exact B.1)):E ≠ D));replace J:=mk0 (Kd.R_below (by (with_reducible repeat (first|apply Kd.R_alloc|apply Kd.R_drewN|apply Kd.R_drew));exact J.1) hb);replace Y:=mk0 (Kd.R_below (by (with_reducible repeat (first|apply Kd.R_alloc|apply Kd.R_drewN|apply Kd.R_drew));exact Y.1) hb);replace B:=mk0 (blk_below (g:=D) (o:=.cells #[.int .i64 T,.int .i64 U,.int .i64 X,.int .i64 Z] 23 (0,0)) (by (with_reducible repeat (first|refine blk_drewN ?_ _|refine blk_drew ?_|refine blk_alloc ?_ _));exact B.1) hb);replace I:=mk0 (below_step (by repeat (first|(with_reducible first|exact I.1|apply below_alloc|apply pw_below_drewN|apply below_drew1|refine below_set ?_ R.1)|exact I.1)) hb);clear hb b3 hg;have s0:=f2.1;have s1:=b7.1;have j5:=q0_ C;have j6:=q1_ C;have j7:=q2_ C;have j8:=q3_ C;have j9:=blk_frozen C.1 0;have l0:=blk_frozen C.1 1;have l1:=blk_frozen C.1 2;have l2:=blk_frozen C.1 3)|((with_reducible refine gate_callee (f:=21) rfl ?_);refine goesL_ (some 54) rfl rfl Try.func21 (by kernel_rfl) rfl #[.agg #[.int .i64 4,.int .i64 0,.int .i64 0,.int .i64 0],.agg #[.int .i64 2,.int .i64 2,.int .i64 0,.int .i64 0]] rfl (by (try simp only [m0_,m1_,m2_]);first|done|rfl|(simp only [l0_,l1_];rfl)) ?_;(with_reducible refine (norm_Gcd.calls k 4 0 0 0 2 2 0 0 a4 a5 a6 a8 e4 _ A8.1).mono ?_);rintro e x9 ⟨rfl,hb⟩;refine ⟨_,rfl,?_⟩;replace J:=mk0 (Kd.R_below (by (with_reducible repeat (first|apply Kd.R_alloc|apply Kd.R_drewN|apply Kd.R_drew));exact (Kd.R_mono (Kd.R_far (p:=⟨E,3,none⟩) (Kd.R_far (p:=⟨E,2,none⟩) (Kd.R_far (p:=⟨E,1,none⟩) (Kd.R_far (p:=⟨E,0,none⟩) (Kd.R_types J.1 C.1 (by decide)) (fun _ hk=>hk.2) (.int .i64 a0)) (fun _ hk=>hk.2) (.int .i64 a1)) (fun _ hk=>hk.2) (.int .i64 a2)) (fun _ hk=>hk.2) (.int .i64 a3)) (fun _ h_=>h_.1))) hb);replace Y:=mk0 (Kd.R_below (by (with_reducible repeat (first|apply Kd.R_alloc|apply Kd.R_drewN|apply Kd.R_drew));exact (Kd.R_mono (Kd.R_far (p:=⟨E,3,none⟩) (Kd.R_far (p:=⟨E,2,none⟩) (Kd.R_far (p:=⟨E,1,none⟩) (Kd.R_far (p:=⟨E,0,none⟩) (Kd.R_types Y.1 C.1 (by decide)) (fun _ hk=>hk.2) (.int .i64 a0)) (fun _ hk=>hk.2) (.int .i64 a1)) (fun _ hk=>hk.2) (.int .i64 a2)) (fun _ hk=>hk.2) (.int .i64 a3)) (fun _ h_=>h_.1))) hb);replace B:=mk0 (blk_below (g:=D) (o:=.cells #[.int .i64 T,.int .i64 U,.int .i64 X,.int .i64 Z] 23 (0,0)) (by (with_reducible repeat (first|refine blk_drewN ?_ _|refine blk_drew ?_|refine blk_alloc ?_ _));refine blk_far ?_ b7.1 _;(with_reducible repeat (first|refine blk_drewN ?_ _|refine blk_drew ?_|refine blk_alloc ?_ _));refine blk_far ?_ b7.1 _;(with_reducible repeat (first|refine blk_drewN ?_ _|refine blk_drew ?_|refine blk_alloc ?_ _));refine blk_far ?_ b7.1 _;(with_reducible repeat (first|refine blk_drewN ?_ _|refine blk_drew ?_|refine blk_alloc ?_ _));refine blk_far ?_ b7.1 _;(with_reducible repeat (first|refine blk_drewN ?_ _|refine blk_drew ?_|refine blk_alloc ?_ _));exact B.1) hb);replace C:=mk0 (blk_below (g:=E) (o:=.cells #[.int .i64 a0,.int .i64 a1,.int .i64 a2,.int .i64 a3] 23 (0,0)) (by (with_reducible repeat (first|refine blk_drewN ?_ _|refine blk_drew ?_|refine blk_alloc ?_ _));refine blk_put (cs:=#[.int .i64 a0,.int .i64 a1,.int .i64 a2,.int .i64 0]) ?_ 3 _ rfl;(with_reducible repeat (first|refine blk_drewN ?_ _|refine blk_drew ?_|refine blk_alloc ?_ _));refine blk_put (cs:=#[.int .i64 a0,.int .i64 a1,.int .i64 0,.int .i64 0]) ?_ 2 _ rfl;(with_reducible repeat (first|refine blk_drewN ?_ _|refine blk_drew ?_|refine blk_alloc ?_ _));refine blk_put (cs:=#[.int .i64 a0,.int .i64 0,.int .i64 0,.int .i64 0]) ?_ 1 _ rfl;(with_reducible repeat (first|refine blk_drewN ?_ _|refine blk_drew ?_|refine blk_alloc ?_ _));refine blk_put (cs:=#[.int .i64 0,.int .i64 0,.int .i64 0,.int .i64 0]) ?_ 0 _ rfl;(with_reducible repeat (first|refine blk_drewN ?_ _|refine blk_drew ?_|refine blk_alloc ?_ _));exact C.1) hb);replace I:=mk0 (below_step (by repeat (first|(with_reducible first|exact I.1|apply below_alloc|apply pw_below_drewN|apply below_drew1|refine below_set ?_ R.1|refine below_set ?_ a7.1)|exact I.1)) hb);(try clear hb);(try clear hk))|((with_reducible refine gate_dst (N:=15) rfl ?_);(try (refine gate_guard (by rfl) ?_;dsimp only));refine box_event ?hg (N:=15) ?hd (cs:=#[.int .i64 0,.int .i64 0,.int .i64 0,.int .i64 0]) (t:=23) ?hr ?_;(case hd=>rfl);(case hg=>rfl);(case hr=>first|(go_simp;done)|(go_simp;rfl));intro O hg y0 b3 hb;have F:=mk0 (b3);have s2:=mk0 ((by rw [hg];exact (below_size (by repeat (first|(with_reducible first|exact I.1|apply below_alloc|apply pw_below_drewN|apply below_drew1|refine below_set ?_ R.1|refine below_set ?_ a7.1)|exact I.1))):w.heap.size ≤ O));have b6:=mk0 ((by rw [hg];exact (below_size (by repeat (first|(with_reducible first|exact I.1|apply below_alloc|apply pw_below_drewN|apply below_drew1|refine below_set ?_ R.1|refine below_set ?_ a7.1)|exact I.1))):w.heap.size ≤ O));have b8:=mk0 ((by rw [hg];exact Nat.ne_of_lt (blk_lt (g:=D) (o:=.cells #[.int .i64 T,.int .i64 U,.int .i64 X,.int .i64 Z] 23 (0,0)) (by (with_reducible repeat (first|refine blk_drewN ?_ _|refine blk_drew ?_|refine blk_alloc ?_ _));exact B.1)):D ≠ O));have f3:=mk0 ((by rw [hg];exact Nat.ne_of_gt (blk_lt (g:=D) (o:=.cells #[.int .i64 T,.int .i64 U,.int .i64 X,.int .i64 Z] 23 (0,0)) (by (with_reducible repeat (first|refine blk_drewN ?_ _|refine blk_drew ?_|refine blk_alloc ?_ _));exact B.1)):O ≠ D));have b9:=mk0 ((by rw [hg];exact Nat.ne_of_lt (blk_lt (g:=E) (o:=.cells #[.int .i64 a0,.int .i64 a1,.int .i64 a2,.int .i64 a3] 23 (0,0)) (by (with_reducible repeat (first|refine blk_drewN ?_ _|refine blk_drew ?_|refine blk_alloc ?_ _));exact C.1)):E ≠ O));have f4:=mk0 ((by rw [hg];exact Nat.ne_of_gt (blk_lt (g:=E) (o:=.cells #[.int .i64 a0,.int .i64 a1,.int .i64 a2,.int .i64 a3] 23 (0,0)) (by (with_reducible repeat (first|refine blk_drewN ?_ _|refine blk_drew ?_|refine blk_alloc ?_ _));exact C.1)):O ≠ E));replace J:=mk0 (Kd.R_below (by (with_reducible repeat (first|apply Kd.R_alloc|apply Kd.R_drewN|apply Kd.R_drew));exact J.1) hb);replace Y:=mk0 (Kd.R_below (by (with_reducible repeat (first|apply Kd.R_alloc|apply Kd.R_drewN|apply Kd.R_drew));exact Y.1) hb);replace B:=mk0 (blk_below (g:=D) (o:=.cells #[.int .i64 T,.int .i64 U,.int .i64 X,.int .i64 Z] 23 (0,0)) (by (with_reducible repeat (first|refine blk_drewN ?_ _|refine blk_drew ?_|refine blk_alloc ?_ _));exact B.1) hb);replace C:=mk0 (blk_below (g:=E) (o:=.cells #[.int .i64 a0,.int .i64 a1,.int .i64 a2,.int .i64 a3] 23 (0,0)) (by (with_reducible repeat (first|refine blk_drewN ?_ _|refine blk_drew ?_|refine blk_alloc ?_ _));exact C.1) hb);replace I:=mk0 (below_step (by repeat (first|(with_reducible first|exact I.1|apply below_alloc|apply pw_below_drewN|apply below_drew1|refine below_set ?_ R.1|refine below_set ?_ a7.1)|exact I.1)) hb);clear hb b3 hg;have s3:=f3.1;have s4:=b8.1;have s5:=f4.1;have s6:=b9.1;have l3:=q0_ F;have l4:=q1_ F;have l5:=q2_ F;have l6:=q3_ F;have l7:=blk_frozen F.1 0;have l8:=blk_frozen F.1 1;have l9:=blk_frozen F.1 2;have m0:=blk_frozen F.1 3)|((with_reducible refine gate_callee (f:=17) rfl ?_);refine goesL_ (some 60) rfl rfl Try.func17 (by kernel_rfl) rfl #[.agg #[.int .i64 4,.int .i64 0,.int .i64 0,.int .i64 0],.agg #[.int .i64 2,.int .i64 2,.int .i64 0,.int .i64 0]] rfl (by (try simp only [m0_,m1_,m2_]);first|done|rfl|(simp only [l0_,l1_];rfl)) ?_;(with_reducible refine (norm_Divide.calls k 4 0 0 0 2 2 0 0 a9 b1 b4 c8 b0 b2 b5 c9 g2 _ A9.1).mono ?_);rintro e y1 ⟨rfl,hb⟩;refine ⟨_,rfl,?_⟩;replace J:=mk0 (Kd.R_below (by (with_reducible repeat (first|apply Kd.R_alloc|apply Kd.R_drewN|apply Kd.R_drew));exact (Kd.R_mono (Kd.R_far (p:=⟨O,3,none⟩) (Kd.R_far (p:=⟨O,2,none⟩) (Kd.R_far (p:=⟨O,1,none⟩) (Kd.R_far (p:=⟨O,0,none⟩) (Kd.R_types J.1 F.1 (by decide)) (fun _ hk=>hk.2) (.int .i64 a4)) (fun _ hk=>hk.2) (.int .i64 a5)) (fun _ hk=>hk.2) (.int .i64 a6)) (fun _ hk=>hk.2) (.int .i64 a8)) (fun _ h_=>h_.1))) hb);replace Y:=mk0 (Kd.R_below (by (with_reducible repeat (first|apply Kd.R_alloc|apply Kd.R_drewN|apply Kd.R_drew));exact (Kd.R_mono (Kd.R_far (p:=⟨O,3,none⟩) (Kd.R_far (p:=⟨O,2,none⟩) (Kd.R_far (p:=⟨O,1,none⟩) (Kd.R_far (p:=⟨O,0,none⟩) (Kd.R_types Y.1 F.1 (by decide)) (fun _ hk=>hk.2) (.int .i64 a4)) (fun _ hk=>hk.2) (.int .i64 a5)) (fun _ hk=>hk.2) (.int .i64 a6)) (fun _ hk=>hk.2) (.int .i64 a8)) (fun _ h_=>h_.1))) hb);replace B:=mk0 (blk_below (g:=D) (o:=.cells #[.int .i64 T,.int .i64 U,.int .i64 X,.int .i64 Z] 23 (0,0)) (by (with_reducible repeat (first|refine blk_drewN ?_ _|refine blk_drew ?_|refine blk_alloc ?_ _));refine blk_far ?_ b8.1 _;(with_reducible repeat (first|refine blk_drewN ?_ _|refine blk_drew ?_|refine blk_alloc ?_ _));refine blk_far ?_ b8.1 _;(with_reducible repeat (first|refine blk_drewN ?_ _|refine blk_drew ?_|refine blk_alloc ?_ _));refine blk_far ?_ b8.1 _;(with_reducible repeat (first|refine blk_drewN ?_ _|refine blk_drew ?_|refine blk_alloc ?_ _));refine blk_far ?_ b8.1 _;(with_reducible repeat (first|refine blk_drewN ?_ _|refine blk_drew ?_|refine blk_alloc ?_ _));exact B.1) hb);replace C:=mk0 (blk_below (g:=E) (o:=.cells #[.int .i64 a0,.int .i64 a1,.int .i64 a2,.int .i64 a3] 23 (0,0)) (by (with_reducible repeat (first|refine blk_drewN ?_ _|refine blk_drew ?_|refine blk_alloc ?_ _));refine blk_far ?_ b9.1 _;(with_reducible repeat (first|refine blk_drewN ?_ _|refine blk_drew ?_|refine blk_alloc ?_ _));refine blk_far ?_ b9.1 _;(with_reducible repeat (first|refine blk_drewN ?_ _|refine blk_drew ?_|refine blk_alloc ?_ _));refine blk_far ?_ b9.1 _;(with_reducible repeat (first|refine blk_drewN ?_ _|refine blk_drew ?_|refine blk_alloc ?_ _));refine blk_far ?_ b9.1 _;(with_reducible repeat (first|refine blk_drewN ?_ _|refine blk_drew ?_|refine blk_alloc ?_ _));exact C.1) hb);replace F:=mk0 (blk_below (g:=O) (o:=.cells #[.int .i64 a4,.int .i64 a5,.int .i64 a6,.int .i64 a8] 23 (0,0)) (by (with_reducible repeat (first|refine blk_drewN ?_ _|refine blk_drew ?_|refine blk_alloc ?_ _));refine blk_put (cs:=#[.int .i64 a4,.int .i64 a5,.int .i64 a6,.int .i64 0]) ?_ 3 _ rfl;(with_reducible repeat (first|refine blk_drewN ?_ _|refine blk_drew ?_|refine blk_alloc ?_ _));refine blk_put (cs:=#[.int .i64 a4,.int .i64 a5,.int .i64 0,.int .i64 0]) ?_ 2 _ rfl;(with_reducible repeat (first|refine blk_drewN ?_ _|refine blk_drew ?_|refine blk_alloc ?_ _));refine blk_put (cs:=#[.int .i64 a4,.int .i64 0,.int .i64 0,.int .i64 0]) ?_ 1 _ rfl;(with_reducible repeat (first|refine blk_drewN ?_ _|refine blk_drew ?_|refine blk_alloc ?_ _));refine blk_put (cs:=#[.int .i64 0,.int .i64 0,.int .i64 0,.int .i64 0]) ?_ 0 _ rfl;(with_reducible repeat (first|refine blk_drewN ?_ _|refine blk_drew ?_|refine blk_alloc ?_ _));exact F.1) hb);replace I:=mk0 (below_step (by repeat (first|(with_reducible first|exact I.1|apply below_alloc|apply pw_below_drewN|apply below_drew1|refine below_set ?_ R.1|refine below_set ?_ a7.1|refine below_set ?_ b6.1)|exact I.1)) hb);(try clear hb);(try clear hk))|((with_reducible refine gate_dst (N:=17) rfl ?_);(try (refine gate_guard (by rfl) ?_;dsimp only));refine box_event ?hg (N:=17) ?hd (cs:=#[.int .i64 0,.int .i64 0,.int .i64 0,.int .i64 0]) (t:=23) ?hr ?_;(case hd=>rfl);(case hg=>rfl);(case hr=>first|(go_simp;done)|(go_simp;rfl));intro G hg y2 b3 hb;have Q:=mk0 (b3);have s7:=mk0 ((by rw [hg];exact (below_size (by repeat (first|(with_reducible first|exact I.1|apply below_alloc|apply pw_below_drewN|apply below_drew1|refine below_set ?_ R.1|refine below_set ?_ a7.1|refine below_set ?_ b6.1)|exact I.1))):w.heap.size ≤ G));have d1:=mk0 ((by rw [hg];exact (below_size (by repeat (first|(with_reducible first|exact I.1|apply below_alloc|apply pw_below_drewN|apply below_drew1|refine below_set ?_ R.1|refine below_set ?_ a7.1|refine below_set ?_ b6.1)|exact I.1))):w.heap.size ≤ G));have c0:=mk0 ((by rw [hg];exact Nat.ne_of_lt (blk_lt (g:=D) (o:=.cells #[.int .i64 T,.int .i64 U,.int .i64 X,.int .i64 Z] 23 (0,0)) (by (with_reducible repeat (first|refine blk_drewN ?_ _|refine blk_drew ?_|refine blk_alloc ?_ _));exact B.1)):D ≠ G));have f5:=mk0 ((by rw [hg];exact Nat.ne_of_gt (blk_lt (g:=D) (o:=.cells #[.int .i64 T,.int .i64 U,.int .i64 X,.int .i64 Z] 23 (0,0)) (by (with_reducible repeat (first|refine blk_drewN ?_ _|refine blk_drew ?_|refine blk_alloc ?_ _));exact B.1)):G ≠ D));have c1:=mk0 ((by rw [hg];exact Nat.ne_of_lt (blk_lt (g:=E) (o:=.cells #[.int .i64 a0,.int .i64 a1,.int .i64 a2,.int .i64 a3] 23 (0,0)) (by (with_reducible repeat (first|refine blk_drewN ?_ _|refine blk_drew ?_|refine blk_alloc ?_ _));exact C.1)):E ≠ G));have f6:=mk0 ((by rw [hg];exact Nat.ne_of_gt (blk_lt (g:=E) (o:=.cells #[.int .i64 a0,.int .i64 a1,.int .i64 a2,.int .i64 a3] 23 (0,0)) (by (with_reducible repeat (first|refine blk_drewN ?_ _|refine blk_drew ?_|refine blk_alloc ?_ _));exact C.1)):G ≠ E));have c2:=mk0 ((by rw [hg];exact Nat.ne_of_lt (blk_lt (g:=O) (o:=.cells #[.int .i64 a4,.int .i64 a5,.int .i64 a6,.int .i64 a8] 23 (0,0)) (by (with_reducible repeat (first|refine blk_drewN ?_ _|refine blk_drew ?_|refine blk_alloc ?_ _));exact F.1)):O ≠ G));have f7:=mk0 ((by rw [hg];exact Nat.ne_of_gt (blk_lt (g:=O) (o:=.cells #[.int .i64 a4,.int .i64 a5,.int .i64 a6,.int .i64 a8] 23 (0,0)) (by (with_reducible repeat (first|refine blk_drewN ?_ _|refine blk_drew ?_|refine blk_alloc ?_ _));exact F.1)):G ≠ O));replace J:=mk0 (Kd.R_below (by (with_reducible repeat (first|apply Kd.R_alloc|apply Kd.R_drewN|apply Kd.R_drew));exact J.1) hb);replace Y:=mk0 (Kd.R_below (by (with_reducible repeat (first|apply Kd.R_alloc|apply Kd.R_drewN|apply Kd.R_drew));exact Y.1) hb);replace B:=mk0 (blk_below (g:=D) (o:=.cells #[.int .i64 T,.int .i64 U,.int .i64 X,.int .i64 Z] 23 (0,0)) (by (with_reducible repeat (first|refine blk_drewN ?_ _|refine blk_drew ?_|refine blk_alloc ?_ _));exact B.1) hb);replace C:=mk0 (blk_below (g:=E) (o:=.cells #[.int .i64 a0,.int .i64 a1,.int .i64 a2,.int .i64 a3] 23 (0,0)) (by (with_reducible repeat (first|refine blk_drewN ?_ _|refine blk_drew ?_|refine blk_alloc ?_ _));exact C.1) hb);replace F:=mk0 (blk_below (g:=O) (o:=.cells #[.int .i64 a4,.int .i64 a5,.int .i64 a6,.int .i64 a8] 23 (0,0)) (by (with_reducible repeat (first|refine blk_drewN ?_ _|refine blk_drew ?_|refine blk_alloc ?_ _));exact F.1) hb);replace I:=mk0 (below_step (by repeat (first|(with_reducible first|exact I.1|apply below_alloc|apply pw_below_drewN|apply below_drew1|refine below_set ?_ R.1|refine below_set ?_ a7.1|refine below_set ?_ b6.1)|exact I.1)) hb);clear hb b3 hg)|((with_reducible refine gate_dst (N:=18) rfl ?_);(try (refine gate_guard (by rfl) ?_;dsimp only));refine box_event ?hg (N:=18) ?hd (cs:=#[.int .i64 0,.int .i64 0,.int .i64 0,.int .i64 0]) (t:=23) ?hr ?_;(case hd=>rfl);(case hg=>rfl);(case hr=>first|(go_simp;done)|(go_simp;rfl));intro L hg y3 b3 hb;have V:=mk0 (b3);have s8:=mk0 ((by rw [hg];exact (below_size (by repeat (first|(with_reducible first|exact I.1|apply below_alloc|apply pw_below_drewN|apply below_drew1|refine below_set ?_ R.1|refine below_set ?_ a7.1|refine below_set ?_ b6.1|refine below_set ?_ d1.1)|exact I.1))):w.heap.size ≤ L));have f0:=mk0 ((by rw [hg];exact (below_size (by repeat (first|(with_reducible first|exact I.1|apply below_alloc|apply pw_below_drewN|apply below_drew1|refine below_set ?_ R.1|refine below_set ?_ a7.1|refine below_set ?_ b6.1|refine below_set ?_ d1.1)|exact I.1))):w.heap.size ≤ L));have c3:=mk0 ((by rw [hg];exact Nat.ne_of_lt (blk_lt (g:=D) (o:=.cells #[.int .i64 T,.int .i64 U,.int .i64 X,.int .i64 Z] 23 (0,0)) (by (with_reducible repeat (first|refine blk_drewN ?_ _|refine blk_drew ?_|refine blk_alloc ?_ _));exact B.1)):D ≠ L));have f8:=mk0 ((by rw [hg];exact Nat.ne_of_gt (blk_lt (g:=D) (o:=.cells #[.int .i64 T,.int .i64 U,.int .i64 X,.int .i64 Z] 23 (0,0)) (by (with_reducible repeat (first|refine blk_drewN ?_ _|refine blk_drew ?_|refine blk_alloc ?_ _));exact B.1)):L ≠ D));have c4:=mk0 ((by rw [hg];exact Nat.ne_of_lt (blk_lt (g:=E) (o:=.cells #[.int .i64 a0,.int .i64 a1,.int .i64 a2,.int .i64 a3] 23 (0,0)) (by (with_reducible repeat (first|refine blk_drewN ?_ _|refine blk_drew ?_|refine blk_alloc ?_ _));exact C.1)):E ≠ L));have f9:=mk0 ((by rw [hg];exact Nat.ne_of_gt (blk_lt (g:=E) (o:=.cells #[.int .i64 a0,.int .i64 a1,.int .i64 a2,.int .i64 a3] 23 (0,0)) (by (with_reducible repeat (first|refine blk_drewN ?_ _|refine blk_drew ?_|refine blk_alloc ?_ _));exact C.1)):L ≠ E));have c5:=mk0 ((by rw [hg];exact Nat.ne_of_lt (blk_lt (g:=O) (o:=.cells #[.int .i64 a4,.int .i64 a5,.int .i64 a6,.int .i64 a8] 23 (0,0)) (by (with_reducible repeat (first|refine blk_drewN ?_ _|refine blk_drew ?_|refine blk_alloc ?_ _));exact F.1)):O ≠ L));have g0:=mk0 ((by rw [hg];exact Nat.ne_of_gt (blk_lt (g:=O) (o:=.cells #[.int .i64 a4,.int .i64 a5,.int .i64 a6,.int .i64 a8] 23 (0,0)) (by (with_reducible repeat (first|refine blk_drewN ?_ _|refine blk_drew ?_|refine blk_alloc ?_ _));exact F.1)):L ≠ O));have c6:=mk0 ((by rw [hg];exact Nat.ne_of_lt (blk_lt (g:=G) (o:=.cells #[.int .i64 0,.int .i64 0,.int .i64 0,.int .i64 0] 23 (0,0)) (by (with_reducible repeat (first|refine blk_drewN ?_ _|refine blk_drew ?_|refine blk_alloc ?_ _));exact Q.1)):G ≠ L));have c7:=mk0 ((by rw [hg];exact Nat.ne_of_gt (blk_lt (g:=G) (o:=.cells #[.int .i64 0,.int .i64 0,.int .i64 0,.int .i64 0] 23 (0,0)) (by (with_reducible repeat (first|refine blk_drewN ?_ _|refine blk_drew ?_|refine blk_alloc ?_ _));exact Q.1)):L ≠ G));replace J:=mk0 (Kd.R_below (by (with_reducible repeat (first|apply Kd.R_alloc|apply Kd.R_drewN|apply Kd.R_drew));exact J.1) hb);replace Y:=mk0 (Kd.R_below (by (with_reducible repeat (first|apply Kd.R_alloc|apply Kd.R_drewN|apply Kd.R_drew));exact Y.1) hb);replace B:=mk0 (blk_below (g:=D) (o:=.cells #[.int .i64 T,.int .i64 U,.int .i64 X,.int .i64 Z] 23 (0,0)) (by (with_reducible repeat (first|refine blk_drewN ?_ _|refine blk_drew ?_|refine blk_alloc ?_ _));exact B.1) hb);replace C:=mk0 (blk_below (g:=E) (o:=.cells #[.int .i64 a0,.int .i64 a1,.int .i64 a2,.int .i64 a3] 23 (0,0)) (by (with_reducible repeat (first|refine blk_drewN ?_ _|refine blk_drew ?_|refine blk_alloc ?_ _));exact C.1) hb);replace F:=mk0 (blk_below (g:=O) (o:=.cells #[.int .i64 a4,.int .i64 a5,.int .i64 a6,.int .i64 a8] 23 (0,0)) (by (with_reducible repeat (first|refine blk_drewN ?_ _|refine blk_drew ?_|refine blk_alloc ?_ _));exact F.1) hb);replace Q:=mk0 (blk_below (g:=G) (o:=.cells #[.int .i64 0,.int .i64 0,.int .i64 0,.int .i64 0] 23 (0,0)) (by (with_reducible repeat (first|refine blk_drewN ?_ _|refine blk_drew ?_|refine blk_alloc ?_ _));exact Q.1) hb);replace I:=mk0 (below_step (by repeat (first|(with_reducible first|exact I.1|apply below_alloc|apply pw_below_drewN|apply below_drew1|refine below_set ?_ R.1|refine below_set ?_ a7.1|refine below_set ?_ b6.1|refine below_set ?_ d1.1)|exact I.1)) hb);clear hb b3 hg;have s9:=f5.1;have t0:=c0.1;have t1:=f6.1;have t2:=c1.1;have t3:=f7.1;have t4:=c2.1;have t5:=c6.1;have t6:=c7.1;have m1:=q0_ Q;have m2:=q1_ Q;have m3:=q2_ Q;have m4:=q3_ Q;have m5:=blk_frozen Q.1 0;have m6:=blk_frozen Q.1 1;have m7:=blk_frozen Q.1 2;have m8:=blk_frozen Q.1 3;have t7:=f8.1;have t8:=c3.1;have t9:=f9.1;have u0:=c4.1;have u1:=g0.1;have u2:=c5.1;have m9:=q0_ V;have n0:=q1_ V;have n1:=q2_ V;have n2:=q3_ V;have n3:=blk_frozen V.1 0;have n4:=blk_frozen V.1 1;have n5:=blk_frozen V.1 2;have n6:=blk_frozen V.1 3;have n7:=q0_ B;have n8:=q1_ B;have n9:=q2_ B;have o0:=q3_ B;have o1:=blk_frozen B.1 0;have o2:=blk_frozen B.1 1;have o3:=blk_frozen B.1 2;have o4:=blk_frozen B.1 3)|((with_reducible refine gate_dst (N:=81) rfl ?_);(try (refine gate_guard (by rfl) ?_;dsimp only));refine Kd.R_lit (Kd.int .i64) _ 3 ?hg (N:=81) ?hd (xs:=([2,1,1,1]:List Int)) (inner:=[.int .i64 2,.int .i64 1,.int .i64 1,.int .i64 1]) (ok:=fun _=>True) (okp:=fun _=>True) ?hr ?hp (fun _ hk=>hk) trivial (Below.refl _ _) (Nat.le_refl _) (by simp) ?_;(case hd=>rfl);(case hg=>rfl);(case hr=>first|(go_simp;done)|(go_simp;rfl));(case hp=>exact (Reps.one (show Kd.M (Kd.int .i64) _ _ _ 2 [.int .i64 2] from rfl) (Reps.one (show Kd.M (Kd.int .i64) _ _ _ 1 [.int .i64 1] from rfl) (Reps.one (show Kd.M (Kd.int .i64) _ _ _ 1 [.int .i64 1] from rfl) (Reps.one (show Kd.M (Kd.int .i64) _ _ _ 1 [.int .i64 1] from rfl) (Reps.none _ _))))));intro v5 y4 d2 hb hg_ h4;clear hg_ h4;(first|rw [← g7.1] at d2|(simp only [Int.reduceToNat] at d2;rw [← g7.1] at d2));have f1:=mk0 (Kd.R_lower (Kd.R_new' (Kd.R_new' d2 (Kd.R_lt (by (with_reducible repeat (first|apply Kd.R_alloc|apply Kd.R_drewN|apply Kd.R_drew));exact (Kd.R_mono (Kd.R_mono (Kd.R_far (p:=⟨L,3,none⟩) (Kd.R_far (p:=⟨L,2,none⟩) (Kd.R_far (p:=⟨L,1,none⟩) (Kd.R_far (p:=⟨L,0,none⟩) (Kd.R_far (p:=⟨G,3,none⟩) (Kd.R_far (p:=⟨G,2,none⟩) (Kd.R_far (p:=⟨G,1,none⟩) (Kd.R_far (p:=⟨G,0,none⟩) (Kd.R_types (Kd.R_types J.1 Q.1 (by decide)) V.1 (by decide)) (fun _ hk=>hk.1.2) (.int .i64 a9)) (fun _ hk=>hk.1.2) (.int .i64 b1)) (fun _ hk=>hk.1.2) (.int .i64 b4)) (fun _ hk=>hk.1.2) (.int .i64 c8)) (fun _ hk=>hk.2) (.int .i64 b0)) (fun _ hk=>hk.2) (.int .i64 b2)) (fun _ hk=>hk.2) (.int .i64 b5)) (fun _ hk=>hk.2) (.int .i64 c9)) (fun _ h_=>h_.1)) (fun _ h_=>h_.1))))) (Kd.R_lt (by (with_reducible repeat (first|apply Kd.R_alloc|apply Kd.R_drewN|apply Kd.R_drew));exact (Kd.R_mono (Kd.R_mono (Kd.R_far (p:=⟨L,3,none⟩) (Kd.R_far (p:=⟨L,2,none⟩) (Kd.R_far (p:=⟨L,1,none⟩) (Kd.R_far (p:=⟨L,0,none⟩) (Kd.R_far (p:=⟨G,3,none⟩) (Kd.R_far (p:=⟨G,2,none⟩) (Kd.R_far (p:=⟨G,1,none⟩) (Kd.R_far (p:=⟨G,0,none⟩) (Kd.R_types (Kd.R_types Y.1 Q.1 (by decide)) V.1 (by decide)) (fun _ hk=>hk.1.2) (.int .i64 a9)) (fun _ hk=>hk.1.2) (.int .i64 b1)) (fun _ hk=>hk.1.2) (.int .i64 b4)) (fun _ hk=>hk.1.2) (.int .i64 c8)) (fun _ hk=>hk.2) (.int .i64 b0)) (fun _ hk=>hk.2) (.int .i64 b2)) (fun _ hk=>hk.2) (.int .i64 b5)) (fun _ hk=>hk.2) (.int .i64 c9)) (fun _ h_=>h_.1)) (fun _ h_=>h_.1))))) (below_size (by repeat (first|(with_reducible first|exact I.1|apply below_alloc|apply pw_below_drewN|apply below_drew1|refine below_set ?_ R.1|refine below_set ?_ a7.1|refine below_set ?_ b6.1|refine below_set ?_ d1.1|refine below_set ?_ f0.1)|exact I.1))));replace J:=mk0 (Kd.R_elder' (by (with_reducible repeat (first|apply Kd.R_alloc|apply Kd.R_drewN|apply Kd.R_drew));exact (Kd.R_mono (Kd.R_mono (Kd.R_far (p:=⟨L,3,none⟩) (Kd.R_far (p:=⟨L,2,none⟩) (Kd.R_far (p:=⟨L,1,none⟩) (Kd.R_far (p:=⟨L,0,none⟩) (Kd.R_far (p:=⟨G,3,none⟩) (Kd.R_far (p:=⟨G,2,none⟩) (Kd.R_far (p:=⟨G,1,none⟩) (Kd.R_far (p:=⟨G,0,none⟩) (Kd.R_types (Kd.R_types J.1 Q.1 (by decide)) V.1 (by decide)) (fun _ hk=>hk.1.2) (.int .i64 a9)) (fun _ hk=>hk.1.2) (.int .i64 b1)) (fun _ hk=>hk.1.2) (.int .i64 b4)) (fun _ hk=>hk.1.2) (.int .i64 c8)) (fun _ hk=>hk.2) (.int .i64 b0)) (fun _ hk=>hk.2) (.int .i64 b2)) (fun _ hk=>hk.2) (.int .i64 b5)) (fun _ hk=>hk.2) (.int .i64 c9)) (fun _ h_=>h_.1)) (fun _ h_=>h_.1))) (Kd.R_base d2) hb);replace Y:=mk0 (Kd.R_elder' (by (with_reducible repeat (first|apply Kd.R_alloc|apply Kd.R_drewN|apply Kd.R_drew));exact (Kd.R_mono (Kd.R_mono (Kd.R_far (p:=⟨L,3,none⟩) (Kd.R_far (p:=⟨L,2,none⟩) (Kd.R_far (p:=⟨L,1,none⟩) (Kd.R_far (p:=⟨L,0,none⟩) (Kd.R_far (p:=⟨G,3,none⟩) (Kd.R_far (p:=⟨G,2,none⟩) (Kd.R_far (p:=⟨G,1,none⟩) (Kd.R_far (p:=⟨G,0,none⟩) (Kd.R_types (Kd.R_types Y.1 Q.1 (by decide)) V.1 (by decide)) (fun _ hk=>hk.1.2) (.int .i64 a9)) (fun _ hk=>hk.1.2) (.int .i64 b1)) (fun _ hk=>hk.1.2) (.int .i64 b4)) (fun _ hk=>hk.1.2) (.int .i64 c8)) (fun _ hk=>hk.2) (.int .i64 b0)) (fun _ hk=>hk.2) (.int .i64 b2)) (fun _ hk=>hk.2) (.int .i64 b5)) (fun _ hk=>hk.2) (.int .i64 c9)) (fun _ h_=>h_.1)) (fun _ h_=>h_.1))) (Kd.R_base d2) hb);replace B:=mk0 (blk_below (g:=D) (o:=.cells #[.int .i64 T,.int .i64 U,.int .i64 X,.int .i64 Z] 23 (0,0)) (by (with_reducible repeat (first|refine blk_drewN ?_ _|refine blk_drew ?_|refine blk_alloc ?_ _));refine blk_far ?_ c3.1 _;(with_reducible repeat (first|refine blk_drewN ?_ _|refine blk_drew ?_|refine blk_alloc ?_ _));refine blk_far ?_ c3.1 _;(with_reducible repeat (first|refine blk_drewN ?_ _|refine blk_drew ?_|refine blk_alloc ?_ _));refine blk_far ?_ c3.1 _;(with_reducible repeat (first|refine blk_drewN ?_ _|refine blk_drew ?_|refine blk_alloc ?_ _));refine blk_far ?_ c3.1 _;(with_reducible repeat (first|refine blk_drewN ?_ _|refine blk_drew ?_|refine blk_alloc ?_ _));refine blk_far ?_ c0.1 _;(with_reducible repeat (first|refine blk_drewN ?_ _|refine blk_drew ?_|refine blk_alloc ?_ _));refine blk_far ?_ c0.1 _;(with_reducible repeat (first|refine blk_drewN ?_ _|refine blk_drew ?_|refine blk_alloc ?_ _));refine blk_far ?_ c0.1 _;(with_reducible repeat (first|refine blk_drewN ?_ _|refine blk_drew ?_|refine blk_alloc ?_ _));refine blk_far ?_ c0.1 _;(with_reducible repeat (first|refine blk_drewN ?_ _|refine blk_drew ?_|refine blk_alloc ?_ _));exact B.1) hb);replace C:=mk0 (blk_below (g:=E) (o:=.cells #[.int .i64 a0,.int .i64 a1,.int .i64 a2,.int .i64 a3] 23 (0,0)) (by (with_reducible repeat (first|refine blk_drewN ?_ _|refine blk_drew ?_|refine blk_alloc ?_ _));refine blk_far ?_ c4.1 _;(with_reducible repeat (first|refine blk_drewN ?_ _|refine blk_drew ?_|refine blk_alloc ?_ _));refine blk_far ?_ c4.1 _;(with_reducible repeat (first|refine blk_drewN ?_ _|refine blk_drew ?_|refine blk_alloc ?_ _));refine blk_far ?_ c4.1 _;(with_reducible repeat (first|refine blk_drewN ?_ _|refine blk_drew ?_|refine blk_alloc ?_ _));refine blk_far ?_ c4.1 _;(with_reducible repeat (first|refine blk_drewN ?_ _|refine blk_drew ?_|refine blk_alloc ?_ _));refine blk_far ?_ c1.1 _;(with_reducible repeat (first|refine blk_drewN ?_ _|refine blk_drew ?_|refine blk_alloc ?_ _));refine blk_far ?_ c1.1 _;(with_reducible repeat (first|refine blk_drewN ?_ _|refine blk_drew ?_|refine blk_alloc ?_ _));refine blk_far ?_ c1.1 _;(with_reducible repeat (first|refine blk_drewN ?_ _|refine blk_drew ?_|refine blk_alloc ?_ _));refine blk_far ?_ c1.1 _;(with_reducible repeat (first|refine blk_drewN ?_ _|refine blk_drew ?_|refine blk_alloc ?_ _));exact C.1) hb);replace F:=mk0 (blk_below (g:=O) (o:=.cells #[.int .i64 a4,.int .i64 a5,.int .i64 a6,.int .i64 a8] 23 (0,0)) (by (with_reducible repeat (first|refine blk_drewN ?_ _|refine blk_drew ?_|refine blk_alloc ?_ _));refine blk_far ?_ c5.1 _;(with_reducible repeat (first|refine blk_drewN ?_ _|refine blk_drew ?_|refine blk_alloc ?_ _));refine blk_far ?_ c5.1 _;(with_reducible repeat (first|refine blk_drewN ?_ _|refine blk_drew ?_|refine blk_alloc ?_ _));refine blk_far ?_ c5.1 _;(with_reducible repeat (first|refine blk_drewN ?_ _|refine blk_drew ?_|refine blk_alloc ?_ _));refine blk_far ?_ c5.1 _;(with_reducible repeat (first|refine blk_drewN ?_ _|refine blk_drew ?_|refine blk_alloc ?_ _));refine blk_far ?_ c2.1 _;(with_reducible repeat (first|refine blk_drewN ?_ _|refine blk_drew ?_|refine blk_alloc ?_ _));refine blk_far ?_ c2.1 _;(with_reducible repeat (first|refine blk_drewN ?_ _|refine blk_drew ?_|refine blk_alloc ?_ _));refine blk_far ?_ c2.1 _;(with_reducible repeat (first|refine blk_drewN ?_ _|refine blk_drew ?_|refine blk_alloc ?_ _));refine blk_far ?_ c2.1 _;(with_reducible repeat (first|refine blk_drewN ?_ _|refine blk_drew ?_|refine blk_alloc ?_ _));exact F.1) hb);replace Q:=mk0 (blk_below (g:=G) (o:=.cells #[.int .i64 a9,.int .i64 b1,.int .i64 b4,.int .i64 c8] 23 (0,0)) (by (with_reducible repeat (first|refine blk_drewN ?_ _|refine blk_drew ?_|refine blk_alloc ?_ _));refine blk_far ?_ c6.1 _;(with_reducible repeat (first|refine blk_drewN ?_ _|refine blk_drew ?_|refine blk_alloc ?_ _));refine blk_far ?_ c6.1 _;(with_reducible repeat (first|refine blk_drewN ?_ _|refine blk_drew ?_|refine blk_alloc ?_ _));refine blk_far ?_ c6.1 _;(with_reducible repeat (first|refine blk_drewN ?_ _|refine blk_drew ?_|refine blk_alloc ?_ _));refine blk_far ?_ c6.1 _;(with_reducible repeat (first|refine blk_drewN ?_ _|refine blk_drew ?_|refine blk_alloc ?_ _));refine blk_put (cs:=#[.int .i64 a9,.int .i64 b1,.int .i64 b4,.int .i64 0]) ?_ 3 _ rfl;(with_reducible repeat (first|refine blk_drewN ?_ _|refine blk_drew ?_|refine blk_alloc ?_ _));refine blk_put (cs:=#[.int .i64 a9,.int .i64 b1,.int .i64 0,.int .i64 0]) ?_ 2 _ rfl;(with_reducible repeat (first|refine blk_drewN ?_ _|refine blk_drew ?_|refine blk_alloc ?_ _));refine blk_put (cs:=#[.int .i64 a9,.int .i64 0,.int .i64 0,.int .i64 0]) ?_ 1 _ rfl;(with_reducible repeat (first|refine blk_drewN ?_ _|refine blk_drew ?_|refine blk_alloc ?_ _));refine blk_put (cs:=#[.int .i64 0,.int .i64 0,.int .i64 0,.int .i64 0]) ?_ 0 _ rfl;(with_reducible repeat (first|refine blk_drewN ?_ _|refine blk_drew ?_|refine blk_alloc ?_ _));exact Q.1) hb);replace V:=mk0 (blk_below (g:=L) (o:=.cells #[.int .i64 b0,.int .i64 b2,.int .i64 b5,.int .i64 c9] 23 (0,0)) (by (with_reducible repeat (first|refine blk_drewN ?_ _|refine blk_drew ?_|refine blk_alloc ?_ _));refine blk_put (cs:=#[.int .i64 b0,.int .i64 b2,.int .i64 b5,.int .i64 0]) ?_ 3 _ rfl;(with_reducible repeat (first|refine blk_drewN ?_ _|refine blk_drew ?_|refine blk_alloc ?_ _));refine blk_put (cs:=#[.int .i64 b0,.int .i64 b2,.int .i64 0,.int .i64 0]) ?_ 2 _ rfl;(with_reducible repeat (first|refine blk_drewN ?_ _|refine blk_drew ?_|refine blk_alloc ?_ _));refine blk_put (cs:=#[.int .i64 b0,.int .i64 0,.int .i64 0,.int .i64 0]) ?_ 1 _ rfl;(with_reducible repeat (first|refine blk_drewN ?_ _|refine blk_drew ?_|refine blk_alloc ?_ _));refine blk_put (cs:=#[.int .i64 0,.int .i64 0,.int .i64 0,.int .i64 0]) ?_ 0 _ rfl;(with_reducible repeat (first|refine blk_drewN ?_ _|refine blk_drew ?_|refine blk_alloc ?_ _));refine blk_far ?_ c7.1 _;(with_reducible repeat (first|refine blk_drewN ?_ _|refine blk_drew ?_|refine blk_alloc ?_ _));refine blk_far ?_ c7.1 _;(with_reducible repeat (first|refine blk_drewN ?_ _|refine blk_drew ?_|refine blk_alloc ?_ _));refine blk_far ?_ c7.1 _;(with_reducible repeat (first|refine blk_drewN ?_ _|refine blk_drew ?_|refine blk_alloc ?_ _));refine blk_far ?_ c7.1 _;(with_reducible repeat (first|refine blk_drewN ?_ _|refine blk_drew ?_|refine blk_alloc ?_ _));exact V.1) hb);replace I:=mk0 (below_step (by repeat (first|(with_reducible first|exact I.1|apply below_alloc|apply pw_below_drewN|apply below_drew1|refine below_set ?_ R.1|refine below_set ?_ a7.1|refine below_set ?_ b6.1|refine below_set ?_ d1.1|refine below_set ?_ f0.1)|exact I.1)) hb);clear hb d2;obtain ⟨v6,v7,i5⟩:=Kd.R_slice J.1;subst i5;obtain ⟨v8,v9,i6⟩:=Kd.R_slice f1.1;subst i6)|(go_at_call 26;(with_reducible refine (bellpullref01_Same.calls k _ _ g1 _ _ g9 true _ ?side1 ?side2 ?side3 ?side4 r7.1).mono ?_);(case side1=>repeat (first|exact (Kd.R_reads' J.1).2.2|(with_reducible refine Kd.C_alloc ?_ _)|(with_reducible refine Kd.C_drewN ?_ _)|(with_reducible refine Kd.C_drew ?_)));(case side2=>exact (Kd.R_reads' J.1).2.1);(case side3=>repeat (first|exact (Kd.R_reads' f1.1).2.2|(with_reducible refine Kd.C_alloc ?_ _)|(with_reducible refine Kd.C_drewN ?_ _)|(with_reducible refine Kd.C_drew ?_)));(case side4=>exact (Kd.R_reads' f1.1).2.1);rintro e w' ⟨rfl,⟨nd,rfl⟩⟩;have o5:=q0_ C;have o6:=q1_ C;have o7:=q2_ C;have o8:=q3_ C;have o9:=blk_frozen C.1 0;have p0:=blk_frozen C.1 1;have p1:=blk_frozen C.1 2;have p2:=blk_frozen C.1 3;have p3:=q0_ F;have p4:=q1_ F;have p5:=q2_ F;have p6:=q3_ F;have p7:=blk_frozen F.1 0;have p8:=blk_frozen F.1 1;have p9:=blk_frozen F.1 2;have q0:=blk_frozen F.1 3;have q1:=q0_ Q;have q2:=q1_ Q;have q3:=q2_ Q;have q4:=q3_ Q;have q5:=blk_frozen Q.1 0;have q6:=blk_frozen Q.1 1;have q7:=blk_frozen Q.1 2;have q8:=blk_frozen Q.1 3;have q9:=q0_ V;have r0:=q1_ V;have r1:=q2_ V;have r2:=q3_ V;have r3:=blk_frozen V.1 0;have r4:=blk_frozen V.1 1;have r5:=blk_frozen V.1 2;have r6:=blk_frozen V.1 3))
                  go_ret;exact ⟨by first|rfl|(simp [errW_none,errW_some] <;> rfl)|(simp [*,errW_none,errW_some] <;> rfl),by repeat (first|(with_reducible first|exact I.1|apply below_alloc|apply pw_below_drewN|apply below_drew1|refine below_set ?_ R.1|refine below_set ?_ a7.1|refine below_set ?_ b6.1|refine below_set ?_ d1.1|refine below_set ?_ f0.1)|exact I.1)⟩
                 ·
                  rw [if_neg c27] at H;exact absurd H (by simp)
                ·
                 rw [if_neg c26] at H;exact absurd H (by simp)
               ·
                rw [if_neg c25] at H;exact absurd H (by simp)
              ·
               rw [if_neg c24] at H;exact absurd H (by simp)
             ·
              rw [if_neg c23] at H;exact absurd H (by simp)
            ·
             rw [if_neg c22] at H;exact absurd H (by simp)
           ·
            rw [if_neg c21] at H;exact absurd H (by simp)
          ·
           rw [if_neg c20] at H;exact absurd H (by simp)
         ·
          rw [if_neg c19] at H;exact absurd H (by simp)
        ·
         rw [if_neg c18] at H;exact absurd H (by simp)
       ·
        rw [if_neg c17] at H;exact absurd H (by simp)
      ·
       rw [if_neg c16] at H;exact absurd H (by simp)
     ·
      replace g8:=Bool.eq_false_iff.mpr g8;subst g8;have H1:(none)=some r:=by rw [if_neg (show ¬ (false=true) by decide)] at H;exact H
      clear H;have H:=H1;clear H1;exact absurd H (by simp)
    ·
     rw [if_neg c13] at H;exact absurd H (by simp)
   ·
    rw [if_neg c12] at H;exact absurd H (by simp)
  ·
   rw [if_neg c11] at H;exact absurd H (by simp)
 ·
  rw [if_neg c10] at H;exact absurd H (by simp)
end Go.Proofs.Ytgfnmimfoicmmaa.PM
