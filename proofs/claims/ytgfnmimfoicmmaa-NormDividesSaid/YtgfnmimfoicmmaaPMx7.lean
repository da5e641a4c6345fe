-- Written by pr2.py, a program of this session's, for this claim (through the kit's print).
import Derived.Test.YtgfnmimfoicmmaaPMx0
import Derived.Test.YtgfnmimfoicmmaaPMx1
import Derived.Test.YtgfnmimfoicmmaaPMx3
import Derived.Test.YtgfnmimfoicmmaaPMx4
import Derived.Test.YtgfnmimfoicmmaaPMx5
import Derived.Test.YtgfnmimfoicmmaaPMx6
namespace Go.Proofs.Ytgfnmimfoicmmaa.PM
open Go.Proofs.MyWords Go.RowKit Go.Proofs.YtgfnmimfoicmmaaW.PrintWords Go.Proofs.YtgfnmimfoicmmaaW.PrintLast Go.Proofs.YtgfnmimfoicmmaaW.PrintMore
attribute [local go_sem] max2_int min2_int max_two min_two max_three min_three max_four min_four   -- for this text's walks alone
set_option linter.unusedVariables false
set_option linter.unusedSimpArgs false

attribute [local go_sem] idx67_0 idx67_1 idx67_2 idx67_3
attribute [local go_sem] eqGuard_slices eqlnil36 neqnil36
attribute [local go_sem high] eqA23
/-! ### slices_DeleteFunc_int_int: function 75 -/
/-- A bool function value: called at x in every world that K lets in, it tells p x and lays at most new memory. -/
def TellsK (g:Nat) (lb:Array Value) (p:Int → Bool) (K:World → Prop):Prop :=
  ∀ (W:World) (x:Int),K W → Calls Try.prog g (#[.int .i64 x] ++ lb) W fun e w'=>e=.returned (.bool (p x))∧Below W.heap.size W w'
/-- What the rounds of DeleteFunc know of the row. -/
def DelInv (p:Int → Bool) (l xs:List Int) (i j:Nat):Prop:=xs.length=l.length∧i < j∧j ≤ l.length∧xs.take i=(l.take j).filter (fun x=>!p x)∧xs.drop j=l.drop j
theorem DelInv.read {p:Int → Bool} {l xs:List Int} {i j:Nat} (h:DelInv p l xs i j) (hj:j < l.length):rd xs (j:Int)=rd l (j:Int):=by
  obtain ⟨h1,_,_,_,h5⟩:=h
  have hx:j < xs.length:=by omega
  have e:xs[j]?=l[j]?:=by
    have:=congrArg (fun z=>z[0]?) h5
    simpa [List.getElem?_drop] using this
  simp only [rd,List.getD_eq_getElem?_getD,Int.toNat_natCast,e]
theorem DelInv.skip {p:Int → Bool} {l xs:List Int} {i j:Nat} (h:DelInv p l xs i j) (hj:j < l.length) (hp:p (rd l (j:Int))=true):DelInv p l xs i (j + 1):=by
  obtain ⟨h1,h2,h3,h4,h5⟩:=h
  have e:l[j]?=some (rd l (j:Int)):=by simp [rd,List.getD_eq_getElem?_getD,List.getElem?_eq_getElem hj]
  refine ⟨h1,by omega,by omega,?_,?_⟩
  · rw [List.take_add_one,e,List.filter_append,h4]
    simp [hp]
  · have:=congrArg (List.drop 1) h5
    simpa [List.drop_drop,Nat.add_comm] using this
theorem DelInv.keep {p:Int → Bool} {l xs:List Int} {i j:Nat} (h:DelInv p l xs i j) (hj:j < l.length) (hp:p (rd l (j:Int))=false):DelInv p l (xs.set i (rd l (j:Int))) (i + 1) (j + 1):=by
  obtain ⟨h1,h2,h3,h4,h5⟩:=h
  have e:l[j]?=some (rd l (j:Int)):=by simp [rd,List.getD_eq_getElem?_getD,List.getElem?_eq_getElem hj]
  refine ⟨by simpa using h1,by omega,by omega,?_,?_⟩
  · have hi:i < xs.length:=by omega
    have el:l.take (j + 1)=l.take j ++ [rd l (j:Int)]:=by rw [List.take_add_one,e];rfl
    rw [el,List.filter_append,← h4,List.take_add_one,List.take_set_of_le (Nat.le_refl _)]
    simp [hp,hi]
  · rw [List.drop_set_of_lt (by omega)]
    have:=congrArg (List.drop 1) h5
    simpa [List.drop_drop,Nat.add_comm] using this
theorem DelInv.start {p:Int → Bool} {l:List Int} {k:Nat} (hk:k < l.length) (hp:p (rd l (k:Int))=true) (hb:∀ j,j < k → p (rd l (j:Int))=false):DelInv p l l k (k + 1):=by
  have e:l[k]?=some (rd l (k:Int)):=by simp [rd,List.getD_eq_getElem?_getD,List.getElem?_eq_getElem hk]
  refine ⟨rfl,by omega,by omega,?_,rfl⟩
  rw [List.take_add_one,e,List.filter_append]
  have:(l.take k).filter (fun x=>!p x)=l.take k:=by
    rw [List.filter_eq_self]
    intro x hx
    obtain ⟨j,hj,rfl⟩:=List.getElem_of_mem hx
    have hj2:j < k:=by have:=hj;simp at this;omega
    have:=hb j hj2
    simpa [rd,List.getD_eq_getElem?_getD,List.getElem?_eq_getElem (show j < l.length by omega)] using this
  rw [this]
  simp [hp]
theorem idxF_cases (p:Int → Bool) (l:List Int):(idxF p l=-1∧∀ j,j < l.length → p (rd l (j:Int))=false) ∨ ∃ k,k < l.length∧idxF p l=(k:Int)∧p (rd l (k:Int))=true∧∀ j,j < k → p (rd l (j:Int))=false:=by
  unfold idxF
  rcases h:l.findIdx? p with _|k
  · refine .inl ⟨rfl,fun j hj=>?_⟩
    rw [List.findIdx?_eq_none_iff] at h
    have:=h l[j] (List.getElem_mem hj)
    simpa [rd,List.getD_eq_getElem?_getD,List.getElem?_eq_getElem hj] using this
  · rw [List.findIdx?_eq_some_iff_getElem] at h
    obtain ⟨hk,hp,hb⟩:=h
    refine .inr ⟨k,hk,rfl,?_,fun j hj=>?_⟩
    · simpa [rd,List.getD_eq_getElem?_getD,List.getElem?_eq_getElem hk] using hp
    · have:=hb j hj
      simpa [rd,List.getD_eq_getElem?_getD,List.getElem?_eq_getElem (show j < l.length by omega)] using this
theorem below_cells {b:Nat} {a:World} (hb:a.heap.size ≤ b):∀ (vs:List Value) (o:Nat) (w:World),Below a.heap.size a w → Below a.heap.size a (w.setCells b o vs)
  | [],_,_,h=>h
  | v :: vs,o,w,h=>below_cells hb vs (o + 1) _ (below_set h hb)
theorem del_measure (n j:Nat) (h:j < n) (x:Int) (hx:x=((j + 1:Nat):Int)):n - (intOf (.int .i64 x)).toNat < n - (intOf (.int .i64 (j:Int))).toNat:=by
  subst hx
  simp only [intOf,Int.toNat_natCast]
  omega
set_option maxHeartbeats 2000000 in
set_option maxRecDepth 100000 in
theorem DeleteFunc_int.calls (g:Nat) (lb:Array Value) (p:Int → Bool) (blk c0:Nat) (l0:List Int) (ok:Nat → Prop) (K:World → Prop) (w0 w:World)
    (hO:Kd.R (Kd.int .i64) 3 w w0.heap.size ok (.slice (some ⟨blk,0,none⟩) l0.length c0) l0) (hne:0 < l0.length) (hB:Below w0.heap.size w0 w)
    (eg:∀ args w,(callFunc g args).run Try.prog w=.ok (.enter g args) w) (hT:TellsK g lb p K) (hK:K w)
    (hKB:∀ W W',K W → Below W.heap.size W W' → K W') (hKS:∀ W i v,K W → K (W.setCell ⟨blk,i,none⟩ v)) :
    Calls Try.prog 75 #[.slice (some ⟨blk,0,none⟩) l0.length c0,.func (.func g) #[] lb] w fun e w'=>e=.returned (.slice (some ⟨blk,0,none⟩) (l0.filter fun x=>!p x).length c0)∧Kd.C (Kd.int .i64) w' (some ⟨blk,0,none⟩) (l0.filter fun x=>!p x).length (l0.filter fun x=>!p x)∧Below w0.heap.size w0 w':=by
  have hTl:Tells g lb p w:=fun W x hb=>hT W x (hKB w W hK hb)
  have HI:=Aside0.mk (IndexFunc_int.calls g lb p (some ⟨blk,0,none⟩) c0 l0 w (Kd.R_reads' hO).2.2 (Kd.R_reads' hO).2.1 eg hTl)
  obtain ⟨go_,cap_,eo_,gb_,gl_,_⟩:=Kd.R_form hO hne
  have hblk:w0.heap.size ≤ blk:=by injection eo_ with e1;injection e1 with e2;injection e2 with e3;rw [e3];exact gb_
  clear eo_ gb_ gl_ hTl
  have HO:=Aside0.mk hO
  have HB:=Aside0.mk hB
  have HT:=Aside0.mk hT
  have HK:=Aside0.mk hK
  have HKB:=Aside0.mk hKB
  have HKS:=Aside0.mk hKS
  have HBK:=Aside0.mk hblk
  have HNE:=Aside0.mk hne
  have HLEN:=Aside0.mk (Kd.R_reads' hO).2.2.2.1
  have HCAP:=Aside0.mk (Kd.R_reads' hO).2.1
  clear hO hB hT hK hKB hKS hblk hne
  rcases idxF_cases p l0 with ⟨e1,hall⟩|⟨k0,hk0,e1,ht,hb⟩
  · have HF:=Aside0.mk (show (l0.filter fun x=>!p x)=l0 from by
      rw [List.filter_eq_self]
      intro x hx
      obtain ⟨j,hj,rfl⟩:=List.getElem_of_mem hx
      have:=hall j hj
      simpa [rd,List.getD_eq_getElem?_getD,List.getElem?_eq_getElem hj] using this)
    rw [e1] at HI
    clear hall e1
    rw [HF.out]
    go_enter Try.func75,Try.ntmps75
    go_wp2_with (go_at_call 80;refine HI.out.mono ?_;rintro e w1 ⟨rfl,hb1⟩;have HB1:=Aside0.mk hb1;clear hb1)
    go_ret
    exact ⟨rfl,Kd.C_below (Kd.R_reads' HO.out).2.2 HB1.out,below_step HB.out HB1.out⟩
  · rw [e1] at HI
    have HS:=Aside0.mk (DelInv.start hk0 ht hb)
    have hd0:((k0:Int) == -1)=false:=beq_eq_false_iff_ne.mpr (by omega)
    have hw0:wrap64 ((k0:Int) + 1)=((k0 + 1:Nat):Int):=by have:=HLEN.out;unfold wrap64;omega
    have HW0:=Aside0.mk hw0
    clear hw0 ht hb e1
    go_enter Try.func75,Try.ntmps75
    go_wp2_with (go_at_call 80;refine HI.out.mono ?_;rintro e w1 ⟨rfl,hb1⟩;have HB1:=Aside0.mk hb1;clear hb1)
    go_loopw [5,6,7] (fun v5 v6 v7 w'=>∃ (i j:Nat) (xs:List Int),v5=.int .i64 (i:Int)∧v6=.int .i64 (j:Int)∧Aside0 (DelInv p l0 xs i j)∧Aside0 (Kd.R (Kd.int .i64) 3 w' w0.heap.size ok (.slice (some ⟨blk,0,none⟩) l0.length c0) xs)∧Aside0 (Below w0.heap.size w0 w')∧Aside0 (K w')) (fun v5 v6 v7 _=>l0.length - (intOf v6).toNat)
    case atStart=>exact ⟨k0,k0 + 1,l0,rfl,by rw [HW0.out],HS,⟨Kd.R_below HO.out HB1.out⟩,⟨below_step HB.out HB1.out⟩,⟨HKB.out _ _ HK.out HB1.out⟩⟩
    case round =>
      clear HO HB HK HB1 HI hd0 HW0 HS
      obtain ⟨i,j,xs,rfl,rfl,HD,HO,HB,HK⟩:=hrel
      have hxl:xs.length=l0.length:=HD.out.1
      by_cases hlt:(j:Int) < (l0.length:Int)
      · have hjl:j < l0.length:=by omega
        have hij:i < j:=HD.out.2.1
        have hx:=(Kd.R_celln 0 HO.out (j:Int) (by omega) (by omega)).1
        have hcell:wr.cell? ⟨blk,j,none⟩=some (.int .i64 (rd l0 (j:Int))):=by
          have e:=HD.out.read hjl
          rw [← e]
          simpa [rd,rdOf] using hx
        clear hx
        have hd:decide ((j:Int) < (l0.length:Int))=true:=decide_eq_true hlt
        have hd2:decide (j < l0.length)=true:=decide_eq_true hjl
        have hwj:wrap64 ((j:Int) + 1)=((j + 1:Nat):Int):=by have:=HLEN.out;unfold wrap64;omega
        have hwi:wrap64 ((i:Int) + 1)=((i + 1:Nat):Int):=by have:=HLEN.out;unfold wrap64;omega
        have HWJ:=Aside0.mk hwj
        have HWI:=Aside0.mk hwi
        clear hwj hwi
        by_cases hp:p (rd l0 (j:Int))=true
        · have HD2:=Aside0.mk (HD.out.skip hjl hp)
          have HP:=Aside0.mk hp
          clear hp
          go_wp2_with (fail)
          refine (HT.out _ _ HK.out).mono ?_
          rintro e w1 ⟨rfl,hb1⟩
          rw [HP.out]
          have HB1:=Aside0.mk hb1
          clear hb1
          go_wp2
          go_roundw
          case rel=>exact ⟨i,j + 1,xs,rfl,congrArg _ HWJ.out,HD2,⟨Kd.R_below HO.out HB1.out⟩,⟨below_step HB.out HB1.out⟩,⟨HKB.out _ _ HK.out HB1.out⟩⟩
          case measure=>exact del_measure _ _ hjl _ HWJ.out
        · have hp':=Bool.eq_false_iff.mpr hp
          have HD2:=Aside0.mk (HD.out.keep hjl hp')
          have HP:=Aside0.mk hp'
          clear hp hp'
          go_wp2_with (fail)
          refine (HT.out _ _ HK.out).mono ?_
          rintro e w1 ⟨rfl,hb1⟩
          rw [HP.out]
          have HO1:=Aside0.mk (Kd.R_below HO.out hb1)
          have HB1:=Aside0.mk (below_step HB.out hb1)
          have HK1:=Aside0.mk (HKB.out _ _ HK.out hb1)
          clear hb1
          have HPUT:=Aside0.mk (Kd.R_putg HO1.out (i:Int) (rd l0 (j:Int)))
          have hcl:=Kd.R_celln 0 HO1.out (i:Int) (by omega) (by omega)
          obtain ⟨hx1,hf1⟩:=hcl
          simp only [Int.toNat_natCast] at hx1 hf1
          have hi1:decide ((i:Int) < (l0.length:Int))=true:=decide_eq_true (by omega)
          have hi2:(i < l0.length)=True:=eq_true (by omega)
          go_wp2
          go_roundw
          case rel=>exact ⟨i + 1,j + 1,xs.set i (rd l0 (j:Int)),congrArg _ HWI.out,congrArg _ HWJ.out,HD2,⟨by have h:=HPUT.out.1;simp only [Int.toNat_natCast] at h;exact h⟩,⟨by simpa using below_set HB1.out HBK.out⟩,⟨by simpa using HKS.out _ _ _ HK1.out⟩⟩
          case measure=>exact del_measure _ _ hjl _ HWJ.out
      · have hj:j=l0.length:=by have:=HD.out.2.2.1;omega
        have hi:i < l0.length:=by have:=HD.out.2.1;omega
        have hfil:xs.take i=l0.filter (fun x=>!p x):=by have:=HD.out.2.2.2.1;rwa [hj,List.take_length] at this
        have hfl:(l0.filter fun x=>!p x).length=i:=by rw [← hfil,List.length_take];omega
        have hd:decide ((j:Int) < (l0.length:Int))=false:=decide_eq_false hlt
        have hd2:decide (j < l0.length)=false:=decide_eq_false (by omega)
        have hcap:=HCAP.out
        obtain ⟨hi0,hii,hiz⟩:=Option.map_eq_some_iff.1 info3
        simp only [Prod.mk.injEq] at hiz
        have hcut1:=cut_from (P:=Try.prog) 36 3 .i64 Try.underlying36 hii 1 hiz.2.1 (some ⟨blk,0,none⟩) l0.length c0 (i:Int) (by omega) (by omega)
        have hcut2:=cut_to (P:=Try.prog) 36 3 .i64 Try.underlying36 hii (some ⟨blk,0,none⟩) l0.length c0 (i:Int) (by omega) (by omega) hcap
        have hne:¬ (c0=i):=by omega
        simp only [Int.toNat_natCast,if_neg hne,Option.map_some,Nat.mul_one] at hcut1 hcut2
        have hadd:(⟨blk,0,none⟩:Addr).add i=⟨blk,i,none⟩:=by simp only [Addr.add,Nat.zero_add];split <;> simp_all
        rw [hadd] at hcut1
        have hz3:∀ w,(zeroValue 3).run Try.prog w=.ok (.int .i64 0) w:=fun w=>by kernel_rfl
        have hc:∀ q,q < l0.length → wr.cell? ⟨blk,q,none⟩=some (.int .i64 (rd xs (q:Int)))∧wr.frozen? ⟨blk,q,none⟩=false:=fun q hq=>by
          have h:=Kd.R_celln 0 HO.out (q:Int) (by omega) (by omega)
          simpa [rd,rdOf] using h
        have hclr:∀ ty,(Builtin.clear_ #[36] ty #[.slice (some ⟨blk,i,none⟩) (l0.length - i) (c0 - i)]).run Try.prog wr=.ok (.tuple #[]) (wr.setCells blk i (List.replicate (l0.length - i) (.int .i64 0))) :=
          fun ty=>Lib.run_clear_slice wr 36 3 ty (.int .i64 0) Try.underlying36 hz3 rfl rfl blk i (l0.length - i) (c0 - i) (by omega) (fun q hq=>by rw [(hc (i + q) (by omega)).1];rfl) (fun q hq=>(hc (i + q) (by omega)).2)
        have HFIN:=Aside0.mk (show Kd.C (Kd.int .i64) (wr.setCells blk i (List.replicate (l0.length - i) (.int .i64 0))) (some ⟨blk,0,none⟩) (l0.filter fun x=>!p x).length (l0.filter fun x=>!p x) from by
          rw [← hfil]
          have hC:=Kd.C_take (m:=i) (Kd.R_reads' HO.out).2.2 (by omega)
          refine ⟨rfl,by have hL:=HLEN.out;rw [List.length_take];omega,fun _=>⟨⟨blk,0,none⟩,rfl,fun q u hq=>⟨[.int .i64 u],rfl,rfl,fun a b hab=>?_⟩⟩⟩
          have ha0:a=0:=by
            cases a with
            | zero=>rfl
            | succ a=>simp at hab
          subst ha0
          have hb:b=.int .i64 u:=by simpa using hab.symm
          subst hb
          have hql:q < i:=by have:=(List.getElem?_eq_some_iff.mp hq).1;rw [List.length_take] at this;omega
          have hu:u=rd xs (q:Int):=by
            rw [List.getElem?_take_of_lt hql] at hq
            simp [rd,List.getD_eq_getElem?_getD,hq]
          have e:(⟨blk,0,none⟩:Addr).add (q * (Kd.int .i64).sz + 0)=⟨blk,q,none⟩:=by
            have hs:(Kd.int .i64).sz=1:=rfl
            rw [hs,Nat.mul_one,Nat.add_zero]
            simp only [Addr.add,Nat.zero_add]
            split <;> simp_all
          rw [e,World.cell?_setCells_out blk _ _ _ ⟨blk,q,none⟩ (fun _ _=>Or.inl hql),(hc q (by omega)).1,hu])
        have HBF:=Aside0.mk (show Below w0.heap.size w0 (wr.setCells blk i (List.replicate (l0.length - i) (.int .i64 0))) from below_cells HBK.out _ _ _ HB.out)
        have HFL:=Aside0.mk hfl
        clear hc hz3 hadd hii hiz hfl hfil
        go_wp2_with (simp only [hclr])
        go_ret
        refine ⟨?_,HFIN.out,HBF.out⟩
        rw [HFL.out]
        rfl

/-! ### norm_divisors: function 76 -/
def norm_divisors.l0:Nat → Int → List Int → Int → Option (List Int)
  | 0,_,_,_=>none
  | k + 1,x0,x3,x4=>if x4 ≤ x0 then (if x4=0 then (none) else (if (Int.tmod x0 x4)=0 then (if x3.length < 17592186044416 then (norm_divisors.l0 k x0 (x3 ++ [x4]) (wrap64 (x4 + 1))) else (none)) else (norm_divisors.l0 k x0 x3 (wrap64 (x4 + 1))))) else (some x3)
def norm_divisors.f (k:Nat) (a0:Int):Option (List Int):=norm_divisors.l0 k a0 ([]:List Int) 1
theorem norm_divisors.mono_l:∀ k,(∀ y0 y1 y2,LeO (norm_divisors.l0 k y0 y1 y2) (norm_divisors.l0 (k + 1) y0 y1 y2))
  | 0=>fun _ _ _ r h=>by simp [norm_divisors.l0] at h
  | k + 1=>by
    have ih0:=norm_divisors.mono_l k
    · intro y0 y1 y2
      unfold norm_divisors.l0
      with_reducible repeat' first|exact ih0 _ _ _|exact LeO.refl _|exact LeO.none _|refine LeO.ite ?_ ?_|refine LeO.bind ?_ (fun _=>?_)
theorem norm_divisors.mono:∀ a0 k,LeO (norm_divisors.f k a0) (norm_divisors.f (k + 1) a0):=by
  intro a0 k
  have ih0:=norm_divisors.mono_l k
  unfold norm_divisors.f
  with_reducible repeat' first|exact ih0 _ _ _|exact LeO.refl _|exact LeO.none _|refine LeO.ite ?_ ?_|refine LeO.bind ?_ (fun _=>?_)
set_option maxHeartbeats 8000000 in
set_option maxRecDepth 100000 in
theorem norm_divisors.calls (k:Nat) (a0:Int) (r:List Int) (w:World) (h:norm_divisors.f k a0=some r) :
    Calls Try.prog 76 #[.int .i64 a0] w fun e w'=>∃ v0_:Value,e=.returned (v0_)∧Kd.R (Kd.int .i64) 3 w' w.heap.size (fun _=>True) v0_ r∧Below w.heap.size w w':=by
 have HB:=mk0 (Below.refl w.heap.size w);have H:(norm_divisors.l0 k a0 ([]:List Int) 1)=some r:=h;clear h;have H':=mk0 H;clear H;go_enter Try.func76,Try.ntmps76;go_wp2
 go_loopg [3,4] k (fun kq v3 v4 w'=>∃ (x3_1:List Int) (x4_1:Int),v4=.int .i64 x4_1∧Aside0 (norm_divisors.l0 kq a0 x3_1 x4_1=some r)∧Aside0 (kq ≤ k)∧Aside0 (Kd.R (Kd.int .i64) 3 w' w.heap.size (fun _=>True) v3 x3_1)∧Aside0 (Below w.heap.size w w'))
 case atStart=>exact ⟨(([]:List Int)),(1),(by first|rfl|(simp;done)|(simp [*];done)),H',⟨Nat.le_refl _⟩,⟨by first|exact Kd.R_nil _ _ _ _ _|exact Kd.N_nil _ _ _ _ _|exact Kd.V_nil _ _ _ _ _|exact Kd.Q_nil _ _ _ _ _|exact Kd.S_nil _ _ _ _ _⟩,⟨by repeat (first|(with_reducible first|exact HB.out|apply below_alloc|apply pw_below_drewN|apply below_drew1)|exact HB.out)⟩⟩
 case round =>
  clear H';obtain ⟨x3_1,x4_1,rfl,HA,HK1,HO_3,HB⟩:=hrel;cases gk with
  | zero=>exact absurd HA.out (by simp [norm_divisors.l0])
  | succ k1 =>
   have H:=HA.out;clear HA;simp only [norm_divisors.l0] at H
   by_cases c2:x4_1 ≤ a0
   ·
    rw [if_pos c2] at H;have c2b0:decide (x4_1 ≤ a0)=true:=decide_eq_true c2;clear c2
    by_cases c3:x4_1=0
    ·
     rw [if_pos c3] at H;exact absurd H (by simp)
    ·
     rw [if_neg c3] at H;have c3b0:(x4_1 == 0)=false:=beq_eq_false_iff_ne.mpr c3;have c3b1:(x4_1 != 0)=true:=bne_iff_ne.mpr c3
     by_cases c4:(Int.tmod a0 x4_1)=0
     ·
      rw [if_pos c4] at H;have c4b0:((Int.tmod a0 x4_1) == 0)=true:=beq_iff_eq.mpr c4;have c4b1:((Int.tmod a0 x4_1) != 0)=false:=bne_eq_false_iff_eq.mpr c4;clear c4
      by_cases c5:x3_1.length < 17592186044416
      ·
       rw [if_pos c5] at H;have LMc5:=mk0 c5;clear c5;obtain ⟨y288,hy288⟩:∃ y_:List Int,y_=(x3_1 ++ [x4_1]):=⟨_,rfl⟩
       replace H:(norm_divisors.l0 k1 a0 y288 (wrap64 (x4_1 + 1)))=some r:=by first|(rw [hy288];with_reducible exact H)|(have H2_:=(Option.bind_some _ _).symm.trans H;rw [hy288];with_reducible exact H2_)|(have H2_:=(Option.bind_some _ _).symm.trans H;with_reducible exact H2_)|with_reducible exact H|(rw [hy288];exact H)|exact H
       have Ny288:=mk0 hy288;clear hy288;have H':=mk0 H;clear H;go_wp2_with (first|((with_reducible refine gate_builtin (b:=.append) (xs:=#[.tmp 14,.tmp 16]) rfl ?_);at_builtin;refine Kd.R_append (Kd.int .i64) (w0:=w) w.heap.size rfl (.tmp 14) (.tmp 16) 36 3 (.int .i64 0) 8 rfl Try.underlying36 info3 rfl (by decide) (by omega) u3 x3_1 x4_1 [.int .i64 x4_1] (fun _=>True) (fun _=>False) rfl rfl ?aP (fun _ hk=>hk.elim) ?aF ?aO ?aB ?aS ?aL ?_;(case aP=>exact rfl);(case aB=>exact (by repeat (first|(with_reducible first|exact HB.out|apply below_alloc|apply pw_below_drewN|apply below_drew1)|exact HB.out)));(case aF=>exact (fun _ _=>trivial));(case aO=>exact (by (with_reducible repeat (first|apply Kd.R_alloc|apply Kd.R_drewN|apply Kd.R_drew));exact HO_3.out));(case aS=>exact (below_size (by repeat (first|(with_reducible first|exact HB.out|apply below_alloc|apply pw_below_drewN|apply below_drew1)|exact HB.out))));(case aL=>have:=LMc5.out;omega);intro v289 w6 ho hb hg hat;rw [← Ny288.out] at ho;have HO290:=mk0 (ho);replace HB:=mk0 (hb);clear HO_3;clear ho hb hg hat));go_roundg k1
       case measure=>have:=HK1.out;omega
       case rel=>exact ⟨(y288),(wrap64 (x4_1 + 1)),(by first|rfl|(simp;done)|(simp [*];done)),H',⟨by have:=HK1.out;omega⟩,⟨by (with_reducible repeat (first|apply Kd.R_alloc|apply Kd.R_drewN|apply Kd.R_drew));exact HO290.out⟩,⟨by repeat (first|(with_reducible first|exact HB.out|apply below_alloc|apply pw_below_drewN|apply below_drew1)|exact HB.out)⟩⟩
      ·
       rw [if_neg c5] at H;exact absurd H (by simp)
     ·
      rw [if_neg c4] at H;have c4b0:((Int.tmod a0 x4_1) == 0)=false:=beq_eq_false_iff_ne.mpr c4;have c4b1:((Int.tmod a0 x4_1) != 0)=true:=bne_iff_ne.mpr c4;have H':=mk0 H;clear H;go_wp2;go_roundg k1
      case measure=>have:=HK1.out;omega
      case rel=>exact ⟨(x3_1),(wrap64 (x4_1 + 1)),(by first|rfl|(simp;done)|(simp [*];done)),H',⟨by have:=HK1.out;omega⟩,⟨by (with_reducible repeat (first|apply Kd.R_alloc|apply Kd.R_drewN|apply Kd.R_drew));exact HO_3.out⟩,⟨by repeat (first|(with_reducible first|exact HB.out|apply below_alloc|apply pw_below_drewN|apply below_drew1)|exact HB.out)⟩⟩
   ·
    rw [if_neg c2] at H;have c2b0:decide (x4_1 ≤ a0)=false:=decide_eq_false c2;clear c2;obtain rfl:=Option.some.inj H;go_wp2;go_ret;exact ⟨_,by first|rfl|(simp [errW_none,errW_some] <;> rfl)|(simp [*,errW_none,errW_some] <;> rfl),by (with_reducible repeat (first|apply Kd.R_alloc|apply Kd.R_drewN|apply Kd.R_drew));exact HO_3.out,by repeat (first|(with_reducible first|exact HB.out|apply below_alloc|apply pw_below_drewN|apply below_drew1)|exact HB.out)⟩
/-! ### norm_total: function 61 -/
def sumW (l:List Int):Int:=l.foldl (fun s x=>wrap64 (s + x)) 0
theorem sumW_take (l:List Int) (i:Nat) (hi:i < l.length):wrap64 (sumW (l.take i) + rd l (i:Int))=sumW (l.take (i + 1)):=by
  have e:l.take (i + 1)=l.take i ++ [rd l (i:Int)]:=by
    rw [List.take_add_one]
    simp [rd,List.getD_eq_getElem?_getD,List.getElem?_eq_getElem hi]
  rw [e,sumW,sumW,List.foldl_append]
  rfl
def totalF (k:Nat) (n:Int) (q:Int → Bool):Option Int:=(norm_divisors.f k n).bind fun l=>if l.length=0 then none else some (sumW (l.filter q))
theorem totalF_mono (q:Int → Bool) (n:Int) (k:Nat):LeO (totalF k n q) (totalF (k + 1) n q):=LeO.bind (norm_divisors.mono n k) (fun _=>LeO.refl _)
/-- good, called at x. -/
def Good (gd:Nat) (q:Int → Bool):Prop:=(∀ args w,(callFunc gd args).run Try.prog w=.ok (.enter gd args) w)∧∀ (W:World) (x:Int),Calls Try.prog gd #[.int .i64 x] W fun e w'=>e=.returned (.bool (q x))∧Below W.heap.size W w'
theorem total_tells (gd:Nat) (q:Int → Bool) (B:Nat) (hg:Good gd q):TellsK 77 #[.pointer (some ⟨B,0,none⟩)] (fun x=>!q x) (fun W=>W.cell? ⟨B,0,none⟩=some (.func (.func gd) #[] #[])):=fun W x hc=>by
  have HG:=Aside0.mk hg.2
  have eg:=hg.1
  clear hg
  show Calls Try.prog 77 #[.int .i64 x,.pointer (some ⟨B,0,none⟩)] W (fun e w'=>e=.returned (.bool (!q x))∧Below W.heap.size W w')
  go_enter Try.func77,Try.ntmps77
  go_wp2_with (fail)
  refine (HG.out _ _).mono ?_
  rintro e w1 ⟨rfl,hb⟩
  have HB:=Aside0.mk hb
  clear hb
  go_wp2
  go_ret
  exact ⟨rfl,HB.out⟩
theorem sumW_step (l:List Int) (i:Int) (h0:0 ≤ i) (hi:i < (l.length:Int)) (hL:(l.length:Int) ≤ 9223372036854775807):wrap64 (sumW (l.take i.toNat) + rd l i)=sumW (l.take (wrap64 (i + 1)).toNat)∧wrap64 (i + 1)=i + 1:=by
  have hw:wrap64 (i + 1)=i + 1:=by unfold wrap64;omega
  refine ⟨?_,hw⟩
  rw [hw,show (i + 1).toNat=i.toNat + 1 by omega]
  have:=sumW_take l i.toNat (by omega)
  rwa [Int.toNat_of_nonneg h0] at this
theorem total_measure (n:Nat) (i x:Int) (h0:0 ≤ i) (h:i < (n:Int)) (hx:x=i + 1):n - (intOf (.int .i64 x)).toNat < n - (intOf (.int .i64 i)).toNat:=by
  subst hx
  simp only [intOf]
  omega
set_option maxHeartbeats 1000000 in
set_option maxRecDepth 100000 in
theorem norm_total.calls (gd:Nat) (q:Int → Bool) (hg:Good gd q) (k:Nat) (n r:Int) (w:World) (h:totalF k n q=some r) :
    Calls Try.prog 61 #[.int .i64 n,.func (.func gd) #[] #[]] w fun e w'=>e=.returned (.int .i64 r)∧Below w.heap.size w w':=by
  unfold totalF at h
  obtain ⟨l,hl,h⟩:=Option.bind_eq_some_iff.mp h
  by_cases hne:l.length=0
  · rw [if_pos hne] at h;cases h
  rw [if_neg hne] at h
  obtain rfl:=Option.some.inj h
  clear h
  have HD:=Aside0.mk (norm_divisors.calls k n l (w.alloc (.cells #[.func (.func gd) #[] #[]] 42)) hl)
  have HT:=Aside0.mk (total_tells gd q w.heap.size hg)
  have HNE:=Aside0.mk (show 0 < l.length by omega)
  have HK0:=Aside0.mk (show (w.alloc (.cells #[.func (.func gd) #[] #[]] 42)).cell? ⟨w.heap.size,0,none⟩=some (.func (.func gd) #[] #[]) by simp)
  have HFL:=Aside0.mk (show (l.filter fun x=>!(!q x))=l.filter q by congr 1;funext x;simp)
  generalize l.filter q=m at *
  clear hl hne hg
  have eg:∀ args w,(callFunc 77 args).run Try.prog w=.ok (.enter 77 args) w:=enters_of Try.func77 (by kernel_rfl) rfl
  have EG:=Aside0.mk eg
  clear eg
  go_enter Try.func61,Try.ntmps61
  go_wp2_with (go_at_call 76;refine HD.out.mono ?_;rintro e w1 ⟨v,rfl,hR,hb⟩;obtain ⟨blk,cap,rfl,hbase,-⟩:=Kd.R_form hR HNE.out;have HR1:=Aside0.mk hR;have HB1:=Aside0.mk hb;have HBS:=Aside0.mk hbase;clear hR hb hbase)
  have hbs:w.heap.size < blk:=by have:=HBS.out;simp at this;omega
  have hsz0:w.heap.size < (w.alloc (.cells #[.func (.func gd) #[] #[]] 42)).heap.size:=by simp
  have HK1:=Aside0.mk (show w1.cell? ⟨w.heap.size,0,none⟩=some (.func (.func gd) #[] #[]) from (HB1.out.cell hsz0).trans HK0.out)
  have HDF:=Aside0.mk (DeleteFunc_int.calls 77 #[.pointer (some ⟨w.heap.size,0,none⟩)] (fun x=>!q x) blk cap l (fun _=>True) (fun W=>W.cell? ⟨w.heap.size,0,none⟩=some (.func (.func gd) #[] #[])) _ w1 HR1.out HNE.out HB1.out EG.out HT.out HK1.out
    (fun W W' h hb=>(hb.cell (World.block_lt_of_cell? W _ h)).trans h)
    (fun W i v h=>by exact (World.cell?_setCell_other W _ _ v (by intro e;injection e with e1;omega)).trans h))
  clear hbs hsz0
  rw [HFL.out] at HDF
  refine HDF.out.mono ?_
  rintro e w2 ⟨rfl,hC,hb⟩
  have HC:=Aside0.mk hC
  have HB:=Aside0.mk (show Below w.heap.size w w2 from ((Below.refl _ _).alloc (Nat.le_refl _) _).trans (hb.mono (by simp)))
  have HLEN:=Aside0.mk hC.2.1
  clear hC hb HDF
  have HSW:=Aside0.mk (show ∀ i:Int,0 ≤ i → i < (m.length:Int) → wrap64 (sumW (m.take i.toNat) + rd m i)=sumW (m.take (wrap64 (i + 1)).toNat)∧wrap64 (i + 1)=i + 1 from fun i h0 hi=>sumW_step _ i h0 hi (by have:=HLEN.out;omega))
  have HEND:=Aside0.mk (show sumW (m.take m.length)=sumW m by rw [List.take_length])
  go_wp2
  go_loopw [5,7,13] (fun v5 v7 v13 w'=>∃ i:Int,v13=.int .i64 i∧v5=.int .i64 (sumW (m.take i.toNat))∧Aside0 (0 ≤ i∧i ≤ (m.length:Int))∧w'=w2) (fun v5 v7 v13 _=>m.length - (intOf v13).toNat)
  case atStart=>exact ⟨0,rfl,rfl,⟨by omega,by omega⟩,rfl⟩
  case round =>
    obtain ⟨i,rfl,rfl,HI,rfl⟩:=hrel
    by_cases hlt:i < (m.length:Int)
    · have p1:0 ≤ i:=HI.out.1
      obtain ⟨ad,e,hx⟩:=Kd.at_int HC.out i p1 hlt
      cases e
      have ea:(⟨blk,0,none⟩:Addr).add i.toNat=⟨blk,i.toNat,none⟩:=by
        simp only [Addr.add,Nat.zero_add]
        split <;> simp_all
      rw [ea] at hx
      clear ea
      have HS:=Aside0.mk (HSW.out i p1 hlt)
      have HM:=Aside0.mk (total_measure m.length i _ p1 hlt HS.out.2)
      have hd:decide (i < (m.length:Int))=true:=decide_eq_true hlt
      have HI2:=Aside0.mk (show 0 ≤ wrap64 (i + 1)∧wrap64 (i + 1) ≤ (m.length:Int) by rw [HS.out.2];omega)
      replace p1:=eq_true p1
      replace hlt:=eq_true hlt
      go_wp2
      go_roundw
      case rel=>exact ⟨_,rfl,congrArg _ HS.out.1,HI2,trivial⟩
      case measure=>exact HM.out
    · have hd:decide (i < (m.length:Int))=false:=decide_eq_false hlt
      have HF:=Aside0.mk (show sumW (m.take i.toNat)=sumW m by rw [show i.toNat=m.length by have:=HI.out;omega];exact HEND.out)
      clear hlt
      go_wp2
      go_ret
      exact ⟨by rw [HF.out];rfl,HB.out⟩

/-! ### total_Count: function 61, with a function value -/
def total_Count.f (k:Nat) (a0:Int):Option (Int):=totalF k a0 (fun d=>!decide (Int.tmod d 4=0))
theorem total_Count.mono:∀ a0 k,LeO (total_Count.f k a0) (total_Count.f (k + 1) a0):=fun a0 k=>totalF_mono _ a0 k
theorem total_Count.good:Good 62 (fun d=>!decide (Int.tmod d 4=0)):=⟨enters_of Try.func62 (by kernel_rfl) rfl,fun W x=>by
  show Calls Try.prog 62 #[.int .i64 x] W (fun e w'=>e=.returned (.bool (!decide (Int.tmod x 4=0)))∧Below W.heap.size W w')
  go_enter Try.func62,Try.ntmps62
  go_wp2
  go_ret
  exact ⟨rfl,Below.refl _ _⟩⟩
theorem total_Count.calls (k:Nat) (a0:Int) (r:Int) (w:World) (h:total_Count.f k a0=some r) :
    Calls Try.prog 61 #[.int .i64 a0,.func (.func 62) #[] #[]] w fun e w'=>e=.returned (.int .i64 r)∧Below w.heap.size w w' :=
  norm_total.calls 62 _ total_Count.good k a0 r w h

/-! ### norm_Count: function 28 -/
def norm_Count.f (k:Nat) (a0:Int):Option (Int × Int):=(norm_counted.f a0 0).bind fun t291=>(if t291=true then (if a0=0 then (some (1,0)) else ((total_Count.f k a0).bind fun t292=>(some (wrap64 (8 * t292),0)))) else (some (0,1)))
theorem norm_Count.mono:∀ a0 k,LeO (norm_Count.f k a0) (norm_Count.f (k + 1) a0):=by
  intro a0 k
  unfold norm_Count.f
  with_reducible repeat' first|exact total_Count.mono _ _|exact LeO.refl _|exact LeO.none _|refine LeO.ite ?_ ?_|refine LeO.bind ?_ (fun _=>?_)
set_option maxHeartbeats 8000000 in
set_option maxRecDepth 100000 in
theorem norm_Count.calls (k:Nat) (a0:Int) (r1:Int) (r2:Int) (w:World) (h:norm_Count.f k a0=some (r1,r2)) :
    Calls Try.prog 28 #[.int .i64 a0] w fun e w'=>e=.returned (.tuple #[.int .i64 r1,.int .i64 r2])∧Below w.heap.size w w':=by
 have HB:=mk0 (Below.refl w.heap.size w);have H:((norm_counted.f a0 0).bind fun t291=>(if t291=true then (if a0=0 then (some (1,0)) else ((total_Count.f k a0).bind fun t292=>(some (wrap64 (8 * t292),0)))) else (some (0,1))))=some (r1,r2):=h;clear h;replace H:=Option.bind_eq_some_iff.mp H;obtain ⟨t291,A20,H⟩:=H;(try dsimp only at H);have A2:=mk0 A20;clear A20
 by_cases c3:t291=true
 ·
  subst c3;have H1:(if a0=0 then (some (1,0)) else ((total_Count.f k a0).bind fun t292=>(some (wrap64 (8 * t292),0))))=some (r1,r2):=by rw [if_pos rfl] at H;exact H
  clear H;have H:=H1;clear H1
  by_cases c4:a0=0
  ·
   rw [if_pos c4] at H;have c4b0:(a0 == 0)=true:=beq_iff_eq.mpr c4;have c4b1:(a0 != 0)=false:=bne_eq_false_iff_eq.mpr c4;clear c4;simp only [Option.some.injEq,Prod.mk.injEq] at H;obtain ⟨rfl,rfl⟩:=H;go_enter Try.func28,Try.ntmps28;go_wp2_with (first|((with_reducible refine gate_callee (f:=57) rfl ?_);refine goesL_ (some 6) rfl rfl Try.func57 (by kernel_rfl) rfl #[.int .i64 a0,.int .i64 0] rfl (by (try simp only [List.map_toArray,List.map_cons,List.map_nil]);first|done|rfl|(simp only [List.length_drop,List.length_take];rfl)) ?_;(with_reducible refine (norm_counted.calls a0 0 true _ A2.out).mono ?_);rintro e w' ⟨rfl,⟨nd,rfl⟩⟩;refine ⟨_,rfl,?_⟩));go_ret2;exact ⟨by first|rfl|(simp [errW_none,errW_some] <;> rfl)|(simp [*,errW_none,errW_some] <;> rfl),by repeat (first|(with_reducible first|exact HB.out|apply below_alloc|apply pw_below_drewN|apply below_drew1)|exact HB.out)⟩
  ·
   rw [if_neg c4] at H;have c4b0:(a0 == 0)=false:=beq_eq_false_iff_ne.mpr c4;have c4b1:(a0 != 0)=true:=bne_iff_ne.mpr c4;replace H:=Option.bind_eq_some_iff.mp H;obtain ⟨t292,A50,H⟩:=H;(try dsimp only at H);have A5:=mk0 A50;clear A50;simp only [Option.some.injEq,Prod.mk.injEq] at H;obtain ⟨rfl,rfl⟩:=H;go_enter Try.func28,Try.ntmps28;go_wp2_with (first|((with_reducible refine gate_callee (f:=57) rfl ?_);refine goesL_ (some 6) rfl rfl Try.func57 (by kernel_rfl) rfl #[.int .i64 a0,.int .i64 0] rfl (by (try simp only [List.map_toArray,List.map_cons,List.map_nil]);first|done|rfl|(simp only [List.length_drop,List.length_take];rfl)) ?_;(with_reducible refine (norm_counted.calls a0 0 true _ A2.out).mono ?_);rintro e w' ⟨rfl,⟨nd,rfl⟩⟩;refine ⟨_,rfl,?_⟩)|((with_reducible refine gate_callee (f:=61) rfl ?_);refine goesL_ (some 12) rfl rfl Try.func61 (by kernel_rfl) rfl #[.int .i64 a0,.func (.func 62) #[] #[]] rfl (by (try simp only [List.map_toArray,List.map_cons,List.map_nil]);first|done|rfl|(simp only [List.length_drop,List.length_take];rfl)) ?_;(with_reducible refine (total_Count.calls k a0 t292 _ A5.out).mono ?_);rintro e w6 ⟨rfl,hb⟩;refine ⟨_,rfl,?_⟩;replace HB:=mk0 (below_step (by repeat (first|(with_reducible first|exact HB.out|apply below_alloc|apply pw_below_drewN|apply below_drew1)|exact HB.out)) hb);(try clear hb)));go_ret2;exact ⟨by first|rfl|(simp [errW_none,errW_some] <;> rfl)|(simp [*,errW_none,errW_some] <;> rfl),by repeat (first|(with_reducible first|exact HB.out|apply below_alloc|apply pw_below_drewN|apply below_drew1)|exact HB.out)⟩
 ·
  replace c3:=Bool.eq_false_iff.mpr c3;subst c3;have H1:(some (0,1))=some (r1,r2):=by rw [if_neg (show ¬ (false=true) by decide)] at H;exact H
  clear H;have H:=H1;clear H1;simp only [Option.some.injEq,Prod.mk.injEq] at H;obtain ⟨rfl,rfl⟩:=H;go_enter Try.func28,Try.ntmps28;go_wp2_with (first|((with_reducible refine gate_callee (f:=57) rfl ?_);refine goesL_ (some 6) rfl rfl Try.func57 (by kernel_rfl) rfl #[.int .i64 a0,.int .i64 0] rfl (by (try simp only [List.map_toArray,List.map_cons,List.map_nil]);first|done|rfl|(simp only [List.length_drop,List.length_take];rfl)) ?_;(with_reducible refine (norm_counted.calls a0 0 false _ A2.out).mono ?_);rintro e w' ⟨rfl,⟨nd,rfl⟩⟩;refine ⟨_,rfl,?_⟩));go_ret2;exact ⟨by first|rfl|(simp [errW_none,errW_some] <;> rfl)|(simp [*,errW_none,errW_some] <;> rfl),by repeat (first|(with_reducible first|exact HB.out|apply below_alloc|apply pw_below_drewN|apply below_drew1)|exact HB.out)⟩
/-! ### total_Hurwitz: function 61, with a function value -/
def total_Hurwitz.f (k:Nat) (a0:Int):Option (Int):=totalF k a0 (fun d=>decide (Int.tmod d 2=1))
theorem total_Hurwitz.mono:∀ a0 k,LeO (total_Hurwitz.f k a0) (total_Hurwitz.f (k + 1) a0):=fun a0 k=>totalF_mono _ a0 k
theorem total_Hurwitz.good:Good 63 (fun d=>decide (Int.tmod d 2=1)):=⟨enters_of Try.func63 (by kernel_rfl) rfl,fun W x=>by
  show Calls Try.prog 63 #[.int .i64 x] W (fun e w'=>e=.returned (.bool (decide (Int.tmod x 2=1)))∧Below W.heap.size W w')
  go_enter Try.func63,Try.ntmps63
  go_wp2
  go_ret
  exact ⟨rfl,Below.refl _ _⟩⟩
theorem total_Hurwitz.calls (k:Nat) (a0:Int) (r:Int) (w:World) (h:total_Hurwitz.f k a0=some r) :
    Calls Try.prog 61 #[.int .i64 a0,.func (.func 63) #[] #[]] w fun e w'=>e=.returned (.int .i64 r)∧Below w.heap.size w w' :=
  norm_total.calls 63 _ total_Hurwitz.good k a0 r w h

/-! ### norm_Hurwitz: function 29 -/
def norm_Hurwitz.f (k:Nat) (a0:Int):Option (Int × Int):=(norm_counted.f a0 1).bind fun t293=>(if t293=true then ((total_Hurwitz.f k a0).bind fun t294=>(some (wrap64 (24 * t294),0))) else (some (0,1)))
theorem norm_Hurwitz.mono:∀ a0 k,LeO (norm_Hurwitz.f k a0) (norm_Hurwitz.f (k + 1) a0):=by
  intro a0 k
  unfold norm_Hurwitz.f
  with_reducible repeat' first|exact total_Hurwitz.mono _ _|exact LeO.refl _|exact LeO.none _|refine LeO.ite ?_ ?_|refine LeO.bind ?_ (fun _=>?_)
set_option maxHeartbeats 8000000 in
set_option maxRecDepth 100000 in
theorem norm_Hurwitz.calls (k:Nat) (a0:Int) (r1:Int) (r2:Int) (w:World) (h:norm_Hurwitz.f k a0=some (r1,r2)) :
    Calls Try.prog 29 #[.int .i64 a0] w fun e w'=>e=.returned (.tuple #[.int .i64 r1,.int .i64 r2])∧Below w.heap.size w w':=by
 have HB:=mk0 (Below.refl w.heap.size w);have H:((norm_counted.f a0 1).bind fun t293=>(if t293=true then ((total_Hurwitz.f k a0).bind fun t294=>(some (wrap64 (24 * t294),0))) else (some (0,1))))=some (r1,r2):=h;clear h;replace H:=Option.bind_eq_some_iff.mp H;obtain ⟨t293,A20,H⟩:=H;(try dsimp only at H);have A2:=mk0 A20;clear A20
 by_cases c3:t293=true
 ·
  subst c3;have H1:((total_Hurwitz.f k a0).bind fun t294=>(some (wrap64 (24 * t294),0)))=some (r1,r2):=by rw [if_pos rfl] at H;exact H
  clear H;have H:=H1;clear H1;replace H:=Option.bind_eq_some_iff.mp H;obtain ⟨t294,A40,H⟩:=H;(try dsimp only at H);have A4:=mk0 A40;clear A40;simp only [Option.some.injEq,Prod.mk.injEq] at H;obtain ⟨rfl,rfl⟩:=H;go_enter Try.func29,Try.ntmps29;go_wp2_with (first|((with_reducible refine gate_callee (f:=57) rfl ?_);refine goesL_ (some 5) rfl rfl Try.func57 (by kernel_rfl) rfl #[.int .i64 a0,.int .i64 1] rfl (by (try simp only [List.map_toArray,List.map_cons,List.map_nil]);first|done|rfl|(simp only [List.length_drop,List.length_take];rfl)) ?_;(with_reducible refine (norm_counted.calls a0 1 true _ A2.out).mono ?_);rintro e w' ⟨rfl,⟨nd,rfl⟩⟩;refine ⟨_,rfl,?_⟩)|((with_reducible refine gate_callee (f:=61) rfl ?_);refine goesL_ (some 8) rfl rfl Try.func61 (by kernel_rfl) rfl #[.int .i64 a0,.func (.func 63) #[] #[]] rfl (by (try simp only [List.map_toArray,List.map_cons,List.map_nil]);first|done|rfl|(simp only [List.length_drop,List.length_take];rfl)) ?_;(with_reducible refine (total_Hurwitz.calls k a0 t294 _ A4.out).mono ?_);rintro e w5 ⟨rfl,hb⟩;refine ⟨_,rfl,?_⟩;replace HB:=mk0 (below_step (by repeat (first|(with_reducible first|exact HB.out|apply below_alloc|apply pw_below_drewN|apply below_drew1)|exact HB.out)) hb);(try clear hb)));go_ret2;exact ⟨by first|rfl|(simp [errW_none,errW_some] <;> rfl)|(simp [*,errW_none,errW_some] <;> rfl),by repeat (first|(with_reducible first|exact HB.out|apply below_alloc|apply pw_below_drewN|apply below_drew1)|exact HB.out)⟩
 ·
  replace c3:=Bool.eq_false_iff.mpr c3;subst c3;have H1:(some (0,1))=some (r1,r2):=by rw [if_neg (show ¬ (false=true) by decide)] at H;exact H
  clear H;have H:=H1;clear H1;simp only [Option.some.injEq,Prod.mk.injEq] at H;obtain ⟨rfl,rfl⟩:=H;go_enter Try.func29,Try.ntmps29;go_wp2_with (first|((with_reducible refine gate_callee (f:=57) rfl ?_);refine goesL_ (some 5) rfl rfl Try.func57 (by kernel_rfl) rfl #[.int .i64 a0,.int .i64 1] rfl (by (try simp only [List.map_toArray,List.map_cons,List.map_nil]);first|done|rfl|(simp only [List.length_drop,List.length_take];rfl)) ?_;(with_reducible refine (norm_counted.calls a0 1 false _ A2.out).mono ?_);rintro e w' ⟨rfl,⟨nd,rfl⟩⟩;refine ⟨_,rfl,?_⟩));go_ret2;exact ⟨by first|rfl|(simp [errW_none,errW_some] <;> rfl)|(simp [*,errW_none,errW_some] <;> rfl),by repeat (first|(with_reducible first|exact HB.out|apply below_alloc|apply pw_below_drewN|apply below_drew1)|exact HB.out)⟩
/-! ### norm_Mul: function 38 -/
def norm_Mul.f (k:Nat) (a0_0:Int) (a0_1:Int) (a0_2:Int) (a0_3:Int) (a1_0:Int) (a1_1:Int) (a1_2:Int) (a1_3:Int):Option (Int × Int × Int × Int × Int):=(norm_check.f k (([(⟨a0_0,a0_1,a0_2,a0_3⟩:S23),(⟨a1_0,a1_1,a1_2,a1_3⟩:S23)]:List (S23)))).bind fun t301=>(if t301=0 then ((norm_of.f a0_0 a0_1 a0_2 a0_3).bind fun bt302=>((norm_of.f a1_0 a1_1 a1_2 a1_3).bind fun bt306=>((norm_product.f k (([(⟨bt302.1,bt302.2.1,bt302.2.2.1,bt302.2.2.2⟩:S67),(⟨bt306.1,bt306.2.1,bt306.2.2.1,bt306.2.2.2⟩:S67)]:List (S67)))).bind fun bt313=>((norm_quat_api.f bt313.1 bt313.2.1 bt313.2.2.1 bt313.2.2.2).bind fun bt317=>(some (bt317.1,bt317.2.1,bt317.2.2.1,bt317.2.2.2,0)))))) else (some (0,0,0,0,t301)))
theorem norm_Mul.mono:∀ a0 a1 a2 a3 a4 a5 a6 a7 k,LeO (norm_Mul.f k a0 a1 a2 a3 a4 a5 a6 a7) (norm_Mul.f (k + 1) a0 a1 a2 a3 a4 a5 a6 a7):=by
  intro a0 a1 a2 a3 a4 a5 a6 a7 k
  unfold norm_Mul.f
  with_reducible repeat' first|exact norm_check.mono _ _|exact norm_product.mono _ _|exact LeO.refl _|exact LeO.none _|refine LeO.ite ?_ ?_|refine LeO.bind ?_ (fun _=>?_)
def norm_Mul.T4:Bool × List (List Nat × List Nat):=(true,[([],[]),([0],[0]),([],[]),([2,1],[2]),([1,3],[1,3]),([4,3],[4]),([5,5],[5]),([6,6,0,1,2,3,4,5,6],[6]),([7,0,1,2,3,4,5,6,7],[])])
def norm_Mul.B4:List Nat:=[0,1,0,7,15,31,63,127,255]
theorem norm_Mul.tab4:rtab .any (opsOf Try.f38 4)=norm_Mul.T4:=by kernel_rfl
theorem norm_Mul.bits4:waitsOk norm_Mul.T4.2 norm_Mul.B4=true:=by kernel_rfl
set_option maxHeartbeats 8000000 in
set_option maxRecDepth 100000 in
theorem norm_Mul.calls (k:Nat) (a0_0:Int) (a0_1:Int) (a0_2:Int) (a0_3:Int) (a1_0:Int) (a1_1:Int) (a1_2:Int) (a1_3:Int) (r1:Int) (r2:Int) (r3:Int) (r4:Int) (r5:Int) (w:World) (h:norm_Mul.f k a0_0 a0_1 a0_2 a0_3 a1_0 a1_1 a1_2 a1_3=some (r1,r2,r3,r4,r5)) :
    Calls Try.prog 38 #[.agg #[.int .i64 a0_0,.int .i64 a0_1,.int .i64 a0_2,.int .i64 a0_3],.agg #[.int .i64 a1_0,.int .i64 a1_1,.int .i64 a1_2,.int .i64 a1_3]] w fun e w'=>e=.returned (.tuple #[.agg #[.int .i64 r1,.int .i64 r2,.int .i64 r3,.int .i64 r4],.int .i64 r5])∧Below w.heap.size w w':=by
 have hu23:=Try.underlying23;have HB:=mk0 (Below.refl w.heap.size w);have H:((norm_check.f k (([(⟨a0_0,a0_1,a0_2,a0_3⟩:S23),(⟨a1_0,a1_1,a1_2,a1_3⟩:S23)]:List (S23)))).bind fun t301=>(if t301=0 then ((norm_of.f a0_0 a0_1 a0_2 a0_3).bind fun bt302=>((norm_of.f a1_0 a1_1 a1_2 a1_3).bind fun bt306=>((norm_product.f k (([(⟨bt302.1,bt302.2.1,bt302.2.2.1,bt302.2.2.2⟩:S67),(⟨bt306.1,bt306.2.1,bt306.2.2.1,bt306.2.2.2⟩:S67)]:List (S67)))).bind fun bt313=>((norm_quat_api.f bt313.1 bt313.2.1 bt313.2.2.1 bt313.2.2.2).bind fun bt317=>(some (bt317.1,bt317.2.1,bt317.2.2.1,bt317.2.2.2,0)))))) else (some (0,0,0,0,t301))))=some (r1,r2,r3,r4,r5):=h;clear h;obtain ⟨y298,hy298⟩:∃ y_:List (S23),y_=(([(⟨a0_0,a0_1,a0_2,a0_3⟩:S23),(⟨a1_0,a1_1,a1_2,a1_3⟩:S23)]:List (S23))):=⟨_,rfl⟩
 replace H:((norm_check.f k y298).bind fun t301=>(if t301=0 then ((norm_of.f a0_0 a0_1 a0_2 a0_3).bind fun bt302=>((norm_of.f a1_0 a1_1 a1_2 a1_3).bind fun bt306=>((norm_product.f k (([(⟨bt302.1,bt302.2.1,bt302.2.2.1,bt302.2.2.2⟩:S67),(⟨bt306.1,bt306.2.1,bt306.2.2.1,bt306.2.2.2⟩:S67)]:List (S67)))).bind fun bt313=>((norm_quat_api.f bt313.1 bt313.2.1 bt313.2.2.1 bt313.2.2.2).bind fun bt317=>(some (bt317.1,bt317.2.1,bt317.2.2.1,bt317.2.2.2,0)))))) else (some (0,0,0,0,t301))))=some (r1,r2,r3,r4,r5):=by first|(rw [hy298];with_reducible exact H)|(have H2_:=(Option.bind_some _ _).symm.trans H;rw [hy298];with_reducible exact H2_)|(have H2_:=(Option.bind_some _ _).symm.trans H;with_reducible exact H2_)|with_reducible exact H|(rw [hy298];exact H)|exact H
 have Ny298:=mk0 hy298;clear hy298;replace H:=Option.bind_eq_some_iff.mp H;obtain ⟨t301,A30,H⟩:=H;(try dsimp only at H);have A3:=mk0 A30;clear A30
 by_cases c4:t301=0
 ·
  rw [if_pos c4] at H;have c4b0:(t301 == 0)=true:=beq_iff_eq.mpr c4;have c4b1:(t301 != 0)=false:=bne_eq_false_iff_eq.mpr c4;clear c4;replace H:=Option.bind_eq_some_iff.mp H;obtain ⟨⟨t302,t303,t304,t305⟩,A50,H⟩:=H;(try dsimp only at H);have A5:=mk0 A50;clear A50;replace H:=Option.bind_eq_some_iff.mp H;obtain ⟨⟨t306,t307,t308,t309⟩,A60,H⟩:=H;(try dsimp only at H);have A6:=mk0 A60;clear A60;obtain ⟨y310,hy310⟩:∃ y_:List (S67),y_=(([(⟨t302,t303,t304,t305⟩:S67),(⟨t306,t307,t308,t309⟩:S67)]:List (S67))):=⟨_,rfl⟩
  replace H:((norm_product.f k y310).bind fun bt313=>((norm_quat_api.f bt313.1 bt313.2.1 bt313.2.2.1 bt313.2.2.2).bind fun bt317=>(some (bt317.1,bt317.2.1,bt317.2.2.1,bt317.2.2.2,0))))=some (r1,r2,r3,r4,r5):=by first|(rw [hy310];with_reducible exact H)|(have H2_:=(Option.bind_some _ _).symm.trans H;rw [hy310];with_reducible exact H2_)|(have H2_:=(Option.bind_some _ _).symm.trans H;with_reducible exact H2_)|with_reducible exact H|(rw [hy310];exact H)|exact H
  have Ny310:=mk0 hy310;clear hy310;replace H:=Option.bind_eq_some_iff.mp H;obtain ⟨⟨t313,t314,t315,t316⟩,A70,H⟩:=H;(try dsimp only at H);have A7:=mk0 A70;clear A70;replace H:=Option.bind_eq_some_iff.mp H;obtain ⟨⟨t317,t318,t319,t320⟩,A80,H⟩:=H;(try dsimp only at H);have A8:=mk0 A80;clear A80;simp only [Option.some.injEq,Prod.mk.injEq] at H;obtain ⟨rfl,rfl,rfl,rfl,rfl⟩:=H;go_enter Try.func38,Try.ntmps38;try go_wp2_with (first|((with_reducible refine gate_dst (N:=2) rfl ?_);refine box_event ?hg (N:=2) ?hd (cs:=#[.int .i64 a0_0,.int .i64 a0_1,.int .i64 a0_2,.int .i64 a0_3]) (t:=23) ?hr ?_;(case hd=>rfl);(case hg=>rfl);(case hr=>first|(go_simp;done)|(go_simp;rfl));intro gb295 hg w9 hbox hb;have BK295:=mk0 (hbox);have GW295:=szw hg HB;have GE295:=GW295;replace HB:=bst HB hb;clear hb hbox hg)|((with_reducible refine gate_dst (N:=3) rfl ?_);refine box_event ?hg (N:=3) ?hd (cs:=#[.int .i64 a1_0,.int .i64 a1_1,.int .i64 a1_2,.int .i64 a1_3]) (t:=23) ?hr ?_;(case hd=>rfl);(case hg=>rfl);(case hr=>first|(go_simp;done)|(go_simp;rfl));intro gb296 hg w10 hbox hb;have BK296:=mk0 (hbox);have GW296:=szw hg HB;have GE296:=GW296;have NB295_296:=nlt hg BK295;have NB296_295:=ngt hg BK295;replace BK295:=bkb BK295 hb;replace HB:=bst HB hb;clear hb hbox hg)|((with_reducible refine gate_dst (N:=4) rfl ?_);refine box_event ?hg (N:=4) ?hd (cs:=#[.int .i64 0,.int .i64 0,.int .i64 0,.int .i64 0]) (t:=23) ?hr ?_;(case hd=>rfl);(case hg=>rfl);(case hr=>first|(go_simp;done)|(go_simp;rfl));intro gb297 hg w11 hbox hb;have BK297:=mk0 (hbox);have GW297:=szw hg HB;have GE297:=GW297;have NB295_297:=nlt hg BK295;have NB297_295:=ngt hg BK295;have NB296_297:=nlt hg BK296;have NB297_296:=ngt hg BK296;replace BK295:=bkb BK295 hb;replace BK296:=bkb BK296 hb;replace HB:=bst HB hb;clear hb hbox hg;have hnb12:=NB295_296.out;have hnc12:=NB296_295.out;have hnb13:=NB295_297.out;have hnc13:=NB297_295.out;have hcz14_0:w11.cell? ⟨gb295,0,none⟩=some (.int .i64 a0_0):=(blk_cell BK295.out 0).trans rfl;have hcz14_1:w11.cell? ⟨gb295,1,none⟩=some (.int .i64 a0_1):=(blk_cell BK295.out 1).trans rfl;have hcz14_2:w11.cell? ⟨gb295,2,none⟩=some (.int .i64 a0_2):=(blk_cell BK295.out 2).trans rfl;have hcz14_3:w11.cell? ⟨gb295,3,none⟩=some (.int .i64 a0_3):=(blk_cell BK295.out 3).trans rfl;have hfz14_0:=blk_frozen BK295.out 0;have hfz14_1:=blk_frozen BK295.out 1;have hfz14_2:=blk_frozen BK295.out 2;have hfz14_3:=blk_frozen BK295.out 3;have hnb15:=NB296_297.out;have hnc15:=NB297_296.out;have hcz16_0:w11.cell? ⟨gb296,0,none⟩=some (.int .i64 a1_0):=(blk_cell BK296.out 0).trans rfl;have hcz16_1:w11.cell? ⟨gb296,1,none⟩=some (.int .i64 a1_1):=(blk_cell BK296.out 1).trans rfl;have hcz16_2:w11.cell? ⟨gb296,2,none⟩=some (.int .i64 a1_2):=(blk_cell BK296.out 2).trans rfl;have hcz16_3:w11.cell? ⟨gb296,3,none⟩=some (.int .i64 a1_3):=(blk_cell BK296.out 3).trans rfl;have hfz16_0:=blk_frozen BK296.out 0;have hfz16_1:=blk_frozen BK296.out 1;have hfz16_2:=blk_frozen BK296.out 2;have hfz16_3:=blk_frozen BK296.out 3)|((with_reducible refine gate_dst (N:=9) rfl ?_);refine Kd.R_lit k23 _ 23 ?hg (N:=9) ?hd (xs:=([(⟨a0_0,a0_1,a0_2,a0_3⟩:S23),(⟨a1_0,a1_1,a1_2,a1_3⟩:S23)]:List (S23))) (inner:=[.int .i64 a0_0,.int .i64 a0_1,.int .i64 a0_2,.int .i64 a0_3,.int .i64 a1_0,.int .i64 a1_1,.int .i64 a1_2,.int .i64 a1_3]) (ok:=fun _=>True) (okp:=fun _=>True) ?hr ?hp (fun _ hk=>hk) trivial (Below.refl _ _) (Nat.le_refl _) (by simp) ?_;(case hd=>rfl);(case hg=>rfl);(case hr=>first|(go_simp;done)|(go_simp;rfl));(case hp=>exact (Reps.c4 (show Kd.M k23 _ _ _ (⟨a0_0,a0_1,a0_2,a0_3⟩:S23) [.int .i64 a0_0,.int .i64 a0_1,.int .i64 a0_2,.int .i64 a0_3] from (k23_mkM _ _ _ (⟨a0_0,a0_1,a0_2,a0_3⟩:S23) )) (Reps.c4 (show Kd.M k23 _ _ _ (⟨a1_0,a1_1,a1_2,a1_3⟩:S23) [.int .i64 a1_0,.int .i64 a1_1,.int .i64 a1_2,.int .i64 a1_3] from (k23_mkM _ _ _ (⟨a1_0,a1_1,a1_2,a1_3⟩:S23) )) (Reps.none _ _))));intro v299 w17 ho18 hb hg_ hnew_;clear hg_ hnew_;(first|rw [← Ny298.out] at ho18|(simp only [Int.reduceToNat] at ho18;rw [← Ny298.out] at ho18));have HO300:=mk0 (Kd.R_lower (Kd.R_newB (Kd.R_newB (Kd.R_newB ho18 (g:=gb295) (o:=.cells #[.int .i64 a0_0,.int .i64 a0_1,.int .i64 a0_2,.int .i64 a0_3] 23 (0,0)) BK295.out) (g:=gb296) (o:=.cells #[.int .i64 a1_0,.int .i64 a1_1,.int .i64 a1_2,.int .i64 a1_3] 23 (0,0)) BK296.out) (g:=gb297) (o:=.cells #[.int .i64 0,.int .i64 0,.int .i64 0,.int .i64 0] 23 (0,0)) BK297.out) (below_size HB.out));replace BK295:=bkb BK295 hb;replace BK296:=bkb BK296 hb;replace BK297:=bkb BK297 hb;replace HB:=bst HB hb;clear hb ho18;obtain ⟨Ao19,co19,eo19⟩:=Kd.R_slice HO300.out;subst eo19)|((with_reducible refine gate_callee (f:=47) rfl ?_);refine goesL_ (some 10) rfl rfl Try.func47 (by kernel_rfl) rfl #[.slice Ao19 y298.length co19] rfl (by (try simp only [List.map_toArray,List.map_cons,List.map_nil]);first|done|rfl|(simp only [List.length_drop,List.length_take];rfl)) ?_;(with_reducible refine (norm_check.calls k _ _ y298 t301 _ ?side1 ?side2 A3.out).mono ?_);(case side1=>repeat (first|exact (Kd.R_reads' HO300.out).2.2|(with_reducible refine Kd.C_alloc ?_ _)|(with_reducible refine Kd.C_drewN ?_ _)|(with_reducible refine Kd.C_drew ?_)));(case side2=>exact (Kd.R_reads' HO300.out).2.1);rintro e w20 ⟨rfl,hb⟩;refine ⟨_,rfl,?_⟩;replace HO300:=rbl HO300 hb;replace BK295:=bkb BK295 hb;replace BK296:=bkb BK296 hb;replace BK297:=bkb BK297 hb;replace HB:=bst HB hb;(try clear hb);(try clear hk)))
  replace HO300:=rdr HO300;replace BK295:=bdr BK295;replace BK296:=bdr BK296;replace BK297:=bdr BK297;replace HB:=hdr HB;refine start_ (n:=9) (S:=fun w'=>w'.cell? ⟨gb295,0,none⟩=some (.int .i64 a0_0)∧w'.cell? ⟨gb295,1,none⟩=some (.int .i64 a0_1)∧w'.cell? ⟨gb295,2,none⟩=some (.int .i64 a0_2)∧w'.cell? ⟨gb295,3,none⟩=some (.int .i64 a0_3)∧w'.cell? ⟨gb296,0,none⟩=some (.int .i64 a1_0)∧w'.cell? ⟨gb296,1,none⟩=some (.int .i64 a1_1)∧w'.cell? ⟨gb296,2,none⟩=some (.int .i64 a1_2)∧w'.cell? ⟨gb296,3,none⟩=some (.int .i64 a1_3)) (ds:=[]) #[false,false,false,false,false,false,false,false,false] (by kernel_rfl) rfl rfl ⟨(blk_cell BK295.out 0).trans rfl,(blk_cell BK295.out 1).trans rfl,(blk_cell BK295.out 2).trans rfl,(blk_cell BK295.out 3).trans rfl,(blk_cell BK296.out 0).trans rfl,(blk_cell BK296.out 1).trans rfl,(blk_cell BK296.out 2).trans rfl,(blk_cell BK296.out 3).trans rfl⟩ (fun hHeld=>?_);refine with_tabW norm_Mul.tab4 norm_Mul.bits4 (fun HT_ HW_=>?_);generalize w20.drew=w21 at HO300 BK295 BK296 BK297 HB hHeld ⊢;refine take_ (i:=0) (N:=some 15) (v:=?_) (a':=?_) #[true,false,false,false,false,false,false,false,false] rfl rfl (take_ofW HT_.out HW_.out (by kernel_rfl)) (fun _ _ _ h=>h) (Or.inl ⟨by rfl,?_⟩) hHeld ?_ ?_;rotate_left
  ·
   rintro w' ⟨s0,s1,s2,s3,s4,s5,s6,s7⟩;go_simp;with_reducible rfl
  rotate_left
  ·
   simp only [Act.put,List.setIfInBounds_toArray,List.set_cons_zero,List.set_cons_succ,i64_w,i32_w];rfl
  refine take_ (i:=2) (N:=some 17) (v:=?_) (a':=?_) #[true,false,true,false,false,false,false,false,false] rfl rfl (take_ofW HT_.out HW_.out (by kernel_rfl)) (fun _ _ _ h=>h) (Or.inl ⟨by rfl,?_⟩) hHeld ?_ ?_;rotate_left
  ·
   rintro w' ⟨s0,s1,s2,s3,s4,s5,s6,s7⟩;go_simp;with_reducible rfl
  rotate_left
  ·
   simp only [Act.put,List.setIfInBounds_toArray,List.set_cons_zero,List.set_cons_succ,i64_w,i32_w];rfl
  refine one_ (i:=1) (N:=some 16) #[true,true,true,false,false,false,false,false,false] rfl rfl (one_of HT_.out (by kernel_rfl)) (by decide) (fun K hK=>?_);refine goes_ Try.func48 (by kernel_rfl) rfl #[.agg #[.int .i64 a0_0,.int .i64 a0_1,.int .i64 a0_2,.int .i64 a0_3]] (by rfl) rfl rfl (by (try simp only [List.map_toArray,List.map_cons,List.map_nil]);first|done|rfl|(simp only [List.length_drop,List.length_take];rfl)) ?_;with_reducible refine (norm_of.calls a0_0 a0_1 a0_2 a0_3 t302 t303 t304 t305 _ A5.out).mono ?_
  rintro e w22 ⟨rfl,hb⟩;refine ⟨_,rfl,?_⟩;replace HO300:=rbl HO300 hb;replace BK295:=bkb BK295 hb;replace BK296:=bkb BK296 hb;replace BK297:=bkb BK297 hb;replace HB:=bst HB hb;(try clear hb);(try clear hb2);(try clear hk);refine hK.out _ _ ⟨(blk_cell BK295.out 0).trans rfl,(blk_cell BK295.out 1).trans rfl,(blk_cell BK295.out 2).trans rfl,(blk_cell BK295.out 3).trans rfl,(blk_cell BK296.out 0).trans rfl,(blk_cell BK296.out 1).trans rfl,(blk_cell BK296.out 2).trans rfl,(blk_cell BK296.out 3).trans rfl⟩ (fun hHeld=>?_);clear hK K;refine norm_ (a':=?_) ?_ ?_;rotate_left
  ·
   show Act.put _ (some 16) _=_;simp only [Act.put,List.setIfInBounds_toArray,List.set_cons_zero,List.set_cons_succ,i64_w,i32_w];rfl
  refine one_ (i:=3) (N:=some 18) #[true,true,true,true,false,false,false,false,false] rfl rfl (one_of HT_.out (by kernel_rfl)) (by decide) (fun K hK=>?_);refine goes_ Try.func48 (by kernel_rfl) rfl #[.agg #[.int .i64 a1_0,.int .i64 a1_1,.int .i64 a1_2,.int .i64 a1_3]] (by rfl) rfl rfl (by (try simp only [List.map_toArray,List.map_cons,List.map_nil]);first|done|rfl|(simp only [List.length_drop,List.length_take];rfl)) ?_;with_reducible refine (norm_of.calls a1_0 a1_1 a1_2 a1_3 t306 t307 t308 t309 _ A6.out).mono ?_
  rintro e w23 ⟨rfl,hb⟩;refine ⟨_,rfl,?_⟩;replace HO300:=rbl HO300 hb;replace BK295:=bkb BK295 hb;replace BK296:=bkb BK296 hb;replace BK297:=bkb BK297 hb;replace HB:=bst HB hb;(try clear hb);refine hK.out _ _ ⟨(blk_cell BK295.out 0).trans rfl,(blk_cell BK295.out 1).trans rfl,(blk_cell BK295.out 2).trans rfl,(blk_cell BK295.out 3).trans rfl,(blk_cell BK296.out 0).trans rfl,(blk_cell BK296.out 1).trans rfl,(blk_cell BK296.out 2).trans rfl,(blk_cell BK296.out 3).trans rfl⟩ (fun hHeld=>?_);clear hK K;refine norm_ (a':=?_) ?_ ?_;rotate_left
  ·
   show Act.put _ (some 18) _=_;simp only [Act.put,List.setIfInBounds_toArray,List.set_cons_zero,List.set_cons_succ,i64_w,i32_w];rfl
  refine one_ (i:=4) (N:=some 19) #[true,true,true,true,true,false,false,false,false] rfl rfl (one_of HT_.out (by kernel_rfl)) (by decide) (fun K hK=>?_);refine Kd.R_lit_step k67 _ 67 ?hg (N:=19) ?hd (xs:=([(⟨t302,t303,t304,t305⟩:S67),(⟨t306,t307,t308,t309⟩:S67)]:List (S67))) (inner:=[.int .i64 t302,.int .i64 t303,.int .i64 t304,.int .i64 t305,.int .i64 t306,.int .i64 t307,.int .i64 t308,.int .i64 t309]) (ok:=fun _=>True) (okp:=fun _=>True) ?hr ?hp (fun _ hk=>hk) trivial (Below.refl _ _) (Nat.le_refl _) (by simp) ?_;(case hd=>rfl);(case hg=>rfl);(case hr=>first|(go_simp;done)|(go_simp;rfl));(case hp=>exact (Reps.c4 (show Kd.M k67 _ _ _ (⟨t302,t303,t304,t305⟩:S67) [.int .i64 t302,.int .i64 t303,.int .i64 t304,.int .i64 t305] from (k67_mkM _ _ _ (⟨t302,t303,t304,t305⟩:S67) )) (Reps.c4 (show Kd.M k67 _ _ _ (⟨t306,t307,t308,t309⟩:S67) [.int .i64 t306,.int .i64 t307,.int .i64 t308,.int .i64 t309] from (k67_mkM _ _ _ (⟨t306,t307,t308,t309⟩:S67) )) (Reps.none _ _))));intro v311 w24 ho25 hb hg_ hnew_;clear hg_ hnew_;(first|rw [← Ny310.out] at ho25|(simp only [Int.reduceToNat] at ho25;rw [← Ny310.out] at ho25));have HO312:=mk0 (Kd.R_lower ho25 (below_size HB.out));replace HO300:=rbl HO300 hb;replace BK295:=bkb BK295 hb;replace BK296:=bkb BK296 hb;replace BK297:=bkb BK297 hb;replace HB:=bst HB hb;clear hb ho25;obtain ⟨Ao26,co26,eo26⟩:=Kd.R_slice HO312.out;(first|subst eo26|(injection eo26 with f1_ f2_ f3_;have f4_:=f1_.symm;have f5_:=f3_.symm;clear f1_ f2_ f3_;subst f4_;subst f5_));refine hK.out _ _ ⟨(blk_cell BK295.out 0).trans rfl,(blk_cell BK295.out 1).trans rfl,(blk_cell BK295.out 2).trans rfl,(blk_cell BK295.out 3).trans rfl,(blk_cell BK296.out 0).trans rfl,(blk_cell BK296.out 1).trans rfl,(blk_cell BK296.out 2).trans rfl,(blk_cell BK296.out 3).trans rfl⟩ (fun hHeld=>?_);clear hK K;refine norm_ (a':=?_) ?_ ?_;rotate_left
  ·
   show Act.put _ (some 19) _=_;simp only [Act.put,List.setIfInBounds_toArray,List.set_cons_zero,List.set_cons_succ,i64_w,i32_w];rfl
  refine one_ (i:=5) (N:=some 20) #[true,true,true,true,true,true,false,false,false] rfl rfl (one_of HT_.out (by kernel_rfl)) (by decide) (fun K hK=>?_);refine goes_ Try.func54 (by kernel_rfl) rfl #[.slice Ao26 y310.length co26] (by rfl) rfl rfl (by (try simp only [List.map_toArray,List.map_cons,List.map_nil]);first|done|rfl|(simp only [List.length_drop,List.length_take];rfl)) ?_;with_reducible refine (norm_product.calls k _ _ y310 t313 t314 t315 t316 _ ?side1 ?side2 A7.out).mono ?_
  (case side1=>repeat (first|exact (Kd.R_reads' HO312.out).2.2|(with_reducible refine Kd.C_alloc ?_ _)|(with_reducible refine Kd.C_drewN ?_ _)|(with_reducible refine Kd.C_drew ?_)));(case side2=>exact (Kd.R_reads' HO312.out).2.1);rintro e w27 ⟨rfl,hb⟩;refine ⟨_,rfl,?_⟩;replace HO300:=rbl HO300 hb;replace HO312:=rbl HO312 hb;replace BK295:=bkb BK295 hb;replace BK296:=bkb BK296 hb;replace BK297:=bkb BK297 hb;replace HB:=bst HB hb;(try clear hb);(try clear hk);refine hK.out _ _ ⟨(blk_cell BK295.out 0).trans rfl,(blk_cell BK295.out 1).trans rfl,(blk_cell BK295.out 2).trans rfl,(blk_cell BK295.out 3).trans rfl,(blk_cell BK296.out 0).trans rfl,(blk_cell BK296.out 1).trans rfl,(blk_cell BK296.out 2).trans rfl,(blk_cell BK296.out 3).trans rfl⟩ (fun hHeld=>?_);clear hK K;refine norm_ (a':=?_) ?_ ?_;rotate_left
  ·
   show Act.put _ (some 20) _=_;simp only [Act.put,List.setIfInBounds_toArray,List.set_cons_zero,List.set_cons_succ,i64_w,i32_w];rfl
  refine one_ (i:=6) (N:=some 21) #[true,true,true,true,true,true,true,false,false] rfl rfl (one_of HT_.out (by kernel_rfl)) (by decide) (fun K hK=>?_);refine goes_ Try.func50 (by kernel_rfl) rfl #[.agg #[.int .i64 t313,.int .i64 t314,.int .i64 t315,.int .i64 t316]] (by rfl) rfl rfl (by (try simp only [List.map_toArray,List.map_cons,List.map_nil]);first|done|rfl|(simp only [List.length_drop,List.length_take];rfl)) ?_;with_reducible refine (norm_quat_api.calls t313 t314 t315 t316 t317 t318 t319 t320 _ A8.out).mono ?_
  rintro e w28 ⟨rfl,hb⟩;refine ⟨_,rfl,?_⟩;replace HO300:=rbl HO300 hb;replace HO312:=rbl HO312 hb;replace BK295:=bkb BK295 hb;replace BK296:=bkb BK296 hb;replace BK297:=bkb BK297 hb;replace HB:=bst HB hb;(try clear hb);refine hK.out _ _ ⟨(blk_cell BK295.out 0).trans rfl,(blk_cell BK295.out 1).trans rfl,(blk_cell BK295.out 2).trans rfl,(blk_cell BK295.out 3).trans rfl,(blk_cell BK296.out 0).trans rfl,(blk_cell BK296.out 1).trans rfl,(blk_cell BK296.out 2).trans rfl,(blk_cell BK296.out 3).trans rfl⟩ (fun hHeld=>?_);clear hK K;refine norm_ (a':=?_) ?_ ?_;rotate_left
  ·
   show Act.put _ (some 21) _=_;simp only [Act.put,List.setIfInBounds_toArray,List.set_cons_zero,List.set_cons_succ,i64_w,i32_w];rfl
  refine one_ (i:=7) (N:=none) #[true,true,true,true,true,true,true,true,false] rfl rfl (one_of HT_.out (by kernel_rfl)) (by decide) (fun K hK=>?_);have hs29:w28.cell? ⟨gb297,0,none⟩=some (.int .i64 0):=(blk_cell BK297.out 0).trans rfl;have hfs29:=blk_frozen BK297.out 0;have hns29_0:=NB295_297.out;have hns29_1:=NB296_297.out;have hms29_0:=NB297_295.out;have hms29_1:=NB297_296.out;have hs30:w28.cell? ⟨gb297,1,none⟩=some (.int .i64 0):=(blk_cell BK297.out 1).trans rfl;have hfs30:=blk_frozen BK297.out 1;have hns30_0:=NB295_297.out;have hns30_1:=NB296_297.out;have hms30_0:=NB297_295.out;have hms30_1:=NB297_296.out;have hs31:w28.cell? ⟨gb297,2,none⟩=some (.int .i64 0):=(blk_cell BK297.out 2).trans rfl;have hfs31:=blk_frozen BK297.out 2;have hns31_0:=NB295_297.out;have hns31_1:=NB296_297.out;have hms31_0:=NB297_295.out;have hms31_1:=NB297_296.out;have hs32:w28.cell? ⟨gb297,3,none⟩=some (.int .i64 0):=(blk_cell BK297.out 3).trans rfl;have hfs32:=blk_frozen BK297.out 3;have hns32_0:=NB295_297.out;have hns32_1:=NB296_297.out;have hms32_0:=NB297_295.out;have hms32_1:=NB297_296.out;refine skip_ (w1:=?_) (by rfl) rfl ?_ ?_;rotate_left
  ·
   go_simp;rfl
  refine hK.out _ _ ⟨((cell_far (p:=⟨gb297,_,none⟩) NB295_297.out _).trans (((cell_far (p:=⟨gb297,_,none⟩) NB295_297.out _).trans (((cell_far (p:=⟨gb297,_,none⟩) NB295_297.out _).trans (((cell_far (p:=⟨gb297,_,none⟩) NB295_297.out _).trans (hHeld.1)))))))),((cell_far (p:=⟨gb297,_,none⟩) NB295_297.out _).trans (((cell_far (p:=⟨gb297,_,none⟩) NB295_297.out _).trans (((cell_far (p:=⟨gb297,_,none⟩) NB295_297.out _).trans (((cell_far (p:=⟨gb297,_,none⟩) NB295_297.out _).trans (hHeld.2.1)))))))),((cell_far (p:=⟨gb297,_,none⟩) NB295_297.out _).trans (((cell_far (p:=⟨gb297,_,none⟩) NB295_297.out _).trans (((cell_far (p:=⟨gb297,_,none⟩) NB295_297.out _).trans (((cell_far (p:=⟨gb297,_,none⟩) NB295_297.out _).trans (hHeld.2.2.1)))))))),((cell_far (p:=⟨gb297,_,none⟩) NB295_297.out _).trans (((cell_far (p:=⟨gb297,_,none⟩) NB295_297.out _).trans (((cell_far (p:=⟨gb297,_,none⟩) NB295_297.out _).trans (((cell_far (p:=⟨gb297,_,none⟩) NB295_297.out _).trans (hHeld.2.2.2.1)))))))),((cell_far (p:=⟨gb297,_,none⟩) NB296_297.out _).trans (((cell_far (p:=⟨gb297,_,none⟩) NB296_297.out _).trans (((cell_far (p:=⟨gb297,_,none⟩) NB296_297.out _).trans (((cell_far (p:=⟨gb297,_,none⟩) NB296_297.out _).trans (hHeld.2.2.2.2.1)))))))),((cell_far (p:=⟨gb297,_,none⟩) NB296_297.out _).trans (((cell_far (p:=⟨gb297,_,none⟩) NB296_297.out _).trans (((cell_far (p:=⟨gb297,_,none⟩) NB296_297.out _).trans (((cell_far (p:=⟨gb297,_,none⟩) NB296_297.out _).trans (hHeld.2.2.2.2.2.1)))))))),((cell_far (p:=⟨gb297,_,none⟩) NB296_297.out _).trans (((cell_far (p:=⟨gb297,_,none⟩) NB296_297.out _).trans (((cell_far (p:=⟨gb297,_,none⟩) NB296_297.out _).trans (((cell_far (p:=⟨gb297,_,none⟩) NB296_297.out _).trans (hHeld.2.2.2.2.2.2.1)))))))),((cell_far (p:=⟨gb297,_,none⟩) NB296_297.out _).trans (((cell_far (p:=⟨gb297,_,none⟩) NB296_297.out _).trans (((cell_far (p:=⟨gb297,_,none⟩) NB296_297.out _).trans (((cell_far (p:=⟨gb297,_,none⟩) NB296_297.out _).trans (hHeld.2.2.2.2.2.2.2))))))))⟩ (fun hHeld=>?_);clear hK K;refine pure_ (i:=8) (N:=some 5) (v:=?_) (a':=?_) #[true,true,true,true,true,true,true,true,true] rfl rfl (any_of HT_.out (by kernel_rfl)) (fun _ _ _ h=>h) (Or.inl ⟨by rfl,?_⟩) ?_ ?_;rotate_left
  ·
   intro w';go_simp;with_reducible rfl
  rotate_left
  ·
   simp only [Act.put,List.setIfInBounds_toArray,List.set_cons_zero,List.set_cons_succ,i64_w,i32_w];rfl
  refine done_ (done_of HT_.out (by kernel_rfl)) ?_;try go_wp2
  refine bodyPost_ret (results_ct rfl _ _ gb297 23 #[.int .i64 t317,.int .i64 t318,.int .i64 t319,.int .i64 t320] (0,0) _ rfl (by refine blk_put (cs:=#[.int .i64 t317,.int .i64 t318,.int .i64 t319,.int .i64 0]) ?_ 3 _ rfl;refine blk_put (cs:=#[.int .i64 t317,.int .i64 t318,.int .i64 0,.int .i64 0]) ?_ 2 _ rfl;refine blk_put (cs:=#[.int .i64 t317,.int .i64 0,.int .i64 0,.int .i64 0]) ?_ 1 _ rfl;refine blk_put (cs:=#[.int .i64 0,.int .i64 0,.int .i64 0,.int .i64 0]) ?_ 0 _ rfl;exact BK297.out) Try.underlying23 rfl (by kernel_rfl)) rfl ?_;exact ⟨by first|rfl|(simp [errW_none,errW_some] <;> rfl)|(simp [*,errW_none,errW_some] <;> rfl),by repeat (first|(with_reducible first|exact HB.out|apply below_alloc|apply pw_below_drewN|apply below_drew1|refine below_set ?_ GE295.out|refine below_set ?_ GE296.out|refine below_set ?_ GE297.out)|exact HB.out)⟩
 ·
  rw [if_neg c4] at H;have c4b0:(t301 == 0)=false:=beq_eq_false_iff_ne.mpr c4;have c4b1:(t301 != 0)=true:=bne_iff_ne.mpr c4;simp only [Option.some.injEq,Prod.mk.injEq] at H;obtain ⟨rfl,rfl,rfl,rfl,rfl⟩:=H;go_enter Try.func38,Try.ntmps38;go_wp2_with (first|((with_reducible refine gate_dst (N:=2) rfl ?_);refine box_event ?hg (N:=2) ?hd (cs:=#[.int .i64 a0_0,.int .i64 a0_1,.int .i64 a0_2,.int .i64 a0_3]) (t:=23) ?hr ?_;(case hd=>rfl);(case hg=>rfl);(case hr=>first|(go_simp;done)|(go_simp;rfl));intro gb295 hg w33 hbox hb;have BK295:=mk0 (hbox);have GW295:=szw hg HB;have GE295:=GW295;replace HB:=bst HB hb;clear hb hbox hg)|((with_reducible refine gate_dst (N:=3) rfl ?_);refine box_event ?hg (N:=3) ?hd (cs:=#[.int .i64 a1_0,.int .i64 a1_1,.int .i64 a1_2,.int .i64 a1_3]) (t:=23) ?hr ?_;(case hd=>rfl);(case hg=>rfl);(case hr=>first|(go_simp;done)|(go_simp;rfl));intro gb296 hg w34 hbox hb;have BK296:=mk0 (hbox);have GW296:=szw hg HB;have GE296:=GW296;have NB295_296:=nlt hg BK295;have NB296_295:=ngt hg BK295;replace BK295:=bkb BK295 hb;replace HB:=bst HB hb;clear hb hbox hg)|((with_reducible refine gate_dst (N:=4) rfl ?_);refine box_event ?hg (N:=4) ?hd (cs:=#[.int .i64 0,.int .i64 0,.int .i64 0,.int .i64 0]) (t:=23) ?hr ?_;(case hd=>rfl);(case hg=>rfl);(case hr=>first|(go_simp;done)|(go_simp;rfl));intro gb297 hg w35 hbox hb;have BK297:=mk0 (hbox);have GW297:=szw hg HB;have GE297:=GW297;have NB295_297:=nlt hg BK295;have NB297_295:=ngt hg BK295;have NB296_297:=nlt hg BK296;have NB297_296:=ngt hg BK296;replace BK295:=bkb BK295 hb;replace BK296:=bkb BK296 hb;replace HB:=bst HB hb;clear hb hbox hg;have hnb36:=NB295_296.out;have hnc36:=NB296_295.out;have hnb37:=NB295_297.out;have hnc37:=NB297_295.out;have hcz38_0:w35.cell? ⟨gb295,0,none⟩=some (.int .i64 a0_0):=(blk_cell BK295.out 0).trans rfl;have hcz38_1:w35.cell? ⟨gb295,1,none⟩=some (.int .i64 a0_1):=(blk_cell BK295.out 1).trans rfl;have hcz38_2:w35.cell? ⟨gb295,2,none⟩=some (.int .i64 a0_2):=(blk_cell BK295.out 2).trans rfl;have hcz38_3:w35.cell? ⟨gb295,3,none⟩=some (.int .i64 a0_3):=(blk_cell BK295.out 3).trans rfl;have hfz38_0:=blk_frozen BK295.out 0;have hfz38_1:=blk_frozen BK295.out 1;have hfz38_2:=blk_frozen BK295.out 2;have hfz38_3:=blk_frozen BK295.out 3;have hnb39:=NB296_297.out;have hnc39:=NB297_296.out;have hcz40_0:w35.cell? ⟨gb296,0,none⟩=some (.int .i64 a1_0):=(blk_cell BK296.out 0).trans rfl;have hcz40_1:w35.cell? ⟨gb296,1,none⟩=some (.int .i64 a1_1):=(blk_cell BK296.out 1).trans rfl;have hcz40_2:w35.cell? ⟨gb296,2,none⟩=some (.int .i64 a1_2):=(blk_cell BK296.out 2).trans rfl;have hcz40_3:w35.cell? ⟨gb296,3,none⟩=some (.int .i64 a1_3):=(blk_cell BK296.out 3).trans rfl;have hfz40_0:=blk_frozen BK296.out 0;have hfz40_1:=blk_frozen BK296.out 1;have hfz40_2:=blk_frozen BK296.out 2;have hfz40_3:=blk_frozen BK296.out 3)|((with_reducible refine gate_dst (N:=9) rfl ?_);refine Kd.R_lit k23 _ 23 ?hg (N:=9) ?hd (xs:=([(⟨a0_0,a0_1,a0_2,a0_3⟩:S23),(⟨a1_0,a1_1,a1_2,a1_3⟩:S23)]:List (S23))) (inner:=[.int .i64 a0_0,.int .i64 a0_1,.int .i64 a0_2,.int .i64 a0_3,.int .i64 a1_0,.int .i64 a1_1,.int .i64 a1_2,.int .i64 a1_3]) (ok:=fun _=>True) (okp:=fun _=>True) ?hr ?hp (fun _ hk=>hk) trivial (Below.refl _ _) (Nat.le_refl _) (by simp) ?_;(case hd=>rfl);(case hg=>rfl);(case hr=>first|(go_simp;done)|(go_simp;rfl));(case hp=>exact (Reps.c4 (show Kd.M k23 _ _ _ (⟨a0_0,a0_1,a0_2,a0_3⟩:S23) [.int .i64 a0_0,.int .i64 a0_1,.int .i64 a0_2,.int .i64 a0_3] from (k23_mkM _ _ _ (⟨a0_0,a0_1,a0_2,a0_3⟩:S23) )) (Reps.c4 (show Kd.M k23 _ _ _ (⟨a1_0,a1_1,a1_2,a1_3⟩:S23) [.int .i64 a1_0,.int .i64 a1_1,.int .i64 a1_2,.int .i64 a1_3] from (k23_mkM _ _ _ (⟨a1_0,a1_1,a1_2,a1_3⟩:S23) )) (Reps.none _ _))));intro v299 w41 ho42 hb hg_ hnew_;clear hg_ hnew_;(first|rw [← Ny298.out] at ho42|(simp only [Int.reduceToNat] at ho42;rw [← Ny298.out] at ho42));have HO300:=mk0 (Kd.R_lower (Kd.R_newB (Kd.R_newB (Kd.R_newB ho42 (g:=gb295) (o:=.cells #[.int .i64 a0_0,.int .i64 a0_1,.int .i64 a0_2,.int .i64 a0_3] 23 (0,0)) BK295.out) (g:=gb296) (o:=.cells #[.int .i64 a1_0,.int .i64 a1_1,.int .i64 a1_2,.int .i64 a1_3] 23 (0,0)) BK296.out) (g:=gb297) (o:=.cells #[.int .i64 0,.int .i64 0,.int .i64 0,.int .i64 0] 23 (0,0)) BK297.out) (below_size HB.out));replace BK295:=bkb BK295 hb;replace BK296:=bkb BK296 hb;replace BK297:=bkb BK297 hb;replace HB:=bst HB hb;clear hb ho42;obtain ⟨Ao43,co43,eo43⟩:=Kd.R_slice HO300.out;subst eo43)|((with_reducible refine gate_callee (f:=47) rfl ?_);refine goesL_ (some 10) rfl rfl Try.func47 (by kernel_rfl) rfl #[.slice Ao43 y298.length co43] rfl (by (try simp only [List.map_toArray,List.map_cons,List.map_nil]);first|done|rfl|(simp only [List.length_drop,List.length_take];rfl)) ?_;(with_reducible refine (norm_check.calls k _ _ y298 t301 _ ?side1 ?side2 A3.out).mono ?_);(case side1=>repeat (first|exact (Kd.R_reads' HO300.out).2.2|(with_reducible refine Kd.C_alloc ?_ _)|(with_reducible refine Kd.C_drewN ?_ _)|(with_reducible refine Kd.C_drew ?_)));(case side2=>exact (Kd.R_reads' HO300.out).2.1);rintro e w44 ⟨rfl,hb⟩;refine ⟨_,rfl,?_⟩;replace HO300:=rbl HO300 hb;replace BK295:=bkb BK295 hb;replace BK296:=bkb BK296 hb;replace BK297:=bkb BK297 hb;replace HB:=bst HB hb;(try clear hb);(try clear hk);have hcz45_0:w44.cell? ⟨gb297,0,none⟩=some (.int .i64 0):=(blk_cell BK297.out 0).trans rfl;have hcz45_1:w44.cell? ⟨gb297,1,none⟩=some (.int .i64 0):=(blk_cell BK297.out 1).trans rfl;have hcz45_2:w44.cell? ⟨gb297,2,none⟩=some (.int .i64 0):=(blk_cell BK297.out 2).trans rfl;have hcz45_3:w44.cell? ⟨gb297,3,none⟩=some (.int .i64 0):=(blk_cell BK297.out 3).trans rfl;have hfz45_0:=blk_frozen BK297.out 0;have hfz45_1:=blk_frozen BK297.out 1;have hfz45_2:=blk_frozen BK297.out 2;have hfz45_3:=blk_frozen BK297.out 3))
  refine bodyPost_ret (results_ct rfl _ _ gb297 23 #[.int .i64 0,.int .i64 0,.int .i64 0,.int .i64 0] (0,0) _ rfl (by refine blk_put (cs:=#[.int .i64 0,.int .i64 0,.int .i64 0,.int .i64 0]) ?_ 3 _ rfl;refine blk_put (cs:=#[.int .i64 0,.int .i64 0,.int .i64 0,.int .i64 0]) ?_ 2 _ rfl;refine blk_put (cs:=#[.int .i64 0,.int .i64 0,.int .i64 0,.int .i64 0]) ?_ 1 _ rfl;refine blk_put (cs:=#[.int .i64 0,.int .i64 0,.int .i64 0,.int .i64 0]) ?_ 0 _ rfl;exact BK297.out) Try.underlying23 rfl (by kernel_rfl)) rfl ?_;exact ⟨by first|rfl|(simp [errW_none,errW_some] <;> rfl)|(simp [*,errW_none,errW_some] <;> rfl),by repeat (first|(with_reducible first|exact HB.out|apply below_alloc|apply pw_below_drewN|apply below_drew1|refine below_set ?_ GE295.out|refine below_set ?_ GE296.out|refine below_set ?_ GE297.out)|exact HB.out)⟩
/-! ### norm_Norm: function 40 -/
def norm_Norm.f (k:Nat) (a0_0:Int) (a0_1:Int) (a0_2:Int) (a0_3:Int):Option (Int × Int):=(norm_check.f k (([(⟨a0_0,a0_1,a0_2,a0_3⟩:S23)]:List (S23)))).bind fun t325=>(if t325=0 then ((norm_of.f a0_0 a0_1 a0_2 a0_3).bind fun bt326=>((norm_quat_norm.f bt326.1 bt326.2.1 bt326.2.2.1 bt326.2.2.2).bind fun t330=>(some (t330,0)))) else (some (0,t325)))
theorem norm_Norm.mono:∀ a0 a1 a2 a3 k,LeO (norm_Norm.f k a0 a1 a2 a3) (norm_Norm.f (k + 1) a0 a1 a2 a3):=by
  intro a0 a1 a2 a3 k
  unfold norm_Norm.f
  with_reducible repeat' first|exact norm_check.mono _ _|exact LeO.refl _|exact LeO.none _|refine LeO.ite ?_ ?_|refine LeO.bind ?_ (fun _=>?_)
set_option maxHeartbeats 8000000 in
set_option maxRecDepth 100000 in
theorem norm_Norm.calls (k:Nat) (a0_0:Int) (a0_1:Int) (a0_2:Int) (a0_3:Int) (r1:Int) (r2:Int) (w:World) (h:norm_Norm.f k a0_0 a0_1 a0_2 a0_3=some (r1,r2)) :
    Calls Try.prog 40 #[.agg #[.int .i64 a0_0,.int .i64 a0_1,.int .i64 a0_2,.int .i64 a0_3]] w fun e w'=>e=.returned (.tuple #[.int .i64 r1,.int .i64 r2])∧Below w.heap.size w w':=by
 have hu23:=Try.underlying23;have HB:=mk0 (Below.refl w.heap.size w);have H:((norm_check.f k (([(⟨a0_0,a0_1,a0_2,a0_3⟩:S23)]:List (S23)))).bind fun t325=>(if t325=0 then ((norm_of.f a0_0 a0_1 a0_2 a0_3).bind fun bt326=>((norm_quat_norm.f bt326.1 bt326.2.1 bt326.2.2.1 bt326.2.2.2).bind fun t330=>(some (t330,0)))) else (some (0,t325))))=some (r1,r2):=h;clear h;obtain ⟨y322,hy322⟩:∃ y_:List (S23),y_=(([(⟨a0_0,a0_1,a0_2,a0_3⟩:S23)]:List (S23))):=⟨_,rfl⟩
 replace H:((norm_check.f k y322).bind fun t325=>(if t325=0 then ((norm_of.f a0_0 a0_1 a0_2 a0_3).bind fun bt326=>((norm_quat_norm.f bt326.1 bt326.2.1 bt326.2.2.1 bt326.2.2.2).bind fun t330=>(some (t330,0)))) else (some (0,t325))))=some (r1,r2):=by first|(rw [hy322];with_reducible exact H)|(have H2_:=(Option.bind_some _ _).symm.trans H;rw [hy322];with_reducible exact H2_)|(have H2_:=(Option.bind_some _ _).symm.trans H;with_reducible exact H2_)|with_reducible exact H|(rw [hy322];exact H)|exact H
 have Ny322:=mk0 hy322;clear hy322;replace H:=Option.bind_eq_some_iff.mp H;obtain ⟨t325,A20,H⟩:=H;(try dsimp only at H);have A2:=mk0 A20;clear A20
 by_cases c3:t325=0
 ·
  rw [if_pos c3] at H;have c3b0:(t325 == 0)=true:=beq_iff_eq.mpr c3;have c3b1:(t325 != 0)=false:=bne_eq_false_iff_eq.mpr c3;clear c3;replace H:=Option.bind_eq_some_iff.mp H;obtain ⟨⟨t326,t327,t328,t329⟩,A40,H⟩:=H;(try dsimp only at H);have A4:=mk0 A40;clear A40;replace H:=Option.bind_eq_some_iff.mp H;obtain ⟨t330,A50,H⟩:=H;(try dsimp only at H);have A5:=mk0 A50;clear A50;simp only [Option.some.injEq,Prod.mk.injEq] at H;obtain ⟨rfl,rfl⟩:=H;go_enter Try.func40,Try.ntmps40;go_wp2_with (first|((with_reducible refine gate_dst (N:=1) rfl ?_);refine box_event ?hg (N:=1) ?hd (cs:=#[.int .i64 a0_0,.int .i64 a0_1,.int .i64 a0_2,.int .i64 a0_3]) (t:=23) ?hr ?_;(case hd=>rfl);(case hg=>rfl);(case hr=>first|(go_simp;done)|(go_simp;rfl));intro gb321 hg w6 hbox hb;have BK321:=mk0 (hbox);have GW321:=szw hg HB;have GE321:=GW321;replace HB:=bst HB hb;clear hb hbox hg;have hcz7_0:w6.cell? ⟨gb321,0,none⟩=some (.int .i64 a0_0):=(blk_cell BK321.out 0).trans rfl;have hcz7_1:w6.cell? ⟨gb321,1,none⟩=some (.int .i64 a0_1):=(blk_cell BK321.out 1).trans rfl;have hcz7_2:w6.cell? ⟨gb321,2,none⟩=some (.int .i64 a0_2):=(blk_cell BK321.out 2).trans rfl;have hcz7_3:w6.cell? ⟨gb321,3,none⟩=some (.int .i64 a0_3):=(blk_cell BK321.out 3).trans rfl;have hfz7_0:=blk_frozen BK321.out 0;have hfz7_1:=blk_frozen BK321.out 1;have hfz7_2:=blk_frozen BK321.out 2;have hfz7_3:=blk_frozen BK321.out 3)|((with_reducible refine gate_dst (N:=6) rfl ?_);refine Kd.R_lit k23 _ 23 ?hg (N:=6) ?hd (xs:=([(⟨a0_0,a0_1,a0_2,a0_3⟩:S23)]:List (S23))) (inner:=[.int .i64 a0_0,.int .i64 a0_1,.int .i64 a0_2,.int .i64 a0_3]) (ok:=fun _=>True) (okp:=fun _=>True) ?hr ?hp (fun _ hk=>hk) trivial (Below.refl _ _) (Nat.le_refl _) (by simp) ?_;(case hd=>rfl);(case hg=>rfl);(case hr=>first|(go_simp;done)|(go_simp;rfl));(case hp=>exact (Reps.c4 (show Kd.M k23 _ _ _ (⟨a0_0,a0_1,a0_2,a0_3⟩:S23) [.int .i64 a0_0,.int .i64 a0_1,.int .i64 a0_2,.int .i64 a0_3] from (k23_mkM _ _ _ (⟨a0_0,a0_1,a0_2,a0_3⟩:S23) )) (Reps.none _ _)));intro v323 w8 ho9 hb hg_ hnew_;clear hg_ hnew_;(first|rw [← Ny322.out] at ho9|(simp only [Int.reduceToNat] at ho9;rw [← Ny322.out] at ho9));have HO324:=mk0 (Kd.R_lower (Kd.R_newB ho9 (g:=gb321) (o:=.cells #[.int .i64 a0_0,.int .i64 a0_1,.int .i64 a0_2,.int .i64 a0_3] 23 (0,0)) BK321.out) (below_size HB.out));replace BK321:=bkb BK321 hb;replace HB:=bst HB hb;clear hb ho9;obtain ⟨Ao10,co10,eo10⟩:=Kd.R_slice HO324.out;subst eo10)|((with_reducible refine gate_callee (f:=47) rfl ?_);refine goesL_ (some 7) rfl rfl Try.func47 (by kernel_rfl) rfl #[.slice Ao10 y322.length co10] rfl (by (try simp only [List.map_toArray,List.map_cons,List.map_nil]);first|done|rfl|(simp only [List.length_drop,List.length_take];rfl)) ?_;(with_reducible refine (norm_check.calls k _ _ y322 t325 _ ?side1 ?side2 A2.out).mono ?_);(case side1=>repeat (first|exact (Kd.R_reads' HO324.out).2.2|(with_reducible refine Kd.C_alloc ?_ _)|(with_reducible refine Kd.C_drewN ?_ _)|(with_reducible refine Kd.C_drew ?_)));(case side2=>exact (Kd.R_reads' HO324.out).2.1);rintro e w11 ⟨rfl,hb⟩;refine ⟨_,rfl,?_⟩;replace HO324:=rbl HO324 hb;replace BK321:=bkb BK321 hb;replace HB:=bst HB hb;(try clear hb);(try clear hk);have hcz12_0:w11.cell? ⟨gb321,0,none⟩=some (.int .i64 a0_0):=(blk_cell BK321.out 0).trans rfl;have hcz12_1:w11.cell? ⟨gb321,1,none⟩=some (.int .i64 a0_1):=(blk_cell BK321.out 1).trans rfl;have hcz12_2:w11.cell? ⟨gb321,2,none⟩=some (.int .i64 a0_2):=(blk_cell BK321.out 2).trans rfl;have hcz12_3:w11.cell? ⟨gb321,3,none⟩=some (.int .i64 a0_3):=(blk_cell BK321.out 3).trans rfl;have hfz12_0:=blk_frozen BK321.out 0;have hfz12_1:=blk_frozen BK321.out 1;have hfz12_2:=blk_frozen BK321.out 2;have hfz12_3:=blk_frozen BK321.out 3)|((with_reducible refine gate_callee (f:=48) rfl ?_);refine goesL_ (some 12) rfl rfl Try.func48 (by kernel_rfl) rfl #[.agg #[.int .i64 a0_0,.int .i64 a0_1,.int .i64 a0_2,.int .i64 a0_3]] rfl (by (try simp only [List.map_toArray,List.map_cons,List.map_nil]);first|done|rfl|(simp only [List.length_drop,List.length_take];rfl)) ?_;(with_reducible refine (norm_of.calls a0_0 a0_1 a0_2 a0_3 t326 t327 t328 t329 _ A4.out).mono ?_);rintro e w13 ⟨rfl,hb⟩;refine ⟨_,rfl,?_⟩;replace HO324:=rbl HO324 hb;replace BK321:=bkb BK321 hb;replace HB:=bst HB hb;(try clear hb);(try clear hk))|((with_reducible refine gate_callee (f:=66) rfl ?_);refine goesL_ (some 13) rfl rfl Try.func66 (by kernel_rfl) rfl #[.agg #[.int .i64 t326,.int .i64 t327,.int .i64 t328,.int .i64 t329]] rfl (by (try simp only [List.map_toArray,List.map_cons,List.map_nil]);first|done|rfl|(simp only [List.length_drop,List.length_take];rfl)) ?_;(with_reducible refine (norm_quat_norm.calls t326 t327 t328 t329 t330 _ A5.out).mono ?_);rintro e w14 ⟨rfl,hb⟩;refine ⟨_,rfl,?_⟩;replace HO324:=rbl HO324 hb;replace BK321:=bkb BK321 hb;replace HB:=bst HB hb;(try clear hb);(try clear hk)))
  go_ret2;exact ⟨by first|rfl|(simp [errW_none,errW_some] <;> rfl)|(simp [*,errW_none,errW_some] <;> rfl),by repeat (first|(with_reducible first|exact HB.out|apply below_alloc|apply pw_below_drewN|apply below_drew1|refine below_set ?_ GE321.out)|exact HB.out)⟩
 ·
  rw [if_neg c3] at H;have c3b0:(t325 == 0)=false:=beq_eq_false_iff_ne.mpr c3;have c3b1:(t325 != 0)=true:=bne_iff_ne.mpr c3;simp only [Option.some.injEq,Prod.mk.injEq] at H;obtain ⟨rfl,rfl⟩:=H;go_enter Try.func40,Try.ntmps40;go_wp2_with (first|((with_reducible refine gate_dst (N:=1) rfl ?_);refine box_event ?hg (N:=1) ?hd (cs:=#[.int .i64 a0_0,.int .i64 a0_1,.int .i64 a0_2,.int .i64 a0_3]) (t:=23) ?hr ?_;(case hd=>rfl);(case hg=>rfl);(case hr=>first|(go_simp;done)|(go_simp;rfl));intro gb321 hg w15 hbox hb;have BK321:=mk0 (hbox);have GW321:=szw hg HB;have GE321:=GW321;replace HB:=bst HB hb;clear hb hbox hg;have hcz16_0:w15.cell? ⟨gb321,0,none⟩=some (.int .i64 a0_0):=(blk_cell BK321.out 0).trans rfl;have hcz16_1:w15.cell? ⟨gb321,1,none⟩=some (.int .i64 a0_1):=(blk_cell BK321.out 1).trans rfl;have hcz16_2:w15.cell? ⟨gb321,2,none⟩=some (.int .i64 a0_2):=(blk_cell BK321.out 2).trans rfl;have hcz16_3:w15.cell? ⟨gb321,3,none⟩=some (.int .i64 a0_3):=(blk_cell BK321.out 3).trans rfl;have hfz16_0:=blk_frozen BK321.out 0;have hfz16_1:=blk_frozen BK321.out 1;have hfz16_2:=blk_frozen BK321.out 2;have hfz16_3:=blk_frozen BK321.out 3)|((with_reducible refine gate_dst (N:=6) rfl ?_);refine Kd.R_lit k23 _ 23 ?hg (N:=6) ?hd (xs:=([(⟨a0_0,a0_1,a0_2,a0_3⟩:S23)]:List (S23))) (inner:=[.int .i64 a0_0,.int .i64 a0_1,.int .i64 a0_2,.int .i64 a0_3]) (ok:=fun _=>True) (okp:=fun _=>True) ?hr ?hp (fun _ hk=>hk) trivial (Below.refl _ _) (Nat.le_refl _) (by simp) ?_;(case hd=>rfl);(case hg=>rfl);(case hr=>first|(go_simp;done)|(go_simp;rfl));(case hp=>exact (Reps.c4 (show Kd.M k23 _ _ _ (⟨a0_0,a0_1,a0_2,a0_3⟩:S23) [.int .i64 a0_0,.int .i64 a0_1,.int .i64 a0_2,.int .i64 a0_3] from (k23_mkM _ _ _ (⟨a0_0,a0_1,a0_2,a0_3⟩:S23) )) (Reps.none _ _)));intro v323 w17 ho18 hb hg_ hnew_;clear hg_ hnew_;(first|rw [← Ny322.out] at ho18|(simp only [Int.reduceToNat] at ho18;rw [← Ny322.out] at ho18));have HO324:=mk0 (Kd.R_lower (Kd.R_newB ho18 (g:=gb321) (o:=.cells #[.int .i64 a0_0,.int .i64 a0_1,.int .i64 a0_2,.int .i64 a0_3] 23 (0,0)) BK321.out) (below_size HB.out));replace BK321:=bkb BK321 hb;replace HB:=bst HB hb;clear hb ho18;obtain ⟨Ao19,co19,eo19⟩:=Kd.R_slice HO324.out;subst eo19)|((with_reducible refine gate_callee (f:=47) rfl ?_);refine goesL_ (some 7) rfl rfl Try.func47 (by kernel_rfl) rfl #[.slice Ao19 y322.length co19] rfl (by (try simp only [List.map_toArray,List.map_cons,List.map_nil]);first|done|rfl|(simp only [List.length_drop,List.length_take];rfl)) ?_;(with_reducible refine (norm_check.calls k _ _ y322 t325 _ ?side1 ?side2 A2.out).mono ?_);(case side1=>repeat (first|exact (Kd.R_reads' HO324.out).2.2|(with_reducible refine Kd.C_alloc ?_ _)|(with_reducible refine Kd.C_drewN ?_ _)|(with_reducible refine Kd.C_drew ?_)));(case side2=>exact (Kd.R_reads' HO324.out).2.1);rintro e w20 ⟨rfl,hb⟩;refine ⟨_,rfl,?_⟩;replace HO324:=rbl HO324 hb;replace BK321:=bkb BK321 hb;replace HB:=bst HB hb;(try clear hb);(try clear hk)));go_ret2;exact ⟨by first|rfl|(simp [errW_none,errW_some] <;> rfl)|(simp [*,errW_none,errW_some] <;> rfl),by repeat (first|(with_reducible first|exact HB.out|apply below_alloc|apply pw_below_drewN|apply below_drew1|refine below_set ?_ GE321.out)|exact HB.out)⟩
/-! ### norm_prime: function 67 -/
def norm_prime.l0:Nat → Int → Int → Option (Bool)
  | 0,_,_=>none
  | k + 1,x0,x3=>if (wrap64 (x3 * x3)) ≤ x0 then (if x3=0 then (none) else (if (Int.tmod x0 x3)=0 then (some false) else (norm_prime.l0 k x0 (wrap64 (x3 + 1))))) else (some (decide (x0 > 1)))
def norm_prime.f (k:Nat) (a0:Int):Option (Bool):=norm_prime.l0 k a0 2
theorem norm_prime.mono_l:∀ k,(∀ y0 y1,LeO (norm_prime.l0 k y0 y1) (norm_prime.l0 (k + 1) y0 y1))
  | 0=>fun _ _ r h=>by simp [norm_prime.l0] at h
  | k + 1=>by
    have ih0:=norm_prime.mono_l k
    · intro y0 y1
      unfold norm_prime.l0
      with_reducible repeat' first|exact ih0 _ _|exact LeO.refl _|exact LeO.none _|refine LeO.ite ?_ ?_|refine LeO.bind ?_ (fun _=>?_)
theorem norm_prime.mono:∀ a0 k,LeO (norm_prime.f k a0) (norm_prime.f (k + 1) a0):=by
  intro a0 k
  have ih0:=norm_prime.mono_l k
  unfold norm_prime.f
  with_reducible repeat' first|exact ih0 _ _|exact LeO.refl _|exact LeO.none _|refine LeO.ite ?_ ?_|refine LeO.bind ?_ (fun _=>?_)
set_option maxHeartbeats 8000000 in
set_option maxRecDepth 100000 in
theorem norm_prime.calls (k:Nat) (a0:Int) (r:Bool) (w:World) (h:norm_prime.f k a0=some r) :
    Calls Try.prog 67 #[.int .i64 a0] w fun e w'=>e=.returned (.bool r)∧Drawn0 w w':=by
 have H:(norm_prime.l0 k a0 2)=some r:=h;clear h;have H':=mk0 H;clear H;go_enter Try.func67,Try.ntmps67;go_wp2
 go_loopg [3] k (fun kq v3 w'=>∃ (x3_1:Int),v3=.int .i64 x3_1∧Aside0 (norm_prime.l0 kq a0 x3_1=some r)∧Aside0 (kq ≤ k)∧Drawn0 w w')
 case atStart=>exact ⟨(2),(by first|rfl|(simp;done)|(simp [*];done)),H',⟨Nat.le_refl _⟩,by repeat (first|exact Drawn0.refl _|apply Drawn0.step)⟩
 case round =>
  clear H';obtain ⟨x3_1,rfl,HA,HK1,⟨m1,rfl⟩⟩:=hrel;cases gk with
  | zero=>exact absurd HA.out (by simp [norm_prime.l0])
  | succ k1 =>
   have H:=HA.out;clear HA;simp only [norm_prime.l0] at H
   by_cases c2:(wrap64 (x3_1 * x3_1)) ≤ a0
   ·
    rw [if_pos c2] at H;have c2b0:decide ((wrap64 (x3_1 * x3_1)) ≤ a0)=true:=decide_eq_true c2;clear c2
    by_cases c3:x3_1=0
    ·
     rw [if_pos c3] at H;exact absurd H (by simp)
    ·
     rw [if_neg c3] at H;have c3b0:(x3_1 == 0)=false:=beq_eq_false_iff_ne.mpr c3;have c3b1:(x3_1 != 0)=true:=bne_iff_ne.mpr c3
     by_cases c4:(Int.tmod a0 x3_1)=0
     ·
      rw [if_pos c4] at H;have c4b0:((Int.tmod a0 x3_1) == 0)=true:=beq_iff_eq.mpr c4;have c4b1:((Int.tmod a0 x3_1) != 0)=false:=bne_eq_false_iff_eq.mpr c4;clear c4;obtain rfl:=Option.some.inj H;go_wp2;go_ret;exact ⟨by first|rfl|(simp;done)|(simp [*];done),by repeat (first|exact Drawn0.refl _|apply Drawn0.step)⟩
     ·
      rw [if_neg c4] at H;have c4b0:((Int.tmod a0 x3_1) == 0)=false:=beq_eq_false_iff_ne.mpr c4;have c4b1:((Int.tmod a0 x3_1) != 0)=true:=bne_iff_ne.mpr c4;have H':=mk0 H;clear H;go_wp2;go_roundg k1
      case measure=>have:=HK1.out;omega
      case rel=>exact ⟨(wrap64 (x3_1 + 1)),(by first|rfl|(simp;done)|(simp [*];done)),H',⟨by have:=HK1.out;omega⟩,by repeat (first|exact Drawn0.refl _|apply Drawn0.step)⟩
   ·
    rw [if_neg c2] at H;have c2b0:decide ((wrap64 (x3_1 * x3_1)) ≤ a0)=false:=decide_eq_false c2;clear c2;obtain rfl:=Option.some.inj H;go_wp2;go_ret;exact ⟨by first|rfl|(simp;done)|(simp [*];done),by repeat (first|exact Drawn0.refl _|apply Drawn0.step)⟩
/-! ### norm_Split: function 44 -/
def norm_Split.j0:Nat → Int → Bool → Option (Int × Int × Int × Int × Int)
  | 0,_,_=>none
  | k + 1,x0,x12=>if x12=true then (some (0,0,0,0,1)) else ((norm_root.f k x0).bind fun t334=>((norm_squares.f k x0 4 t334).bind fun t335=>(if 0 < (t335.length:Int) then (if 1 < (t335.length:Int) then (if 2 < (t335.length:Int) then (if 3 < (t335.length:Int) then (some (wrap64 (2 * (rd t335 0)),wrap64 (2 * (rd t335 1)),wrap64 (2 * (rd t335 2)),wrap64 (2 * (rd t335 3)),0)) else (none)) else (none)) else (none)) else (none))))
def norm_Split.f (k:Nat) (a0:Int):Option (Int × Int × Int × Int × Int):=(norm_counted.f a0 2).bind fun t332=>(if t332=true then ((norm_prime.f k a0).bind fun t333=>(norm_Split.j0 k a0 (!t333))) else (norm_Split.j0 k a0 true))
theorem norm_Split.mono_l:∀ k,(∀ y0 y1,LeO (norm_Split.j0 k y0 y1) (norm_Split.j0 (k + 1) y0 y1))
  | 0=>fun _ _ r h=>by simp [norm_Split.j0] at h
  | k + 1=>by
    have ih0:=norm_Split.mono_l k
    · intro y0 y1
      unfold norm_Split.j0
      with_reducible repeat' first|exact ih0 _ _|exact norm_prime.mono _ _|exact norm_root.mono _ _|exact norm_squares.mono _ _ _ _|exact LeO.refl _|exact LeO.none _|refine LeO.ite ?_ ?_|refine LeO.bind ?_ (fun _=>?_)
theorem norm_Split.mono:∀ a0 k,LeO (norm_Split.f k a0) (norm_Split.f (k + 1) a0):=by
  intro a0 k
  have ih0:=norm_Split.mono_l k
  unfold norm_Split.f
  with_reducible repeat' first|exact ih0 _ _|exact norm_prime.mono _ _|exact norm_root.mono _ _|exact norm_squares.mono _ _ _ _|exact LeO.refl _|exact LeO.none _|refine LeO.ite ?_ ?_|refine LeO.bind ?_ (fun _=>?_)
def norm_Split.T4:Bool × List (List Nat × List Nat):=(true,[([],[]),([0],[0]),([1],[1]),([2],[2]),([],[]),([4],[4]),([5],[5]),([6],[6]),([],[]),([8],[8]),([9],[9]),([10],[10]),([],[]),([12],[12]),([13],[13]),([14],[14]),([3,7,11,15],[3,7,11,15]),([16,0,1,2,3,4,5,6,7,8,9,10,11,12,13,14,15,16],[16]),([17,0,1,2,3,4,5,6,7,8,9,10,11,12,13,14,15,16,17],[])])
def norm_Split.B4:List Nat:=[0,1,3,7,0,16,48,112,0,256,768,1792,0,4096,12288,28672,65535,131071,262143]
theorem norm_Split.tab4:rtab .any (opsOf Try.f44 4)=norm_Split.T4:=by kernel_rfl
theorem norm_Split.bits4:waitsOk norm_Split.T4.2 norm_Split.B4=true:=by kernel_rfl
set_option maxHeartbeats 8000000 in
set_option maxRecDepth 100000 in
theorem norm_Split.calls (k:Nat) (a0:Int) (r1:Int) (r2:Int) (r3:Int) (r4:Int) (r5:Int) (w:World) (h:norm_Split.f k a0=some (r1,r2,r3,r4,r5)) :
    Calls Try.prog 44 #[.int .i64 a0] w fun e w'=>e=.returned (.tuple #[.agg #[.int .i64 r1,.int .i64 r2,.int .i64 r3,.int .i64 r4],.int .i64 r5])∧Below w.heap.size w w':=by
 have hu23:=Try.underlying23;have HB:=mk0 (Below.refl w.heap.size w);have H:((norm_counted.f a0 2).bind fun t332=>(if t332=true then ((norm_prime.f k a0).bind fun t333=>(norm_Split.j0 k a0 (!t333))) else (norm_Split.j0 k a0 true)))=some (r1,r2,r3,r4,r5):=h;clear h;have HC2:=mk0 H;clear H;go_enter Try.func44,Try.ntmps44;go_upto_region 1 with (first|((with_reducible refine gate_dst (N:=2) rfl ?_);refine box_event ?hg (N:=2) ?hd (cs:=#[.int .i64 0,.int .i64 0,.int .i64 0,.int .i64 0]) (t:=23) ?hr ?_;(case hd=>rfl);(case hg=>rfl);(case hr=>first|(go_simp;done)|(go_simp;rfl));intro gb331 hg w3 hbox hb;have BK331:=mk0 (hbox);have GW331:=szw hg HB;have GE331:=GW331;replace HB:=bst HB hb;clear hb hbox hg));(try simp only [Act.put,List.setIfInBounds_toArray,List.set_cons_zero,List.set_cons_succ])
 go_cut [12] (fun v12 wc=>∃ (kq:Nat) (x12_1:Bool),v12=.bool x12_1∧Aside0 (norm_Split.j0 kq a0 x12_1=some (r1,r2,r3,r4,r5))∧Aside0 (kq ≤ k)∧Aside0 (wc.heap[gb331]?=some (.cells #[.int .i64 0,.int .i64 0,.int .i64 0,.int .i64 0] 23 (0,0)))∧Aside0 (Below w.heap.size w wc))
 case first =>
  have H:=HC2.out;clear HC2;replace H:=Option.bind_eq_some_iff.mp H;obtain ⟨t332,A40,H⟩:=H;(try dsimp only at H);have A4:=mk0 A40;clear A40
  by_cases c5:t332=true
  ·
   subst c5;have H1:((norm_prime.f k a0).bind fun t333=>(norm_Split.j0 k a0 (!t333)))=some (r1,r2,r3,r4,r5):=by rw [if_pos rfl] at H;exact H
   clear H;have H:=H1;clear H1;replace H:=Option.bind_eq_some_iff.mp H;obtain ⟨t333,A60,H⟩:=H;(try dsimp only at H);have A6:=mk0 A60;clear A60;have H':=mk0 H;clear H;go_wp2_with (first|((with_reducible refine gate_callee (f:=57) rfl ?_);refine goesL_ (some 6) rfl rfl Try.func57 (by kernel_rfl) rfl #[.int .i64 a0,.int .i64 2] rfl (by (try simp only [List.map_toArray,List.map_cons,List.map_nil]);first|done|rfl|(simp only [List.length_drop,List.length_take];rfl)) ?_;(with_reducible refine (norm_counted.calls a0 2 true _ A4.out).mono ?_);rintro e w' ⟨rfl,⟨nd,rfl⟩⟩;refine ⟨_,rfl,?_⟩)|(go_at_call 67;(with_reducible refine (norm_prime.calls k a0 t333 _ A6.out).mono ?_);rintro e w' ⟨rfl,⟨nd,rfl⟩⟩));go_meet
   case rel=>exact ⟨_,(!t333),(by first|rfl|(simp;done)|(simp [*];done)),H',⟨by first|omega|exact Nat.le_refl _⟩,⟨by exact BK331.out⟩,⟨by repeat (first|(with_reducible first|exact HB.out|apply below_alloc|apply pw_below_drewN|apply below_drew1|refine below_set ?_ GE331.out)|exact HB.out)⟩⟩
  ·
   replace c5:=Bool.eq_false_iff.mpr c5;subst c5;have H1:(norm_Split.j0 k a0 true)=some (r1,r2,r3,r4,r5):=by rw [if_neg (show ¬ (false=true) by decide)] at H;exact H
   clear H;have H:=H1;clear H1;have H':=mk0 H;clear H;go_wp2_with (first|((with_reducible refine gate_callee (f:=57) rfl ?_);refine goesL_ (some 6) rfl rfl Try.func57 (by kernel_rfl) rfl #[.int .i64 a0,.int .i64 2] rfl (by (try simp only [List.map_toArray,List.map_cons,List.map_nil]);first|done|rfl|(simp only [List.length_drop,List.length_take];rfl)) ?_;(with_reducible refine (norm_counted.calls a0 2 false _ A4.out).mono ?_);rintro e w' ⟨rfl,⟨nd,rfl⟩⟩;refine ⟨_,rfl,?_⟩));go_meet
   case rel=>exact ⟨_,(true),(by first|rfl|(simp;done)|(simp [*];done)),H',⟨by first|omega|exact Nat.le_refl _⟩,⟨by exact BK331.out⟩,⟨by repeat (first|(with_reducible first|exact HB.out|apply below_alloc|apply pw_below_drewN|apply below_drew1|refine below_set ?_ GE331.out)|exact HB.out)⟩⟩
 case rest =>
  clear HC2;try clear p2
  try clear c4
  try clear c5
  obtain ⟨kq,x12_1,rfl,HA,HJ1,BK331,HB⟩:=hcut;cases kq with
  | zero=>exact absurd HA.out (by simp [norm_Split.j0])
  | succ kj1 =>
   have H:=HA.out;clear HA;simp only [norm_Split.j0] at H
   by_cases c7:x12_1=true
   ·
    subst c7;have H1:(some (0,0,0,0,1))=some (r1,r2,r3,r4,r5):=by rw [if_pos rfl] at H;exact H
    clear H;have H:=H1;clear H1;simp only [Option.some.injEq,Prod.mk.injEq] at H;obtain ⟨rfl,rfl,rfl,rfl,rfl⟩:=H;have hcz8_0:wc.cell? ⟨gb331,0,none⟩=some (.int .i64 0):=(blk_cell BK331.out 0).trans rfl;have hcz8_1:wc.cell? ⟨gb331,1,none⟩=some (.int .i64 0):=(blk_cell BK331.out 1).trans rfl;have hcz8_2:wc.cell? ⟨gb331,2,none⟩=some (.int .i64 0):=(blk_cell BK331.out 2).trans rfl;have hcz8_3:wc.cell? ⟨gb331,3,none⟩=some (.int .i64 0):=(blk_cell BK331.out 3).trans rfl;have hfz8_0:=blk_frozen BK331.out 0;have hfz8_1:=blk_frozen BK331.out 1;have hfz8_2:=blk_frozen BK331.out 2;have hfz8_3:=blk_frozen BK331.out 3;go_wp2;refine bodyPost_ret (results_ct rfl _ _ gb331 23 #[.int .i64 0,.int .i64 0,.int .i64 0,.int .i64 0] (0,0) _ rfl (by refine blk_put (cs:=#[.int .i64 0,.int .i64 0,.int .i64 0,.int .i64 0]) ?_ 3 _ rfl;refine blk_put (cs:=#[.int .i64 0,.int .i64 0,.int .i64 0,.int .i64 0]) ?_ 2 _ rfl;refine blk_put (cs:=#[.int .i64 0,.int .i64 0,.int .i64 0,.int .i64 0]) ?_ 1 _ rfl;refine blk_put (cs:=#[.int .i64 0,.int .i64 0,.int .i64 0,.int .i64 0]) ?_ 0 _ rfl;exact BK331.out) Try.underlying23 rfl (by kernel_rfl)) rfl ?_;exact ⟨by first|rfl|(simp [errW_none,errW_some] <;> rfl)|(simp [*,errW_none,errW_some] <;> rfl),by repeat (first|(with_reducible first|exact HB.out|apply below_alloc|apply pw_below_drewN|apply below_drew1|refine below_set ?_ GE331.out)|exact HB.out)⟩
   ·
    replace c7:=Bool.eq_false_iff.mpr c7;subst c7;have H1:((norm_root.f kj1 a0).bind fun t334=>((norm_squares.f kj1 a0 4 t334).bind fun t335=>(if 0 < (t335.length:Int) then (if 1 < (t335.length:Int) then (if 2 < (t335.length:Int) then (if 3 < (t335.length:Int) then (some (wrap64 (2 * (rd t335 0)),wrap64 (2 * (rd t335 1)),wrap64 (2 * (rd t335 2)),wrap64 (2 * (rd t335 3)),0)) else (none)) else (none)) else (none)) else (none))))=some (r1,r2,r3,r4,r5):=by rw [if_neg (show ¬ (false=true) by decide)] at H;exact H
    clear H;have H:=H1;clear H1;replace H:=Option.bind_eq_some_iff.mp H;obtain ⟨t334,A90,H⟩:=H;(try dsimp only at H);have A9:=mk0 A90;clear A90;replace H:=Option.bind_eq_some_iff.mp H;obtain ⟨t335,A100,H⟩:=H;(try dsimp only at H);have A10:=mk0 A100;clear A100
    by_cases c11:0 < (t335.length:Int)
    ·
     rw [if_pos c11] at H;have c11b0:decide (0 < (t335.length:Int))=true:=decide_eq_true c11;have c11b1:decide (0 < t335.length)=true:=decide_eq_true (by omega);clear c11
     by_cases c12:1 < (t335.length:Int)
     ·
      rw [if_pos c12] at H;have c12b0:decide (1 < (t335.length:Int))=true:=decide_eq_true c12;have c12b1:decide (1 < t335.length)=true:=decide_eq_true (by omega);clear c12
      by_cases c13:2 < (t335.length:Int)
      ·
       rw [if_pos c13] at H;have c13b0:decide (2 < (t335.length:Int))=true:=decide_eq_true c13;have c13b1:decide (2 < t335.length)=true:=decide_eq_true (by omega);clear c13
       by_cases c14:3 < (t335.length:Int)
       ·
        rw [if_pos c14] at H;have c14b0:decide (3 < (t335.length:Int))=true:=decide_eq_true c14;have c14b1:decide (3 < t335.length)=true:=decide_eq_true (by omega);clear c14;simp only [Option.some.injEq,Prod.mk.injEq] at H;obtain ⟨rfl,rfl,rfl,rfl,rfl⟩:=H;try go_wp2_with (first|((with_reducible refine gate_callee (f:=59) rfl ?_);refine goesL_ (some 16) rfl rfl Try.func59 (by kernel_rfl) rfl #[.int .i64 a0] rfl (by (try simp only [List.map_toArray,List.map_cons,List.map_nil]);first|done|rfl|(simp only [List.length_drop,List.length_take];rfl)) ?_;(with_reducible refine (norm_root.calls kj1 a0 t334 _ A9.out).mono ?_);rintro e w' ⟨rfl,⟨nd,rfl⟩⟩;refine ⟨_,rfl,?_⟩;(try (rw [drewN_self wc];generalize hq_:World.drewN wc _=wc;have n0_:Aside0 (wc.heap[gb331]?=some (.cells #[.int .i64 0,.int .i64 0,.int .i64 0,.int .i64 0] 23 (0,0))):=⟨by rw [← hq_];exact (by (with_reducible repeat (first|refine blk_drewN ?_ _|refine blk_drew ?_|refine blk_alloc ?_ _));exact BK331.out)⟩;have n1_:Aside0 (Below w.heap.size w wc):=⟨by rw [← hq_];exact (by repeat (first|(with_reducible first|exact HB.out|apply below_alloc|apply pw_below_drewN|apply below_drew1|refine below_set ?_ GE331.out)|exact HB.out))⟩;clear BK331 HB hq_;have BK331:=n0_;have HB:=n1_;clear n0_ n1_)))|((with_reducible refine gate_callee (f:=58) rfl ?_);refine goesL_ (some 17) rfl rfl Try.func58 (by kernel_rfl) rfl #[.int .i64 a0,.int .i64 4,.int .i64 t334] rfl (by (try simp only [List.map_toArray,List.map_cons,List.map_nil]);first|done|rfl|(simp only [List.length_drop,List.length_take];rfl)) ?_;(with_reducible refine (norm_squares.calls kj1 a0 4 t334 t335 _ A10.out).mono ?_);rintro e w15 ⟨v336,rfl,ho0,hz0,hb⟩;refine ⟨_,rfl,?_⟩;have HO337:=mk0 (Kd.R_lower ho0 (below_size (by repeat (first|(with_reducible first|exact HB.out|apply below_alloc|apply pw_below_drewN|apply below_drew1|refine below_set ?_ GE331.out)|exact HB.out))));have NZHO337:=mk0 (hz0);replace BK331:=mk0 (blk_below (g:=gb331) (o:=.cells #[.int .i64 0,.int .i64 0,.int .i64 0,.int .i64 0] 23 (0,0)) (by (with_reducible repeat (first|refine blk_drewN ?_ _|refine blk_drew ?_|refine blk_alloc ?_ _));exact BK331.out) hb);replace HB:=mk0 (below_step (by repeat (first|(with_reducible first|exact HB.out|apply below_alloc|apply pw_below_drewN|apply below_drew1|refine below_set ?_ GE331.out)|exact HB.out)) hb);(try clear hb);(try clear ho0)))
        replace HO337:=rdr HO337;replace BK331:=bdr BK331;replace HB:=hdr HB;obtain ⟨Ao17,co17,eo17⟩:=Kd.R_slice HO337.out;(first|subst eo17|(injection eo17 with f1_ f2_ f3_;have f4_:=f1_.symm;have f5_:=f3_.symm;clear f1_ f2_ f3_;subst f4_;subst f5_));have p338:0 ≤ (0:Int):=(by omega)
        have q338:0 < (t335.length:Int):=of_decide_eq_true (by first|(with_reducible assumption)|assumption);obtain ⟨ad338,e338,hx338_0⟩:=Kd.at_int (Kd.R_reads' HO337.out).2.2 0 p338 q338;cases e338;have qi338:(0 < t335.length)=True:=eq_true (by omega);(try rw [show ((0:Int)).toNat=0 from rfl] at hx338_0);(try rw [Addr.add_zero'] at hx338_0);replace p338:=eq_true p338;replace q338:=eq_true q338;have p339:0 ≤ (1:Int):=(by omega)
        have q339:1 < (t335.length:Int):=of_decide_eq_true (by first|(with_reducible assumption)|assumption);obtain ⟨ad339,e339,hx339_0⟩:=Kd.at_int (Kd.R_reads' HO337.out).2.2 1 p339 q339;obtain rfl:ad338=ad339:=(by injection e339)
        (try simp only [show (1:Int).toNat=1 from rfl,Nat.reduceMul,Nat.reduceEqDiff,Go.Addr.add,↓reduceIte] at hx339_0);have qi339:(1 < t335.length)=True:=eq_true (by omega);(try rw [show ((1:Int)).toNat=1 from rfl] at hx339_0);replace p339:=eq_true p339;replace q339:=eq_true q339;have p340:0 ≤ (2:Int):=(by omega)
        have q340:2 < (t335.length:Int):=of_decide_eq_true (by first|(with_reducible assumption)|assumption);obtain ⟨ad340,e340,hx340_0⟩:=Kd.at_int (Kd.R_reads' HO337.out).2.2 2 p340 q340;obtain rfl:ad338=ad340:=(by injection e340)
        (try simp only [show (2:Int).toNat=2 from rfl,Nat.reduceMul,Nat.reduceEqDiff,Go.Addr.add,↓reduceIte] at hx340_0);have qi340:(2 < t335.length)=True:=eq_true (by omega);(try rw [show ((2:Int)).toNat=2 from rfl] at hx340_0);replace p340:=eq_true p340;replace q340:=eq_true q340;have p341:0 ≤ (3:Int):=(by omega)
        have q341:3 < (t335.length:Int):=of_decide_eq_true (by first|(with_reducible assumption)|assumption);obtain ⟨ad341,e341,hx341_0⟩:=Kd.at_int (Kd.R_reads' HO337.out).2.2 3 p341 q341;obtain rfl:ad338=ad341:=(by injection e341)
        (try simp only [show (3:Int).toNat=3 from rfl,Nat.reduceMul,Nat.reduceEqDiff,Go.Addr.add,↓reduceIte] at hx341_0);have qi341:(3 < t335.length)=True:=eq_true (by omega);(try rw [show ((3:Int)).toNat=3 from rfl] at hx341_0);replace p341:=eq_true p341;replace q341:=eq_true q341;refine start_ (n:=19) (S:=fun w'=>w'.cell? ad338=some (.int .i64 (rd t335 0))∧w'.cell? ⟨ad338.block,ad338.off + 1,none⟩=some (.int .i64 (rd t335 1))∧w'.cell? ⟨ad338.block,ad338.off + 2,none⟩=some (.int .i64 (rd t335 2))∧w'.cell? ⟨ad338.block,ad338.off + 3,none⟩=some (.int .i64 (rd t335 3))) (ds:=[]) #[false,false,false,false,false,false,false,false,false,false,false,false,false,false,false,false,false,false,false] (by kernel_rfl) rfl rfl ⟨hx338_0,hx339_0,hx340_0,hx341_0⟩ (fun hHeld=>?_);refine with_tabW norm_Split.tab4 norm_Split.bits4 (fun HT_ HW_=>?_);generalize w15.drew=w16 at HO337 BK331 HB hx338_0 hx339_0 hx340_0 hx341_0 hHeld ⊢;refine pure_ (i:=0) (N:=some 18) (v:=?_) (a':=?_) #[true,false,false,false,false,false,false,false,false,false,false,false,false,false,false,false,false,false,false] rfl rfl (any_of HT_.out (by kernel_rfl)) (fun _ _ _ h=>h) (Or.inl ⟨by rfl,?_⟩) ?_ ?_;rotate_left
        ·
         intro w';go_simp;with_reducible rfl
        rotate_left
        ·
         simp only [Act.put,List.setIfInBounds_toArray,List.set_cons_zero,List.set_cons_succ,i64_w,i32_w];rfl
        refine pure_ (i:=1) (N:=some 19) (v:=?_) (a':=?_) #[true,true,false,false,false,false,false,false,false,false,false,false,false,false,false,false,false,false,false] rfl rfl (any_of HT_.out (by kernel_rfl)) (fun _ _ _ h=>h) (Or.inl ⟨by rfl,?_⟩) ?_ ?_;rotate_left
        ·
         intro w';go_simp;with_reducible rfl
        rotate_left
        ·
         simp only [Act.put,List.setIfInBounds_toArray,List.set_cons_zero,List.set_cons_succ,i64_w,i32_w];rfl
        refine pure_ (i:=4) (N:=some 22) (v:=?_) (a':=?_) #[true,true,false,false,true,false,false,false,false,false,false,false,false,false,false,false,false,false,false] rfl rfl (any_of HT_.out (by kernel_rfl)) (fun _ _ _ h=>h) (Or.inl ⟨by rfl,?_⟩) ?_ ?_;rotate_left
        ·
         intro w';go_simp;with_reducible rfl
        rotate_left
        ·
         simp only [Act.put,List.setIfInBounds_toArray,List.set_cons_zero,List.set_cons_succ,i64_w,i32_w];rfl
        refine pure_ (i:=5) (N:=some 23) (v:=?_) (a':=?_) #[true,true,false,false,true,true,false,false,false,false,false,false,false,false,false,false,false,false,false] rfl rfl (any_of HT_.out (by kernel_rfl)) (fun _ _ _ h=>h) (Or.inl ⟨by rfl,?_⟩) ?_ ?_;rotate_left
        ·
         intro w';go_simp;with_reducible rfl
        rotate_left
        ·
         simp only [Act.put,List.setIfInBounds_toArray,List.set_cons_zero,List.set_cons_succ,i64_w,i32_w];rfl
        refine pure_ (i:=8) (N:=some 26) (v:=?_) (a':=?_) #[true,true,false,false,true,true,false,false,true,false,false,false,false,false,false,false,false,false,false] rfl rfl (any_of HT_.out (by kernel_rfl)) (fun _ _ _ h=>h) (Or.inl ⟨by rfl,?_⟩) ?_ ?_;rotate_left
        ·
         intro w';go_simp;with_reducible rfl
        rotate_left
        ·
         simp only [Act.put,List.setIfInBounds_toArray,List.set_cons_zero,List.set_cons_succ,i64_w,i32_w];rfl
        refine pure_ (i:=9) (N:=some 27) (v:=?_) (a':=?_) #[true,true,false,false,true,true,false,false,true,true,false,false,false,false,false,false,false,false,false] rfl rfl (any_of HT_.out (by kernel_rfl)) (fun _ _ _ h=>h) (Or.inl ⟨by rfl,?_⟩) ?_ ?_;rotate_left
        ·
         intro w';go_simp;with_reducible rfl
        rotate_left
        ·
         simp only [Act.put,List.setIfInBounds_toArray,List.set_cons_zero,List.set_cons_succ,i64_w,i32_w];rfl
        refine pure_ (i:=12) (N:=some 30) (v:=?_) (a':=?_) #[true,true,false,false,true,true,false,false,true,true,false,false,true,false,false,false,false,false,false] rfl rfl (any_of HT_.out (by kernel_rfl)) (fun _ _ _ h=>h) (Or.inl ⟨by rfl,?_⟩) ?_ ?_;rotate_left
        ·
         intro w';go_simp;with_reducible rfl
        rotate_left
        ·
         simp only [Act.put,List.setIfInBounds_toArray,List.set_cons_zero,List.set_cons_succ,i64_w,i32_w];rfl
        refine pure_ (i:=13) (N:=some 31) (v:=?_) (a':=?_) #[true,true,false,false,true,true,false,false,true,true,false,false,true,true,false,false,false,false,false] rfl rfl (any_of HT_.out (by kernel_rfl)) (fun _ _ _ h=>h) (Or.inl ⟨by rfl,?_⟩) ?_ ?_;rotate_left
        ·
         intro w';go_simp;with_reducible rfl
        rotate_left
        ·
         simp only [Act.put,List.setIfInBounds_toArray,List.set_cons_zero,List.set_cons_succ,i64_w,i32_w];rfl
        refine take_ (i:=2) (N:=some 20) (v:=?_) (a':=?_) #[true,true,true,false,true,true,false,false,true,true,false,false,true,true,false,false,false,false,false] rfl rfl (take_ofW HT_.out HW_.out (by kernel_rfl)) (fun _ _ _ h=>h) (Or.inl ⟨by rfl,?_⟩) hHeld ?_ ?_;rotate_left
        ·
         rintro w' ⟨s0,s1,s2,s3⟩;go_simp;with_reducible rfl
        rotate_left
        ·
         simp only [Act.put,List.setIfInBounds_toArray,List.set_cons_zero,List.set_cons_succ,i64_w,i32_w];rfl
        refine pure_ (i:=3) (N:=some 21) (v:=?_) (a':=?_) #[true,true,true,true,true,true,false,false,true,true,false,false,true,true,false,false,false,false,false] rfl rfl (any_of HT_.out (by kernel_rfl)) (fun _ _ _ h=>h) (Or.inl ⟨by rfl,?_⟩) ?_ ?_;rotate_left
        ·
         intro w';go_simp;with_reducible rfl
        rotate_left
        ·
         simp only [Act.put,List.setIfInBounds_toArray,List.set_cons_zero,List.set_cons_succ,i64_w,i32_w];rfl
        refine take_ (i:=6) (N:=some 24) (v:=?_) (a':=?_) #[true,true,true,true,true,true,true,false,true,true,false,false,true,true,false,false,false,false,false] rfl rfl (take_ofW HT_.out HW_.out (by kernel_rfl)) (fun _ _ _ h=>h) (Or.inl ⟨by rfl,?_⟩) hHeld ?_ ?_;rotate_left
        ·
         rintro w' ⟨s0,s1,s2,s3⟩;go_simp;with_reducible rfl
        rotate_left
        ·
         simp only [Act.put,List.setIfInBounds_toArray,List.set_cons_zero,List.set_cons_succ,i64_w,i32_w];rfl
        refine pure_ (i:=7) (N:=some 25) (v:=?_) (a':=?_) #[true,true,true,true,true,true,true,true,true,true,false,false,true,true,false,false,false,false,false] rfl rfl (any_of HT_.out (by kernel_rfl)) (fun _ _ _ h=>h) (Or.inl ⟨by rfl,?_⟩) ?_ ?_;rotate_left
        ·
         intro w';go_simp;with_reducible rfl
        rotate_left
        ·
         simp only [Act.put,List.setIfInBounds_toArray,List.set_cons_zero,List.set_cons_succ,i64_w,i32_w];rfl
        refine take_ (i:=10) (N:=some 28) (v:=?_) (a':=?_) #[true,true,true,true,true,true,true,true,true,true,true,false,true,true,false,false,false,false,false] rfl rfl (take_ofW HT_.out HW_.out (by kernel_rfl)) (fun _ _ _ h=>h) (Or.inl ⟨by rfl,?_⟩) hHeld ?_ ?_;rotate_left
        ·
         rintro w' ⟨s0,s1,s2,s3⟩;go_simp;with_reducible rfl
        rotate_left
        ·
         simp only [Act.put,List.setIfInBounds_toArray,List.set_cons_zero,List.set_cons_succ,i64_w,i32_w];rfl
        refine pure_ (i:=11) (N:=some 29) (v:=?_) (a':=?_) #[true,true,true,true,true,true,true,true,true,true,true,true,true,true,false,false,false,false,false] rfl rfl (any_of HT_.out (by kernel_rfl)) (fun _ _ _ h=>h) (Or.inl ⟨by rfl,?_⟩) ?_ ?_;rotate_left
        ·
         intro w';go_simp;with_reducible rfl
        rotate_left
        ·
         simp only [Act.put,List.setIfInBounds_toArray,List.set_cons_zero,List.set_cons_succ,i64_w,i32_w];rfl
        refine take_ (i:=14) (N:=some 32) (v:=?_) (a':=?_) #[true,true,true,true,true,true,true,true,true,true,true,true,true,true,true,false,false,false,false] rfl rfl (take_ofW HT_.out HW_.out (by kernel_rfl)) (fun _ _ _ h=>h) (Or.inl ⟨by rfl,?_⟩) hHeld ?_ ?_;rotate_left
        ·
         rintro w' ⟨s0,s1,s2,s3⟩;go_simp;with_reducible rfl
        rotate_left
        ·
         simp only [Act.put,List.setIfInBounds_toArray,List.set_cons_zero,List.set_cons_succ,i64_w,i32_w];rfl
        refine pure_ (i:=15) (N:=some 33) (v:=?_) (a':=?_) #[true,true,true,true,true,true,true,true,true,true,true,true,true,true,true,true,false,false,false] rfl rfl (any_of HT_.out (by kernel_rfl)) (fun _ _ _ h=>h) (Or.inl ⟨by rfl,?_⟩) ?_ ?_;rotate_left
        ·
         intro w';go_simp;with_reducible rfl
        rotate_left
        ·
         simp only [Act.put,List.setIfInBounds_toArray,List.set_cons_zero,List.set_cons_succ,i64_w,i32_w];rfl
        refine pure_ (i:=16) (N:=some 34) (v:=?_) (a':=?_) #[true,true,true,true,true,true,true,true,true,true,true,true,true,true,true,true,true,false,false] rfl rfl (any_of HT_.out (by kernel_rfl)) (fun _ _ _ h=>h) (Or.inl ⟨by rfl,?_⟩) ?_ ?_;rotate_left
        ·
         intro w';go_simp;with_reducible rfl
        rotate_left
        ·
         simp only [Act.put,List.setIfInBounds_toArray,List.set_cons_zero,List.set_cons_succ,i64_w,i32_w];rfl
        refine one_ (i:=17) (N:=none) #[true,true,true,true,true,true,true,true,true,true,true,true,true,true,true,true,true,true,false] rfl rfl (one_of HT_.out (by kernel_rfl)) (by decide) (fun K hK=>?_);have hs18:w16.cell? ⟨gb331,0,none⟩=some (.int .i64 0):=(blk_cell BK331.out 0).trans rfl;have hfs18:=blk_frozen BK331.out 0;have hs19:w16.cell? ⟨gb331,1,none⟩=some (.int .i64 0):=(blk_cell BK331.out 1).trans rfl;have hfs19:=blk_frozen BK331.out 1;have hs20:w16.cell? ⟨gb331,2,none⟩=some (.int .i64 0):=(blk_cell BK331.out 2).trans rfl;have hfs20:=blk_frozen BK331.out 2;have hs21:w16.cell? ⟨gb331,3,none⟩=some (.int .i64 0):=(blk_cell BK331.out 3).trans rfl;have hfs21:=blk_frozen BK331.out 3;refine skip_ (w1:=?_) (by rfl) rfl ?_ ?_;rotate_left
        ·
         go_simp;rfl
        refine hK.out _ _ ⟨((cell_far (p:=⟨gb331,_,none⟩) (by first|exact Kd.own_blk (Kd.R_ne HO337.out BK331.out (by decide))|(rw [add_block];exact Kd.own_blk (Kd.R_ne HO337.out BK331.out (by decide)))|(show (Addr.add _ _).block ≠ _;rw [add_block];exact Kd.own_blk (Kd.R_ne HO337.out BK331.out (by decide)))|(dsimp only;exact Kd.own_blk (Kd.R_ne HO337.out BK331.out (by decide)))) _).trans (((cell_far (p:=⟨gb331,_,none⟩) (by first|exact Kd.own_blk (Kd.R_ne HO337.out BK331.out (by decide))|(rw [add_block];exact Kd.own_blk (Kd.R_ne HO337.out BK331.out (by decide)))|(show (Addr.add _ _).block ≠ _;rw [add_block];exact Kd.own_blk (Kd.R_ne HO337.out BK331.out (by decide)))|(dsimp only;exact Kd.own_blk (Kd.R_ne HO337.out BK331.out (by decide)))) _).trans (((cell_far (p:=⟨gb331,_,none⟩) (by first|exact Kd.own_blk (Kd.R_ne HO337.out BK331.out (by decide))|(rw [add_block];exact Kd.own_blk (Kd.R_ne HO337.out BK331.out (by decide)))|(show (Addr.add _ _).block ≠ _;rw [add_block];exact Kd.own_blk (Kd.R_ne HO337.out BK331.out (by decide)))|(dsimp only;exact Kd.own_blk (Kd.R_ne HO337.out BK331.out (by decide)))) _).trans (((cell_far (p:=⟨gb331,_,none⟩) (by first|exact Kd.own_blk (Kd.R_ne HO337.out BK331.out (by decide))|(rw [add_block];exact Kd.own_blk (Kd.R_ne HO337.out BK331.out (by decide)))|(show (Addr.add _ _).block ≠ _;rw [add_block];exact Kd.own_blk (Kd.R_ne HO337.out BK331.out (by decide)))|(dsimp only;exact Kd.own_blk (Kd.R_ne HO337.out BK331.out (by decide)))) _).trans (hHeld.1)))))))),((cell_far (p:=⟨gb331,_,none⟩) (by first|exact Kd.own_blk (Kd.R_ne HO337.out BK331.out (by decide))|(rw [add_block];exact Kd.own_blk (Kd.R_ne HO337.out BK331.out (by decide)))|(show (Addr.add _ _).block ≠ _;rw [add_block];exact Kd.own_blk (Kd.R_ne HO337.out BK331.out (by decide)))|(dsimp only;exact Kd.own_blk (Kd.R_ne HO337.out BK331.out (by decide)))) _).trans (((cell_far (p:=⟨gb331,_,none⟩) (by first|exact Kd.own_blk (Kd.R_ne HO337.out BK331.out (by decide))|(rw [add_block];exact Kd.own_blk (Kd.R_ne HO337.out BK331.out (by decide)))|(show (Addr.add _ _).block ≠ _;rw [add_block];exact Kd.own_blk (Kd.R_ne HO337.out BK331.out (by decide)))|(dsimp only;exact Kd.own_blk (Kd.R_ne HO337.out BK331.out (by decide)))) _).trans (((cell_far (p:=⟨gb331,_,none⟩) (by first|exact Kd.own_blk (Kd.R_ne HO337.out BK331.out (by decide))|(rw [add_block];exact Kd.own_blk (Kd.R_ne HO337.out BK331.out (by decide)))|(show (Addr.add _ _).block ≠ _;rw [add_block];exact Kd.own_blk (Kd.R_ne HO337.out BK331.out (by decide)))|(dsimp only;exact Kd.own_blk (Kd.R_ne HO337.out BK331.out (by decide)))) _).trans (((cell_far (p:=⟨gb331,_,none⟩) (by first|exact Kd.own_blk (Kd.R_ne HO337.out BK331.out (by decide))|(rw [add_block];exact Kd.own_blk (Kd.R_ne HO337.out BK331.out (by decide)))|(show (Addr.add _ _).block ≠ _;rw [add_block];exact Kd.own_blk (Kd.R_ne HO337.out BK331.out (by decide)))|(dsimp only;exact Kd.own_blk (Kd.R_ne HO337.out BK331.out (by decide)))) _).trans (hHeld.2.1)))))))),((cell_far (p:=⟨gb331,_,none⟩) (by first|exact Kd.own_blk (Kd.R_ne HO337.out BK331.out (by decide))|(rw [add_block];exact Kd.own_blk (Kd.R_ne HO337.out BK331.out (by decide)))|(show (Addr.add _ _).block ≠ _;rw [add_block];exact Kd.own_blk (Kd.R_ne HO337.out BK331.out (by decide)))|(dsimp only;exact Kd.own_blk (Kd.R_ne HO337.out BK331.out (by decide)))) _).trans (((cell_far (p:=⟨gb331,_,none⟩) (by first|exact Kd.own_blk (Kd.R_ne HO337.out BK331.out (by decide))|(rw [add_block];exact Kd.own_blk (Kd.R_ne HO337.out BK331.out (by decide)))|(show (Addr.add _ _).block ≠ _;rw [add_block];exact Kd.own_blk (Kd.R_ne HO337.out BK331.out (by decide)))|(dsimp only;exact Kd.own_blk (Kd.R_ne HO337.out BK331.out (by decide)))) _).trans (((cell_far (p:=⟨gb331,_,none⟩) (by first|exact Kd.own_blk (Kd.R_ne HO337.out BK331.out (by decide))|(rw [add_block];exact Kd.own_blk (Kd.R_ne HO337.out BK331.out (by decide)))|(show (Addr.add _ _).block ≠ _;rw [add_block];exact Kd.own_blk (Kd.R_ne HO337.out BK331.out (by decide)))|(dsimp only;exact Kd.own_blk (Kd.R_ne HO337.out BK331.out (by decide)))) _).trans (((cell_far (p:=⟨gb331,_,none⟩) (by first|exact Kd.own_blk (Kd.R_ne HO337.out BK331.out (by decide))|(rw [add_block];exact Kd.own_blk (Kd.R_ne HO337.out BK331.out (by decide)))|(show (Addr.add _ _).block ≠ _;rw [add_block];exact Kd.own_blk (Kd.R_ne HO337.out BK331.out (by decide)))|(dsimp only;exact Kd.own_blk (Kd.R_ne HO337.out BK331.out (by decide)))) _).trans (hHeld.2.2.1)))))))),((cell_far (p:=⟨gb331,_,none⟩) (by first|exact Kd.own_blk (Kd.R_ne HO337.out BK331.out (by decide))|(rw [add_block];exact Kd.own_blk (Kd.R_ne HO337.out BK331.out (by decide)))|(show (Addr.add _ _).block ≠ _;rw [add_block];exact Kd.own_blk (Kd.R_ne HO337.out BK331.out (by decide)))|(dsimp only;exact Kd.own_blk (Kd.R_ne HO337.out BK331.out (by decide)))) _).trans (((cell_far (p:=⟨gb331,_,none⟩) (by first|exact Kd.own_blk (Kd.R_ne HO337.out BK331.out (by decide))|(rw [add_block];exact Kd.own_blk (Kd.R_ne HO337.out BK331.out (by decide)))|(show (Addr.add _ _).block ≠ _;rw [add_block];exact Kd.own_blk (Kd.R_ne HO337.out BK331.out (by decide)))|(dsimp only;exact Kd.own_blk (Kd.R_ne HO337.out BK331.out (by decide)))) _).trans (((cell_far (p:=⟨gb331,_,none⟩) (by first|exact Kd.own_blk (Kd.R_ne HO337.out BK331.out (by decide))|(rw [add_block];exact Kd.own_blk (Kd.R_ne HO337.out BK331.out (by decide)))|(show (Addr.add _ _).block ≠ _;rw [add_block];exact Kd.own_blk (Kd.R_ne HO337.out BK331.out (by decide)))|(dsimp only;exact Kd.own_blk (Kd.R_ne HO337.out BK331.out (by decide)))) _).trans (((cell_far (p:=⟨gb331,_,none⟩) (by first|exact Kd.own_blk (Kd.R_ne HO337.out BK331.out (by decide))|(rw [add_block];exact Kd.own_blk (Kd.R_ne HO337.out BK331.out (by decide)))|(show (Addr.add _ _).block ≠ _;rw [add_block];exact Kd.own_blk (Kd.R_ne HO337.out BK331.out (by decide)))|(dsimp only;exact Kd.own_blk (Kd.R_ne HO337.out BK331.out (by decide)))) _).trans (hHeld.2.2.2))))))))⟩ (fun hHeld=>?_)
        clear hK K;refine pure_ (i:=18) (N:=some 3) (v:=?_) (a':=?_) #[true,true,true,true,true,true,true,true,true,true,true,true,true,true,true,true,true,true,true] rfl rfl (any_of HT_.out (by kernel_rfl)) (fun _ _ _ h=>h) (Or.inl ⟨by rfl,?_⟩) ?_ ?_;rotate_left
        ·
         intro w';go_simp;with_reducible rfl
        rotate_left
        ·
         simp only [Act.put,List.setIfInBounds_toArray,List.set_cons_zero,List.set_cons_succ,i64_w,i32_w];rfl
        refine done_ (done_of HT_.out (by kernel_rfl)) ?_;try go_wp2
        refine bodyPost_ret (results_ct rfl _ _ gb331 23 #[.int .i64 (wrap64 (2 * (rd t335 0))),.int .i64 (wrap64 (2 * (rd t335 1))),.int .i64 (wrap64 (2 * (rd t335 2))),.int .i64 (wrap64 (2 * (rd t335 3)))] (0,0) _ rfl (by refine blk_put (cs:=#[.int .i64 (wrap64 (2 * (rd t335 0))),.int .i64 (wrap64 (2 * (rd t335 1))),.int .i64 (wrap64 (2 * (rd t335 2))),.int .i64 0]) ?_ 3 _ rfl;refine blk_put (cs:=#[.int .i64 (wrap64 (2 * (rd t335 0))),.int .i64 (wrap64 (2 * (rd t335 1))),.int .i64 0,.int .i64 0]) ?_ 2 _ rfl;refine blk_put (cs:=#[.int .i64 (wrap64 (2 * (rd t335 0))),.int .i64 0,.int .i64 0,.int .i64 0]) ?_ 1 _ rfl;refine blk_put (cs:=#[.int .i64 0,.int .i64 0,.int .i64 0,.int .i64 0]) ?_ 0 _ rfl;exact BK331.out) Try.underlying23 rfl (by kernel_rfl)) rfl ?_;exact ⟨by first|rfl|(simp [errW_none,errW_some] <;> rfl)|(simp [*,errW_none,errW_some] <;> rfl),by repeat (first|(with_reducible first|exact HB.out|apply below_alloc|apply pw_below_drewN|apply below_drew1|refine below_set ?_ GE331.out)|exact HB.out)⟩
       ·
        rw [if_neg c14] at H;exact absurd H (by simp)
      ·
       rw [if_neg c13] at H;exact absurd H (by simp)
     ·
      rw [if_neg c12] at H;exact absurd H (by simp)
    ·
     rw [if_neg c11] at H;exact absurd H (by simp)
/-! ### bellpulllaw04_lives: function 19 -/
def bellpulllaw04_lives.f (k:Nat) :Option (Bool):=(norm_Mul.f k 0 2 0 0 0 0 2 0).bind fun bt342=>((norm_Norm.f k 1 1 1 1).bind fun bt348=>((norm_Four.f k 7).bind fun bt350=>((norm_Three.f k 7).bind fun bt354=>((norm_Count.f k 4).bind fun bt358=>((norm_Hurwitz.f k 2).bind fun bt360=>((norm_Split.f k 5).bind fun bt362=>((norm_Gcd.f k 4 0 0 0 2 2 0 0).bind fun bt368=>((norm_Divide.f k 4 0 0 0 2 2 0 0).bind fun bt374=>(if (bt342.1 == 0 && (bt342.2.1 == 0 && (bt342.2.2.1 == 0 && (bt342.2.2.2.1 == 2))))=true then (if bt342.2.2.2.2=0 then (if bt348.1=1 then (if bt348.2=0 then ((bellpullref01_Same.f k bt350.1 (([2,1,1,1]:List Int))).bind fun t388=>(if t388=true then (if bt350.2=0 then (if bt354.2=5 then (if bt358.1=24 then (if bt358.2=0 then (if bt360.1=24 then (if bt360.2=0 then (if (bt362.1 == 4 && (bt362.2.1 == 2 && (bt362.2.2.1 == 0 && (bt362.2.2.2.1 == 0))))=true then (if bt362.2.2.2.2=0 then (if (bt368.1 == 2 && (bt368.2.1 == 2 && (bt368.2.2.1 == 0 && (bt368.2.2.2.1 == 0))))=true then (if bt368.2.2.2.2=0 then (if (bt374.1 == 2 && (bt374.2.1 == (-2) && (bt374.2.2.1 == 0 && (bt374.2.2.2.1 == 0))))=true then (if (bt374.2.2.2.2.1 == 0 && (bt374.2.2.2.2.2.1 == 0 && (bt374.2.2.2.2.2.2.1 == 0 && (bt374.2.2.2.2.2.2.2.1 == 0))))=true then (some (bt374.2.2.2.2.2.2.2.2 == 0)) else (none)) else (none)) else (none)) else (none)) else (none)) else (none)) else (none)) else (none)) else (none)) else (none)) else (none)) else (none)) else (none))) else (none)) else (none)) else (none)) else (none))))))))))
theorem bellpulllaw04_lives.mono:∀ k,LeO (bellpulllaw04_lives.f k ) (bellpulllaw04_lives.f (k + 1) ):=by
  intro  k
  unfold bellpulllaw04_lives.f
  with_reducible repeat' first|exact bellpullref01_Same.mono _ _ _|exact norm_Count.mono _ _|exact norm_Divide.mono _ _ _ _ _ _ _ _ _|exact norm_Four.mono _ _|exact norm_Gcd.mono _ _ _ _ _ _ _ _ _|exact norm_Hurwitz.mono _ _|exact norm_Mul.mono _ _ _ _ _ _ _ _ _|exact norm_Norm.mono _ _ _ _ _|exact norm_Split.mono _ _|exact norm_Three.mono _ _|exact LeO.refl _|exact LeO.none _|refine LeO.ite ?_ ?_|refine LeO.bind ?_ (fun _=>?_)
set_option maxHeartbeats 8000000 in
set_option maxRecDepth 100000 in
theorem bellpulllaw04_lives.calls (k:Nat)  (r:Bool) (w:World) (h:bellpulllaw04_lives.f k =some r) :
    Calls Try.prog 19 #[] w fun e w'=>e=.returned (.bool r)∧Below w.heap.size w w':=by
 have hu23:=Try.underlying23;have HB:=mk0 (Below.refl w.heap.size w);have H:((norm_Mul.f k 0 2 0 0 0 0 2 0).bind fun bt342=>((norm_Norm.f k 1 1 1 1).bind fun bt348=>((norm_Four.f k 7).bind fun bt350=>((norm_Three.f k 7).bind fun bt354=>((norm_Count.f k 4).bind fun bt358=>((norm_Hurwitz.f k 2).bind fun bt360=>((norm_Split.f k 5).bind fun bt362=>((norm_Gcd.f k 4 0 0 0 2 2 0 0).bind fun bt368=>((norm_Divide.f k 4 0 0 0 2 2 0 0).bind fun bt374=>(if (bt342.1 == 0 && (bt342.2.1 == 0 && (bt342.2.2.1 == 0 && (bt342.2.2.2.1 == 2))))=true then (if bt342.2.2.2.2=0 then (if bt348.1=1 then (if bt348.2=0 then ((bellpullref01_Same.f k bt350.1 (([2,1,1,1]:List Int))).bind fun t388=>(if t388=true then (if bt350.2=0 then (if bt354.2=5 then (if bt358.1=24 then (if bt358.2=0 then (if bt360.1=24 then (if bt360.2=0 then (if (bt362.1 == 4 && (bt362.2.1 == 2 && (bt362.2.2.1 == 0 && (bt362.2.2.2.1 == 0))))=true then (if bt362.2.2.2.2=0 then (if (bt368.1 == 2 && (bt368.2.1 == 2 && (bt368.2.2.1 == 0 && (bt368.2.2.2.1 == 0))))=true then (if bt368.2.2.2.2=0 then (if (bt374.1 == 2 && (bt374.2.1 == (-2) && (bt374.2.2.1 == 0 && (bt374.2.2.2.1 == 0))))=true then (if (bt374.2.2.2.2.1 == 0 && (bt374.2.2.2.2.2.1 == 0 && (bt374.2.2.2.2.2.2.1 == 0 && (bt374.2.2.2.2.2.2.2.1 == 0))))=true then (some (bt374.2.2.2.2.2.2.2.2 == 0)) else (none)) else (none)) else (none)) else (none)) else (none)) else (none)) else (none)) else (none)) else (none)) else (none)) else (none)) else (none)) else (none))) else (none)) else (none)) else (none)) else (none)))))))))))=some r:=h;clear h;replace H:=Option.bind_eq_some_iff.mp H;obtain ⟨⟨t342,t343,t344,t345,t346⟩,A10,H⟩:=H;(try dsimp only at H);have A1:=mk0 A10;clear A10;replace H:=Option.bind_eq_some_iff.mp H;obtain ⟨⟨t348,t349⟩,A20,H⟩:=H;(try dsimp only at H);have A2:=mk0 A20;clear A20;replace H:=Option.bind_eq_some_iff.mp H;obtain ⟨⟨t350,t351⟩,A30,H⟩:=H;(try dsimp only at H);have A3:=mk0 A30;clear A30;replace H:=Option.bind_eq_some_iff.mp H;obtain ⟨⟨t354,t355⟩,A40,H⟩:=H;(try dsimp only at H);have A4:=mk0 A40;clear A40;replace H:=Option.bind_eq_some_iff.mp H;obtain ⟨⟨t358,t359⟩,A50,H⟩:=H;(try dsimp only at H);have A5:=mk0 A50;clear A50;replace H:=Option.bind_eq_some_iff.mp H;obtain ⟨⟨t360,t361⟩,A60,H⟩:=H;(try dsimp only at H);have A6:=mk0 A60;clear A60;replace H:=Option.bind_eq_some_iff.mp H;obtain ⟨⟨t362,t363,t364,t365,t366⟩,A70,H⟩:=H;(try dsimp only at H);have A7:=mk0 A70;clear A70;replace H:=Option.bind_eq_some_iff.mp H;obtain ⟨⟨t368,t369,t370,t371,t372⟩,A80,H⟩:=H;(try dsimp only at H);have A8:=mk0 A80;clear A80;replace H:=Option.bind_eq_some_iff.mp H;obtain ⟨⟨t374,t375,t376,t377,t378,t379,t380,t381,t382⟩,A90,H⟩:=H;(try dsimp only at H);have A9:=mk0 A90;clear A90
 by_cases c10:(t342 == 0 && (t343 == 0 && (t344 == 0 && (t345 == 2))))=true
 ·
  rw [if_pos c10] at H;have c10b0:(t342 == 0 && (t343 == 0 && (t344 == 0 && (t345 == 2))))=true:=c10;(try (have c10b1:decide (t342=0 && (t343 == 0 && (t344 == 0 && (t345 == 2))))=true:=by simpa using c10));(try (have c10b2:(t342 == 0 && (t343 == 0 && (t344 == 0 && (t345 == 2))))=true:=by simpa using c10));clear c10
  by_cases c11:t346=0
  ·
   rw [if_pos c11] at H;have c11b0:(t346 == 0)=true:=beq_iff_eq.mpr c11;have c11b1:(t346 != 0)=false:=bne_eq_false_iff_eq.mpr c11;clear c11
   by_cases c12:t348=1
   ·
    rw [if_pos c12] at H;have c12b0:(t348 == 1)=true:=beq_iff_eq.mpr c12;have c12b1:(t348 != 1)=false:=bne_eq_false_iff_eq.mpr c12;clear c12
    by_cases c13:t349=0
    ·
     rw [if_pos c13] at H;have c13b0:(t349 == 0)=true:=beq_iff_eq.mpr c13;have c13b1:(t349 != 0)=false:=bne_eq_false_iff_eq.mpr c13;clear c13;obtain ⟨y385,hy385⟩:∃ y_:List Int,y_=(([2,1,1,1]:List Int)):=⟨_,rfl⟩
     replace H:((bellpullref01_Same.f k t350 y385).bind fun t388=>(if t388=true then (if t351=0 then (if t355=5 then (if t358=24 then (if t359=0 then (if t360=24 then (if t361=0 then (if (t362 == 4 && (t363 == 2 && (t364 == 0 && (t365 == 0))))=true then (if t366=0 then (if (t368 == 2 && (t369 == 2 && (t370 == 0 && (t371 == 0))))=true then (if t372=0 then (if (t374 == 2 && (t375 == (-2) && (t376 == 0 && (t377 == 0))))=true then (if (t378 == 0 && (t379 == 0 && (t380 == 0 && (t381 == 0))))=true then (some (t382 == 0)) else (none)) else (none)) else (none)) else (none)) else (none)) else (none)) else (none)) else (none)) else (none)) else (none)) else (none)) else (none)) else (none)))=some r:=by first|(rw [hy385];with_reducible exact H)|(have H2_:=(Option.bind_some _ _).symm.trans H;rw [hy385];with_reducible exact H2_)|(have H2_:=(Option.bind_some _ _).symm.trans H;with_reducible exact H2_)|with_reducible exact H|(rw [hy385];exact H)|exact H
     have Ny385:=mk0 hy385;clear hy385;replace H:=Option.bind_eq_some_iff.mp H;obtain ⟨t388,A140,H⟩:=H;(try dsimp only at H);have A14:=mk0 A140;clear A140
     by_cases c15:t388=true
     ·
      subst c15;have H1:(if t351=0 then (if t355=5 then (if t358=24 then (if t359=0 then (if t360=24 then (if t361=0 then (if (t362 == 4 && (t363 == 2 && (t364 == 0 && (t365 == 0))))=true then (if t366=0 then (if (t368 == 2 && (t369 == 2 && (t370 == 0 && (t371 == 0))))=true then (if t372=0 then (if (t374 == 2 && (t375 == (-2) && (t376 == 0 && (t377 == 0))))=true then (if (t378 == 0 && (t379 == 0 && (t380 == 0 && (t381 == 0))))=true then (some (t382 == 0)) else (none)) else (none)) else (none)) else (none)) else (none)) else (none)) else (none)) else (none)) else (none)) else (none)) else (none)) else (none))=some r:=by rw [if_pos rfl] at H;exact H
      clear H;have H:=H1;clear H1
      by_cases c16:t351=0
      ·
       rw [if_pos c16] at H;have c16b0:(t351 == 0)=true:=beq_iff_eq.mpr c16;have c16b1:(t351 != 0)=false:=bne_eq_false_iff_eq.mpr c16;clear c16
       by_cases c17:t355=5
       ·
        rw [if_pos c17] at H;have c17b0:(t355 == 5)=true:=beq_iff_eq.mpr c17;have c17b1:(t355 != 5)=false:=bne_eq_false_iff_eq.mpr c17;clear c17
        by_cases c18:t358=24
        ·
         rw [if_pos c18] at H;have c18b0:(t358 == 24)=true:=beq_iff_eq.mpr c18;have c18b1:(t358 != 24)=false:=bne_eq_false_iff_eq.mpr c18;clear c18
         by_cases c19:t359=0
         ·
          rw [if_pos c19] at H;have c19b0:(t359 == 0)=true:=beq_iff_eq.mpr c19;have c19b1:(t359 != 0)=false:=bne_eq_false_iff_eq.mpr c19;clear c19
          by_cases c20:t360=24
          ·
           rw [if_pos c20] at H;have c20b0:(t360 == 24)=true:=beq_iff_eq.mpr c20;have c20b1:(t360 != 24)=false:=bne_eq_false_iff_eq.mpr c20;clear c20
           by_cases c21:t361=0
           ·
            rw [if_pos c21] at H;have c21b0:(t361 == 0)=true:=beq_iff_eq.mpr c21;have c21b1:(t361 != 0)=false:=bne_eq_false_iff_eq.mpr c21;clear c21
            by_cases c22:(t362 == 4 && (t363 == 2 && (t364 == 0 && (t365 == 0))))=true
            ·
             rw [if_pos c22] at H;have c22b0:(t362 == 4 && (t363 == 2 && (t364 == 0 && (t365 == 0))))=true:=c22;(try (have c22b1:decide (t362=4 && (t363 == 2 && (t364 == 0 && (t365 == 0))))=true:=by simpa using c22));(try (have c22b2:(t362 == 4 && (t363 == 2 && (t364 == 0 && (t365 == 0))))=true:=by simpa using c22));clear c22
             by_cases c23:t366=0
             ·
              rw [if_pos c23] at H;have c23b0:(t366 == 0)=true:=beq_iff_eq.mpr c23;have c23b1:(t366 != 0)=false:=bne_eq_false_iff_eq.mpr c23;clear c23
              by_cases c24:(t368 == 2 && (t369 == 2 && (t370 == 0 && (t371 == 0))))=true
              ·
               rw [if_pos c24] at H;have c24b0:(t368 == 2 && (t369 == 2 && (t370 == 0 && (t371 == 0))))=true:=c24;(try (have c24b1:decide (t368=2 && (t369 == 2 && (t370 == 0 && (t371 == 0))))=true:=by simpa using c24));(try (have c24b2:(t368 == 2 && (t369 == 2 && (t370 == 0 && (t371 == 0))))=true:=by simpa using c24));clear c24
               by_cases c25:t372=0
               ·
                rw [if_pos c25] at H;have c25b0:(t372 == 0)=true:=beq_iff_eq.mpr c25;have c25b1:(t372 != 0)=false:=bne_eq_false_iff_eq.mpr c25;clear c25
                by_cases c26:(t374 == 2 && (t375 == (-2) && (t376 == 0 && (t377 == 0))))=true
                ·
                 rw [if_pos c26] at H;have c26b0:(t374 == 2 && (t375 == (-2) && (t376 == 0 && (t377 == 0))))=true:=c26;(try (have c26b1:decide (t374=2 && (t375 == (-2) && (t376 == 0 && (t377 == 0))))=true:=by simpa using c26));(try (have c26b2:(t374 == 2 && (t375 == (-2) && (t376 == 0 && (t377 == 0))))=true:=by simpa using c26));clear c26
                 by_cases c27:(t378 == 0 && (t379 == 0 && (t380 == 0 && (t381 == 0))))=true
                 ·
                  rw [if_pos c27] at H;have c27b0:(t378 == 0 && (t379 == 0 && (t380 == 0 && (t381 == 0))))=true:=c27;(try (have c27b1:decide (t378=0 && (t379 == 0 && (t380 == 0 && (t381 == 0))))=true:=by simpa using c27));(try (have c27b2:(t378 == 0 && (t379 == 0 && (t380 == 0 && (t381 == 0))))=true:=by simpa using c27));clear c27;obtain rfl:=Option.some.inj H;(go_enter Try.func19,Try.ntmps19);dsimp only [List.append];go_wp2_with (first|((with_reducible refine gate_callee (f:=38) rfl ?_);refine goesL_ (some 23) rfl rfl Try.func38 (by kernel_rfl) rfl #[.agg #[.int .i64 0,.int .i64 2,.int .i64 0,.int .i64 0],.agg #[.int .i64 0,.int .i64 0,.int .i64 2,.int .i64 0]] rfl (by (try simp only [List.map_toArray,List.map_cons,List.map_nil]);first|done|rfl|(simp only [List.length_drop,List.length_take];rfl)) ?_;(with_reducible refine (norm_Mul.calls k 0 2 0 0 0 0 2 0 t342 t343 t344 t345 t346 _ A1.out).mono ?_);rintro e w28 ⟨rfl,hb⟩;refine ⟨_,rfl,?_⟩;replace HB:=mk0 (below_step (by repeat (first|(with_reducible first|exact HB.out|apply below_alloc|apply pw_below_drewN|apply below_drew1)|exact HB.out)) hb);(try clear hb);(try clear hk))|((with_reducible refine gate_dst (N:=1) rfl ?_);(try (refine gate_guard (by rfl) ?_;dsimp only));refine box_event ?hg (N:=1) ?hd (cs:=#[.int .i64 0,.int .i64 0,.int .i64 0,.int .i64 0]) (t:=23) ?hr ?_;(case hd=>rfl);(case hg=>rfl);(case hr=>first|(go_simp;done)|(go_simp;rfl));intro gb347 hg w29 hbox hb;have BK347:=mk0 (hbox);have GW347:=mk0 ((by rw [hg];exact (below_size (by repeat (first|(with_reducible first|exact HB.out|apply below_alloc|apply pw_below_drewN|apply below_drew1)|exact HB.out))):w.heap.size ≤ gb347));have GE347:=mk0 ((by rw [hg];exact (below_size (by repeat (first|(with_reducible first|exact HB.out|apply below_alloc|apply pw_below_drewN|apply below_drew1)|exact HB.out))):w.heap.size ≤ gb347));replace HB:=mk0 (below_step (by repeat (first|(with_reducible first|exact HB.out|apply below_alloc|apply pw_below_drewN|apply below_drew1)|exact HB.out)) hb);clear hb hbox hg;have hcz30_0:w29.cell? ⟨gb347,0,none⟩=some (.int .i64 0):=(blk_cell BK347.out 0).trans rfl;have hcz30_1:w29.cell? ⟨gb347,1,none⟩=some (.int .i64 0):=(blk_cell BK347.out 1).trans rfl;have hcz30_2:w29.cell? ⟨gb347,2,none⟩=some (.int .i64 0):=(blk_cell BK347.out 2).trans rfl;have hcz30_3:w29.cell? ⟨gb347,3,none⟩=some (.int .i64 0):=(blk_cell BK347.out 3).trans rfl;have hfz30_0:=blk_frozen BK347.out 0;have hfz30_1:=blk_frozen BK347.out 1;have hfz30_2:=blk_frozen BK347.out 2;have hfz30_3:=blk_frozen BK347.out 3)|((with_reducible refine gate_callee (f:=40) rfl ?_);refine goesL_ (some 28) rfl rfl Try.func40 (by kernel_rfl) rfl #[.agg #[.int .i64 1,.int .i64 1,.int .i64 1,.int .i64 1]] rfl (by (try simp only [List.map_toArray,List.map_cons,List.map_nil]);first|done|rfl|(simp only [List.length_drop,List.length_take];rfl)) ?_;(with_reducible refine (norm_Norm.calls k 1 1 1 1 t348 t349 _ A2.out).mono ?_);rintro e w31 ⟨rfl,hb⟩;refine ⟨_,rfl,?_⟩;replace BK347:=mk0 (blk_below (g:=gb347) (o:=.cells #[.int .i64 t342,.int .i64 t343,.int .i64 t344,.int .i64 t345] 23 (0,0)) (by (with_reducible repeat (first|refine blk_drewN ?_ _|refine blk_drew ?_|refine blk_alloc ?_ _));refine blk_put (cs:=#[.int .i64 t342,.int .i64 t343,.int .i64 t344,.int .i64 0]) ?_ 3 _ rfl;(with_reducible repeat (first|refine blk_drewN ?_ _|refine blk_drew ?_|refine blk_alloc ?_ _));refine blk_put (cs:=#[.int .i64 t342,.int .i64 t343,.int .i64 0,.int .i64 0]) ?_ 2 _ rfl;(with_reducible repeat (first|refine blk_drewN ?_ _|refine blk_drew ?_|refine blk_alloc ?_ _));refine blk_put (cs:=#[.int .i64 t342,.int .i64 0,.int .i64 0,.int .i64 0]) ?_ 1 _ rfl;(with_reducible repeat (first|refine blk_drewN ?_ _|refine blk_drew ?_|refine blk_alloc ?_ _));refine blk_put (cs:=#[.int .i64 0,.int .i64 0,.int .i64 0,.int .i64 0]) ?_ 0 _ rfl;(with_reducible repeat (first|refine blk_drewN ?_ _|refine blk_drew ?_|refine blk_alloc ?_ _));exact BK347.out) hb);replace HB:=mk0 (below_step (by repeat (first|(with_reducible first|exact HB.out|apply below_alloc|apply pw_below_drewN|apply below_drew1|refine below_set ?_ GE347.out)|exact HB.out)) hb);(try clear hb);(try clear hk))|((with_reducible refine gate_callee (f:=23) rfl ?_);refine goesL_ (some 32) rfl rfl Try.func23 (by kernel_rfl) rfl #[.int .i64 7] rfl (by (try simp only [List.map_toArray,List.map_cons,List.map_nil]);first|done|rfl|(simp only [List.length_drop,List.length_take];rfl)) ?_;(with_reducible refine (norm_Four.calls k 7 t350 t351 _ A3.out).mono ?_);rintro e w32 ⟨v352,rfl,ho0,hb⟩;refine ⟨_,rfl,?_⟩;have HO353:=mk0 (Kd.R_lower ho0 (below_size (by repeat (first|(with_reducible first|exact HB.out|apply below_alloc|apply pw_below_drewN|apply below_drew1|refine below_set ?_ GE347.out)|exact HB.out))));replace BK347:=mk0 (blk_below (g:=gb347) (o:=.cells #[.int .i64 t342,.int .i64 t343,.int .i64 t344,.int .i64 t345] 23 (0,0)) (by (with_reducible repeat (first|refine blk_drewN ?_ _|refine blk_drew ?_|refine blk_alloc ?_ _));exact BK347.out) hb);replace HB:=mk0 (below_step (by repeat (first|(with_reducible first|exact HB.out|apply below_alloc|apply pw_below_drewN|apply below_drew1|refine below_set ?_ GE347.out)|exact HB.out)) hb);(try clear hb);(try clear hk);(try clear ho0))|((with_reducible refine gate_callee (f:=24) rfl ?_);refine goesL_ (some 36) rfl rfl Try.func24 (by kernel_rfl) rfl #[.int .i64 7] rfl (by (try simp only [List.map_toArray,List.map_cons,List.map_nil]);first|done|rfl|(simp only [List.length_drop,List.length_take];rfl)) ?_;(with_reducible refine (norm_Three.calls k 7 t354 t355 _ A4.out).mono ?_);rintro e w33 ⟨v356,rfl,ho0,hb⟩;refine ⟨_,rfl,?_⟩;have HO357:=mk0 (Kd.R_lower (Kd.R_new' ho0 (Kd.R_lt (by (with_reducible repeat (first|apply Kd.R_alloc|apply Kd.R_drewN|apply Kd.R_drew));exact HO353.out))) (below_size (by repeat (first|(with_reducible first|exact HB.out|apply below_alloc|apply pw_below_drewN|apply below_drew1|refine below_set ?_ GE347.out)|exact HB.out))));replace HO353:=mk0 (Kd.R_elder' (by (with_reducible repeat (first|apply Kd.R_alloc|apply Kd.R_drewN|apply Kd.R_drew));exact HO353.out) (Kd.R_base ho0) hb);replace BK347:=mk0 (blk_below (g:=gb347) (o:=.cells #[.int .i64 t342,.int .i64 t343,.int .i64 t344,.int .i64 t345] 23 (0,0)) (by (with_reducible repeat (first|refine blk_drewN ?_ _|refine blk_drew ?_|refine blk_alloc ?_ _));exact BK347.out) hb);replace HB:=mk0 (below_step (by repeat (first|(with_reducible first|exact HB.out|apply below_alloc|apply pw_below_drewN|apply below_drew1|refine below_set ?_ GE347.out)|exact HB.out)) hb);(try clear hb);(try clear hk);(try clear ho0))|((with_reducible refine gate_callee (f:=28) rfl ?_);refine goesL_ (some 40) rfl rfl Try.func28 (by kernel_rfl) rfl #[.int .i64 4] rfl (by (try simp only [List.map_toArray,List.map_cons,List.map_nil]);first|done|rfl|(simp only [List.length_drop,List.length_take];rfl)) ?_;(with_reducible refine (norm_Count.calls k 4 t358 t359 _ A5.out).mono ?_);rintro e w34 ⟨rfl,hb⟩;refine ⟨_,rfl,?_⟩;replace HO353:=mk0 (Kd.R_below (by (with_reducible repeat (first|apply Kd.R_alloc|apply Kd.R_drewN|apply Kd.R_drew));exact HO353.out) hb);replace HO357:=mk0 (Kd.R_below (by (with_reducible repeat (first|apply Kd.R_alloc|apply Kd.R_drewN|apply Kd.R_drew));exact HO357.out) hb);replace BK347:=mk0 (blk_below (g:=gb347) (o:=.cells #[.int .i64 t342,.int .i64 t343,.int .i64 t344,.int .i64 t345] 23 (0,0)) (by (with_reducible repeat (first|refine blk_drewN ?_ _|refine blk_drew ?_|refine blk_alloc ?_ _));exact BK347.out) hb);replace HB:=mk0 (below_step (by repeat (first|(with_reducible first|exact HB.out|apply below_alloc|apply pw_below_drewN|apply below_drew1|refine below_set ?_ GE347.out)|exact HB.out)) hb);(try clear hb);(try clear hk))|((with_reducible refine gate_callee (f:=29) rfl ?_);refine goesL_ (some 44) rfl rfl Try.func29 (by kernel_rfl) rfl #[.int .i64 2] rfl (by (try simp only [List.map_toArray,List.map_cons,List.map_nil]);first|done|rfl|(simp only [List.length_drop,List.length_take];rfl)) ?_;(with_reducible refine (norm_Hurwitz.calls k 2 t360 t361 _ A6.out).mono ?_);rintro e w35 ⟨rfl,hb⟩;refine ⟨_,rfl,?_⟩;replace HO353:=mk0 (Kd.R_below (by (with_reducible repeat (first|apply Kd.R_alloc|apply Kd.R_drewN|apply Kd.R_drew));exact HO353.out) hb);replace HO357:=mk0 (Kd.R_below (by (with_reducible repeat (first|apply Kd.R_alloc|apply Kd.R_drewN|apply Kd.R_drew));exact HO357.out) hb);replace BK347:=mk0 (blk_below (g:=gb347) (o:=.cells #[.int .i64 t342,.int .i64 t343,.int .i64 t344,.int .i64 t345] 23 (0,0)) (by (with_reducible repeat (first|refine blk_drewN ?_ _|refine blk_drew ?_|refine blk_alloc ?_ _));exact BK347.out) hb);replace HB:=mk0 (below_step (by repeat (first|(with_reducible first|exact HB.out|apply below_alloc|apply pw_below_drewN|apply below_drew1|refine below_set ?_ GE347.out)|exact HB.out)) hb);(try clear hb);(try clear hk))|((with_reducible refine gate_callee (f:=44) rfl ?_);refine goesL_ (some 48) rfl rfl Try.func44 (by kernel_rfl) rfl #[.int .i64 5] rfl (by (try simp only [List.map_toArray,List.map_cons,List.map_nil]);first|done|rfl|(simp only [List.length_drop,List.length_take];rfl)) ?_;(with_reducible refine (norm_Split.calls k 5 t362 t363 t364 t365 t366 _ A7.out).mono ?_);rintro e w36 ⟨rfl,hb⟩;refine ⟨_,rfl,?_⟩;replace HO353:=mk0 (Kd.R_below (by (with_reducible repeat (first|apply Kd.R_alloc|apply Kd.R_drewN|apply Kd.R_drew));exact HO353.out) hb);replace HO357:=mk0 (Kd.R_below (by (with_reducible repeat (first|apply Kd.R_alloc|apply Kd.R_drewN|apply Kd.R_drew));exact HO357.out) hb);replace BK347:=mk0 (blk_below (g:=gb347) (o:=.cells #[.int .i64 t342,.int .i64 t343,.int .i64 t344,.int .i64 t345] 23 (0,0)) (by (with_reducible repeat (first|refine blk_drewN ?_ _|refine blk_drew ?_|refine blk_alloc ?_ _));exact BK347.out) hb);replace HB:=mk0 (below_step (by repeat (first|(with_reducible first|exact HB.out|apply below_alloc|apply pw_below_drewN|apply below_drew1|refine below_set ?_ GE347.out)|exact HB.out)) hb);(try clear hb);(try clear hk))|((with_reducible refine gate_dst (N:=13) rfl ?_);(try (refine gate_guard (by rfl) ?_;dsimp only));refine box_event ?hg (N:=13) ?hd (cs:=#[.int .i64 0,.int .i64 0,.int .i64 0,.int .i64 0]) (t:=23) ?hr ?_;(case hd=>rfl);(case hg=>rfl);(case hr=>first|(go_simp;done)|(go_simp;rfl));intro gb367 hg w37 hbox hb;have BK367:=mk0 (hbox);have GW367:=mk0 ((by rw [hg];exact (below_size (by repeat (first|(with_reducible first|exact HB.out|apply below_alloc|apply pw_below_drewN|apply below_drew1|refine below_set ?_ GE347.out)|exact HB.out))):w.heap.size ≤ gb367));have GE367:=mk0 ((by rw [hg];exact (below_size (by repeat (first|(with_reducible first|exact HB.out|apply below_alloc|apply pw_below_drewN|apply below_drew1|refine below_set ?_ GE347.out)|exact HB.out))):w.heap.size ≤ gb367));have NB347_367:=mk0 ((by rw [hg];exact Nat.ne_of_lt (blk_lt (g:=gb347) (o:=.cells #[.int .i64 t342,.int .i64 t343,.int .i64 t344,.int .i64 t345] 23 (0,0)) (by (with_reducible repeat (first|refine blk_drewN ?_ _|refine blk_drew ?_|refine blk_alloc ?_ _));exact BK347.out)):gb347 ≠ gb367));have NB367_347:=mk0 ((by rw [hg];exact Nat.ne_of_gt (blk_lt (g:=gb347) (o:=.cells #[.int .i64 t342,.int .i64 t343,.int .i64 t344,.int .i64 t345] 23 (0,0)) (by (with_reducible repeat (first|refine blk_drewN ?_ _|refine blk_drew ?_|refine blk_alloc ?_ _));exact BK347.out)):gb367 ≠ gb347));replace HO353:=mk0 (Kd.R_below (by (with_reducible repeat (first|apply Kd.R_alloc|apply Kd.R_drewN|apply Kd.R_drew));exact HO353.out) hb);replace HO357:=mk0 (Kd.R_below (by (with_reducible repeat (first|apply Kd.R_alloc|apply Kd.R_drewN|apply Kd.R_drew));exact HO357.out) hb);replace BK347:=mk0 (blk_below (g:=gb347) (o:=.cells #[.int .i64 t342,.int .i64 t343,.int .i64 t344,.int .i64 t345] 23 (0,0)) (by (with_reducible repeat (first|refine blk_drewN ?_ _|refine blk_drew ?_|refine blk_alloc ?_ _));exact BK347.out) hb);replace HB:=mk0 (below_step (by repeat (first|(with_reducible first|exact HB.out|apply below_alloc|apply pw_below_drewN|apply below_drew1|refine below_set ?_ GE347.out)|exact HB.out)) hb);clear hb hbox hg;have hnb38:=NB367_347.out;have hnc38:=NB347_367.out;have hcz39_0:w37.cell? ⟨gb367,0,none⟩=some (.int .i64 0):=(blk_cell BK367.out 0).trans rfl;have hcz39_1:w37.cell? ⟨gb367,1,none⟩=some (.int .i64 0):=(blk_cell BK367.out 1).trans rfl;have hcz39_2:w37.cell? ⟨gb367,2,none⟩=some (.int .i64 0):=(blk_cell BK367.out 2).trans rfl;have hcz39_3:w37.cell? ⟨gb367,3,none⟩=some (.int .i64 0):=(blk_cell BK367.out 3).trans rfl;have hfz39_0:=blk_frozen BK367.out 0;have hfz39_1:=blk_frozen BK367.out 1;have hfz39_2:=blk_frozen BK367.out 2;have hfz39_3:=blk_frozen BK367.out 3)|((with_reducible refine gate_callee (f:=21) rfl ?_);refine goesL_ (some 54) rfl rfl Try.func21 (by kernel_rfl) rfl #[.agg #[.int .i64 4,.int .i64 0,.int .i64 0,.int .i64 0],.agg #[.int .i64 2,.int .i64 2,.int .i64 0,.int .i64 0]] rfl (by (try simp only [List.map_toArray,List.map_cons,List.map_nil]);first|done|rfl|(simp only [List.length_drop,List.length_take];rfl)) ?_;(with_reducible refine (norm_Gcd.calls k 4 0 0 0 2 2 0 0 t368 t369 t370 t371 t372 _ A8.out).mono ?_);rintro e w40 ⟨rfl,hb⟩;refine ⟨_,rfl,?_⟩;replace HO353:=mk0 (Kd.R_below (by (with_reducible repeat (first|apply Kd.R_alloc|apply Kd.R_drewN|apply Kd.R_drew));exact (Kd.R_mono (Kd.R_far (p:=⟨gb367,3,none⟩) (Kd.R_far (p:=⟨gb367,2,none⟩) (Kd.R_far (p:=⟨gb367,1,none⟩) (Kd.R_far (p:=⟨gb367,0,none⟩) (Kd.R_types HO353.out BK367.out (by decide)) (fun _ hk=>hk.2) (.int .i64 t362)) (fun _ hk=>hk.2) (.int .i64 t363)) (fun _ hk=>hk.2) (.int .i64 t364)) (fun _ hk=>hk.2) (.int .i64 t365)) (fun _ h_=>h_.1))) hb);replace HO357:=mk0 (Kd.R_below (by (with_reducible repeat (first|apply Kd.R_alloc|apply Kd.R_drewN|apply Kd.R_drew));exact (Kd.R_mono (Kd.R_far (p:=⟨gb367,3,none⟩) (Kd.R_far (p:=⟨gb367,2,none⟩) (Kd.R_far (p:=⟨gb367,1,none⟩) (Kd.R_far (p:=⟨gb367,0,none⟩) (Kd.R_types HO357.out BK367.out (by decide)) (fun _ hk=>hk.2) (.int .i64 t362)) (fun _ hk=>hk.2) (.int .i64 t363)) (fun _ hk=>hk.2) (.int .i64 t364)) (fun _ hk=>hk.2) (.int .i64 t365)) (fun _ h_=>h_.1))) hb);replace BK347:=mk0 (blk_below (g:=gb347) (o:=.cells #[.int .i64 t342,.int .i64 t343,.int .i64 t344,.int .i64 t345] 23 (0,0)) (by (with_reducible repeat (first|refine blk_drewN ?_ _|refine blk_drew ?_|refine blk_alloc ?_ _));refine blk_far ?_ NB347_367.out _;(with_reducible repeat (first|refine blk_drewN ?_ _|refine blk_drew ?_|refine blk_alloc ?_ _));refine blk_far ?_ NB347_367.out _;(with_reducible repeat (first|refine blk_drewN ?_ _|refine blk_drew ?_|refine blk_alloc ?_ _));refine blk_far ?_ NB347_367.out _;(with_reducible repeat (first|refine blk_drewN ?_ _|refine blk_drew ?_|refine blk_alloc ?_ _));refine blk_far ?_ NB347_367.out _;(with_reducible repeat (first|refine blk_drewN ?_ _|refine blk_drew ?_|refine blk_alloc ?_ _));exact BK347.out) hb);replace BK367:=mk0 (blk_below (g:=gb367) (o:=.cells #[.int .i64 t362,.int .i64 t363,.int .i64 t364,.int .i64 t365] 23 (0,0)) (by (with_reducible repeat (first|refine blk_drewN ?_ _|refine blk_drew ?_|refine blk_alloc ?_ _));refine blk_put (cs:=#[.int .i64 t362,.int .i64 t363,.int .i64 t364,.int .i64 0]) ?_ 3 _ rfl;(with_reducible repeat (first|refine blk_drewN ?_ _|refine blk_drew ?_|refine blk_alloc ?_ _));refine blk_put (cs:=#[.int .i64 t362,.int .i64 t363,.int .i64 0,.int .i64 0]) ?_ 2 _ rfl;(with_reducible repeat (first|refine blk_drewN ?_ _|refine blk_drew ?_|refine blk_alloc ?_ _));refine blk_put (cs:=#[.int .i64 t362,.int .i64 0,.int .i64 0,.int .i64 0]) ?_ 1 _ rfl;(with_reducible repeat (first|refine blk_drewN ?_ _|refine blk_drew ?_|refine blk_alloc ?_ _));refine blk_put (cs:=#[.int .i64 0,.int .i64 0,.int .i64 0,.int .i64 0]) ?_ 0 _ rfl;(with_reducible repeat (first|refine blk_drewN ?_ _|refine blk_drew ?_|refine blk_alloc ?_ _));exact BK367.out) hb);replace HB:=mk0 (below_step (by repeat (first|(with_reducible first|exact HB.out|apply below_alloc|apply pw_below_drewN|apply below_drew1|refine below_set ?_ GE347.out|refine below_set ?_ GE367.out)|exact HB.out)) hb);(try clear hb);(try clear hk))|((with_reducible refine gate_dst (N:=15) rfl ?_);(try (refine gate_guard (by rfl) ?_;dsimp only));refine box_event ?hg (N:=15) ?hd (cs:=#[.int .i64 0,.int .i64 0,.int .i64 0,.int .i64 0]) (t:=23) ?hr ?_;(case hd=>rfl);(case hg=>rfl);(case hr=>first|(go_simp;done)|(go_simp;rfl));intro gb373 hg w41 hbox hb;have BK373:=mk0 (hbox);have GW373:=mk0 ((by rw [hg];exact (below_size (by repeat (first|(with_reducible first|exact HB.out|apply below_alloc|apply pw_below_drewN|apply below_drew1|refine below_set ?_ GE347.out|refine below_set ?_ GE367.out)|exact HB.out))):w.heap.size ≤ gb373));have GE373:=mk0 ((by rw [hg];exact (below_size (by repeat (first|(with_reducible first|exact HB.out|apply below_alloc|apply pw_below_drewN|apply below_drew1|refine below_set ?_ GE347.out|refine below_set ?_ GE367.out)|exact HB.out))):w.heap.size ≤ gb373));have NB347_373:=mk0 ((by rw [hg];exact Nat.ne_of_lt (blk_lt (g:=gb347) (o:=.cells #[.int .i64 t342,.int .i64 t343,.int .i64 t344,.int .i64 t345] 23 (0,0)) (by (with_reducible repeat (first|refine blk_drewN ?_ _|refine blk_drew ?_|refine blk_alloc ?_ _));exact BK347.out)):gb347 ≠ gb373));have NB373_347:=mk0 ((by rw [hg];exact Nat.ne_of_gt (blk_lt (g:=gb347) (o:=.cells #[.int .i64 t342,.int .i64 t343,.int .i64 t344,.int .i64 t345] 23 (0,0)) (by (with_reducible repeat (first|refine blk_drewN ?_ _|refine blk_drew ?_|refine blk_alloc ?_ _));exact BK347.out)):gb373 ≠ gb347));have NB367_373:=mk0 ((by rw [hg];exact Nat.ne_of_lt (blk_lt (g:=gb367) (o:=.cells #[.int .i64 t362,.int .i64 t363,.int .i64 t364,.int .i64 t365] 23 (0,0)) (by (with_reducible repeat (first|refine blk_drewN ?_ _|refine blk_drew ?_|refine blk_alloc ?_ _));exact BK367.out)):gb367 ≠ gb373));have NB373_367:=mk0 ((by rw [hg];exact Nat.ne_of_gt (blk_lt (g:=gb367) (o:=.cells #[.int .i64 t362,.int .i64 t363,.int .i64 t364,.int .i64 t365] 23 (0,0)) (by (with_reducible repeat (first|refine blk_drewN ?_ _|refine blk_drew ?_|refine blk_alloc ?_ _));exact BK367.out)):gb373 ≠ gb367));replace HO353:=mk0 (Kd.R_below (by (with_reducible repeat (first|apply Kd.R_alloc|apply Kd.R_drewN|apply Kd.R_drew));exact HO353.out) hb);replace HO357:=mk0 (Kd.R_below (by (with_reducible repeat (first|apply Kd.R_alloc|apply Kd.R_drewN|apply Kd.R_drew));exact HO357.out) hb);replace BK347:=mk0 (blk_below (g:=gb347) (o:=.cells #[.int .i64 t342,.int .i64 t343,.int .i64 t344,.int .i64 t345] 23 (0,0)) (by (with_reducible repeat (first|refine blk_drewN ?_ _|refine blk_drew ?_|refine blk_alloc ?_ _));exact BK347.out) hb);replace BK367:=mk0 (blk_below (g:=gb367) (o:=.cells #[.int .i64 t362,.int .i64 t363,.int .i64 t364,.int .i64 t365] 23 (0,0)) (by (with_reducible repeat (first|refine blk_drewN ?_ _|refine blk_drew ?_|refine blk_alloc ?_ _));exact BK367.out) hb);replace HB:=mk0 (below_step (by repeat (first|(with_reducible first|exact HB.out|apply below_alloc|apply pw_below_drewN|apply below_drew1|refine below_set ?_ GE347.out|refine below_set ?_ GE367.out)|exact HB.out)) hb);clear hb hbox hg;have hnb42:=NB373_347.out;have hnc42:=NB347_373.out;have hnb43:=NB373_367.out;have hnc43:=NB367_373.out;have hcz44_0:w41.cell? ⟨gb373,0,none⟩=some (.int .i64 0):=(blk_cell BK373.out 0).trans rfl;have hcz44_1:w41.cell? ⟨gb373,1,none⟩=some (.int .i64 0):=(blk_cell BK373.out 1).trans rfl;have hcz44_2:w41.cell? ⟨gb373,2,none⟩=some (.int .i64 0):=(blk_cell BK373.out 2).trans rfl;have hcz44_3:w41.cell? ⟨gb373,3,none⟩=some (.int .i64 0):=(blk_cell BK373.out 3).trans rfl;have hfz44_0:=blk_frozen BK373.out 0;have hfz44_1:=blk_frozen BK373.out 1;have hfz44_2:=blk_frozen BK373.out 2;have hfz44_3:=blk_frozen BK373.out 3)|((with_reducible refine gate_callee (f:=17) rfl ?_);refine goesL_ (some 60) rfl rfl Try.func17 (by kernel_rfl) rfl #[.agg #[.int .i64 4,.int .i64 0,.int .i64 0,.int .i64 0],.agg #[.int .i64 2,.int .i64 2,.int .i64 0,.int .i64 0]] rfl (by (try simp only [List.map_toArray,List.map_cons,List.map_nil]);first|done|rfl|(simp only [List.length_drop,List.length_take];rfl)) ?_;(with_reducible refine (norm_Divide.calls k 4 0 0 0 2 2 0 0 t374 t375 t376 t377 t378 t379 t380 t381 t382 _ A9.out).mono ?_);rintro e w45 ⟨rfl,hb⟩;refine ⟨_,rfl,?_⟩;replace HO353:=mk0 (Kd.R_below (by (with_reducible repeat (first|apply Kd.R_alloc|apply Kd.R_drewN|apply Kd.R_drew));exact (Kd.R_mono (Kd.R_far (p:=⟨gb373,3,none⟩) (Kd.R_far (p:=⟨gb373,2,none⟩) (Kd.R_far (p:=⟨gb373,1,none⟩) (Kd.R_far (p:=⟨gb373,0,none⟩) (Kd.R_types HO353.out BK373.out (by decide)) (fun _ hk=>hk.2) (.int .i64 t368)) (fun _ hk=>hk.2) (.int .i64 t369)) (fun _ hk=>hk.2) (.int .i64 t370)) (fun _ hk=>hk.2) (.int .i64 t371)) (fun _ h_=>h_.1))) hb);replace HO357:=mk0 (Kd.R_below (by (with_reducible repeat (first|apply Kd.R_alloc|apply Kd.R_drewN|apply Kd.R_drew));exact (Kd.R_mono (Kd.R_far (p:=⟨gb373,3,none⟩) (Kd.R_far (p:=⟨gb373,2,none⟩) (Kd.R_far (p:=⟨gb373,1,none⟩) (Kd.R_far (p:=⟨gb373,0,none⟩) (Kd.R_types HO357.out BK373.out (by decide)) (fun _ hk=>hk.2) (.int .i64 t368)) (fun _ hk=>hk.2) (.int .i64 t369)) (fun _ hk=>hk.2) (.int .i64 t370)) (fun _ hk=>hk.2) (.int .i64 t371)) (fun _ h_=>h_.1))) hb);replace BK347:=mk0 (blk_below (g:=gb347) (o:=.cells #[.int .i64 t342,.int .i64 t343,.int .i64 t344,.int .i64 t345] 23 (0,0)) (by (with_reducible repeat (first|refine blk_drewN ?_ _|refine blk_drew ?_|refine blk_alloc ?_ _));refine blk_far ?_ NB347_373.out _;(with_reducible repeat (first|refine blk_drewN ?_ _|refine blk_drew ?_|refine blk_alloc ?_ _));refine blk_far ?_ NB347_373.out _;(with_reducible repeat (first|refine blk_drewN ?_ _|refine blk_drew ?_|refine blk_alloc ?_ _));refine blk_far ?_ NB347_373.out _;(with_reducible repeat (first|refine blk_drewN ?_ _|refine blk_drew ?_|refine blk_alloc ?_ _));refine blk_far ?_ NB347_373.out _;(with_reducible repeat (first|refine blk_drewN ?_ _|refine blk_drew ?_|refine blk_alloc ?_ _));exact BK347.out) hb);replace BK367:=mk0 (blk_below (g:=gb367) (o:=.cells #[.int .i64 t362,.int .i64 t363,.int .i64 t364,.int .i64 t365] 23 (0,0)) (by (with_reducible repeat (first|refine blk_drewN ?_ _|refine blk_drew ?_|refine blk_alloc ?_ _));refine blk_far ?_ NB367_373.out _;(with_reducible repeat (first|refine blk_drewN ?_ _|refine blk_drew ?_|refine blk_alloc ?_ _));refine blk_far ?_ NB367_373.out _;(with_reducible repeat (first|refine blk_drewN ?_ _|refine blk_drew ?_|refine blk_alloc ?_ _));refine blk_far ?_ NB367_373.out _;(with_reducible repeat (first|refine blk_drewN ?_ _|refine blk_drew ?_|refine blk_alloc ?_ _));refine blk_far ?_ NB367_373.out _;(with_reducible repeat (first|refine blk_drewN ?_ _|refine blk_drew ?_|refine blk_alloc ?_ _));exact BK367.out) hb);replace BK373:=mk0 (blk_below (g:=gb373) (o:=.cells #[.int .i64 t368,.int .i64 t369,.int .i64 t370,.int .i64 t371] 23 (0,0)) (by (with_reducible repeat (first|refine blk_drewN ?_ _|refine blk_drew ?_|refine blk_alloc ?_ _));refine blk_put (cs:=#[.int .i64 t368,.int .i64 t369,.int .i64 t370,.int .i64 0]) ?_ 3 _ rfl;(with_reducible repeat (first|refine blk_drewN ?_ _|refine blk_drew ?_|refine blk_alloc ?_ _));refine blk_put (cs:=#[.int .i64 t368,.int .i64 t369,.int .i64 0,.int .i64 0]) ?_ 2 _ rfl;(with_reducible repeat (first|refine blk_drewN ?_ _|refine blk_drew ?_|refine blk_alloc ?_ _));refine blk_put (cs:=#[.int .i64 t368,.int .i64 0,.int .i64 0,.int .i64 0]) ?_ 1 _ rfl;(with_reducible repeat (first|refine blk_drewN ?_ _|refine blk_drew ?_|refine blk_alloc ?_ _));refine blk_put (cs:=#[.int .i64 0,.int .i64 0,.int .i64 0,.int .i64 0]) ?_ 0 _ rfl;(with_reducible repeat (first|refine blk_drewN ?_ _|refine blk_drew ?_|refine blk_alloc ?_ _));exact BK373.out) hb);replace HB:=mk0 (below_step (by repeat (first|(with_reducible first|exact HB.out|apply below_alloc|apply pw_below_drewN|apply below_drew1|refine below_set ?_ GE347.out|refine below_set ?_ GE367.out|refine below_set ?_ GE373.out)|exact HB.out)) hb);(try clear hb);(try clear hk))|((with_reducible refine gate_dst (N:=17) rfl ?_);(try (refine gate_guard (by rfl) ?_;dsimp only));refine box_event ?hg (N:=17) ?hd (cs:=#[.int .i64 0,.int .i64 0,.int .i64 0,.int .i64 0]) (t:=23) ?hr ?_;(case hd=>rfl);(case hg=>rfl);(case hr=>first|(go_simp;done)|(go_simp;rfl));intro gb383 hg w46 hbox hb;have BK383:=mk0 (hbox);have GW383:=mk0 ((by rw [hg];exact (below_size (by repeat (first|(with_reducible first|exact HB.out|apply below_alloc|apply pw_below_drewN|apply below_drew1|refine below_set ?_ GE347.out|refine below_set ?_ GE367.out|refine below_set ?_ GE373.out)|exact HB.out))):w.heap.size ≤ gb383));have GE383:=mk0 ((by rw [hg];exact (below_size (by repeat (first|(with_reducible first|exact HB.out|apply below_alloc|apply pw_below_drewN|apply below_drew1|refine below_set ?_ GE347.out|refine below_set ?_ GE367.out|refine below_set ?_ GE373.out)|exact HB.out))):w.heap.size ≤ gb383));have NB347_383:=mk0 ((by rw [hg];exact Nat.ne_of_lt (blk_lt (g:=gb347) (o:=.cells #[.int .i64 t342,.int .i64 t343,.int .i64 t344,.int .i64 t345] 23 (0,0)) (by (with_reducible repeat (first|refine blk_drewN ?_ _|refine blk_drew ?_|refine blk_alloc ?_ _));exact BK347.out)):gb347 ≠ gb383));have NB383_347:=mk0 ((by rw [hg];exact Nat.ne_of_gt (blk_lt (g:=gb347) (o:=.cells #[.int .i64 t342,.int .i64 t343,.int .i64 t344,.int .i64 t345] 23 (0,0)) (by (with_reducible repeat (first|refine blk_drewN ?_ _|refine blk_drew ?_|refine blk_alloc ?_ _));exact BK347.out)):gb383 ≠ gb347));have NB367_383:=mk0 ((by rw [hg];exact Nat.ne_of_lt (blk_lt (g:=gb367) (o:=.cells #[.int .i64 t362,.int .i64 t363,.int .i64 t364,.int .i64 t365] 23 (0,0)) (by (with_reducible repeat (first|refine blk_drewN ?_ _|refine blk_drew ?_|refine blk_alloc ?_ _));exact BK367.out)):gb367 ≠ gb383));have NB383_367:=mk0 ((by rw [hg];exact Nat.ne_of_gt (blk_lt (g:=gb367) (o:=.cells #[.int .i64 t362,.int .i64 t363,.int .i64 t364,.int .i64 t365] 23 (0,0)) (by (with_reducible repeat (first|refine blk_drewN ?_ _|refine blk_drew ?_|refine blk_alloc ?_ _));exact BK367.out)):gb383 ≠ gb367));have NB373_383:=mk0 ((by rw [hg];exact Nat.ne_of_lt (blk_lt (g:=gb373) (o:=.cells #[.int .i64 t368,.int .i64 t369,.int .i64 t370,.int .i64 t371] 23 (0,0)) (by (with_reducible repeat (first|refine blk_drewN ?_ _|refine blk_drew ?_|refine blk_alloc ?_ _));exact BK373.out)):gb373 ≠ gb383));have NB383_373:=mk0 ((by rw [hg];exact Nat.ne_of_gt (blk_lt (g:=gb373) (o:=.cells #[.int .i64 t368,.int .i64 t369,.int .i64 t370,.int .i64 t371] 23 (0,0)) (by (with_reducible repeat (first|refine blk_drewN ?_ _|refine blk_drew ?_|refine blk_alloc ?_ _));exact BK373.out)):gb383 ≠ gb373));replace HO353:=mk0 (Kd.R_below (by (with_reducible repeat (first|apply Kd.R_alloc|apply Kd.R_drewN|apply Kd.R_drew));exact HO353.out) hb);replace HO357:=mk0 (Kd.R_below (by (with_reducible repeat (first|apply Kd.R_alloc|apply Kd.R_drewN|apply Kd.R_drew));exact HO357.out) hb);replace BK347:=mk0 (blk_below (g:=gb347) (o:=.cells #[.int .i64 t342,.int .i64 t343,.int .i64 t344,.int .i64 t345] 23 (0,0)) (by (with_reducible repeat (first|refine blk_drewN ?_ _|refine blk_drew ?_|refine blk_alloc ?_ _));exact BK347.out) hb);replace BK367:=mk0 (blk_below (g:=gb367) (o:=.cells #[.int .i64 t362,.int .i64 t363,.int .i64 t364,.int .i64 t365] 23 (0,0)) (by (with_reducible repeat (first|refine blk_drewN ?_ _|refine blk_drew ?_|refine blk_alloc ?_ _));exact BK367.out) hb);replace BK373:=mk0 (blk_below (g:=gb373) (o:=.cells #[.int .i64 t368,.int .i64 t369,.int .i64 t370,.int .i64 t371] 23 (0,0)) (by (with_reducible repeat (first|refine blk_drewN ?_ _|refine blk_drew ?_|refine blk_alloc ?_ _));exact BK373.out) hb);replace HB:=mk0 (below_step (by repeat (first|(with_reducible first|exact HB.out|apply below_alloc|apply pw_below_drewN|apply below_drew1|refine below_set ?_ GE347.out|refine below_set ?_ GE367.out|refine below_set ?_ GE373.out)|exact HB.out)) hb);clear hb hbox hg)|((with_reducible refine gate_dst (N:=18) rfl ?_);(try (refine gate_guard (by rfl) ?_;dsimp only));refine box_event ?hg (N:=18) ?hd (cs:=#[.int .i64 0,.int .i64 0,.int .i64 0,.int .i64 0]) (t:=23) ?hr ?_;(case hd=>rfl);(case hg=>rfl);(case hr=>first|(go_simp;done)|(go_simp;rfl));intro gb384 hg w47 hbox hb;have BK384:=mk0 (hbox);have GW384:=mk0 ((by rw [hg];exact (below_size (by repeat (first|(with_reducible first|exact HB.out|apply below_alloc|apply pw_below_drewN|apply below_drew1|refine below_set ?_ GE347.out|refine below_set ?_ GE367.out|refine below_set ?_ GE373.out|refine below_set ?_ GE383.out)|exact HB.out))):w.heap.size ≤ gb384));have GE384:=mk0 ((by rw [hg];exact (below_size (by repeat (first|(with_reducible first|exact HB.out|apply below_alloc|apply pw_below_drewN|apply below_drew1|refine below_set ?_ GE347.out|refine below_set ?_ GE367.out|refine below_set ?_ GE373.out|refine below_set ?_ GE383.out)|exact HB.out))):w.heap.size ≤ gb384));have NB347_384:=mk0 ((by rw [hg];exact Nat.ne_of_lt (blk_lt (g:=gb347) (o:=.cells #[.int .i64 t342,.int .i64 t343,.int .i64 t344,.int .i64 t345] 23 (0,0)) (by (with_reducible repeat (first|refine blk_drewN ?_ _|refine blk_drew ?_|refine blk_alloc ?_ _));exact BK347.out)):gb347 ≠ gb384));have NB384_347:=mk0 ((by rw [hg];exact Nat.ne_of_gt (blk_lt (g:=gb347) (o:=.cells #[.int .i64 t342,.int .i64 t343,.int .i64 t344,.int .i64 t345] 23 (0,0)) (by (with_reducible repeat (first|refine blk_drewN ?_ _|refine blk_drew ?_|refine blk_alloc ?_ _));exact BK347.out)):gb384 ≠ gb347));have NB367_384:=mk0 ((by rw [hg];exact Nat.ne_of_lt (blk_lt (g:=gb367) (o:=.cells #[.int .i64 t362,.int .i64 t363,.int .i64 t364,.int .i64 t365] 23 (0,0)) (by (with_reducible repeat (first|refine blk_drewN ?_ _|refine blk_drew ?_|refine blk_alloc ?_ _));exact BK367.out)):gb367 ≠ gb384));have NB384_367:=mk0 ((by rw [hg];exact Nat.ne_of_gt (blk_lt (g:=gb367) (o:=.cells #[.int .i64 t362,.int .i64 t363,.int .i64 t364,.int .i64 t365] 23 (0,0)) (by (with_reducible repeat (first|refine blk_drewN ?_ _|refine blk_drew ?_|refine blk_alloc ?_ _));exact BK367.out)):gb384 ≠ gb367));have NB373_384:=mk0 ((by rw [hg];exact Nat.ne_of_lt (blk_lt (g:=gb373) (o:=.cells #[.int .i64 t368,.int .i64 t369,.int .i64 t370,.int .i64 t371] 23 (0,0)) (by (with_reducible repeat (first|refine blk_drewN ?_ _|refine blk_drew ?_|refine blk_alloc ?_ _));exact BK373.out)):gb373 ≠ gb384));have NB384_373:=mk0 ((by rw [hg];exact Nat.ne_of_gt (blk_lt (g:=gb373) (o:=.cells #[.int .i64 t368,.int .i64 t369,.int .i64 t370,.int .i64 t371] 23 (0,0)) (by (with_reducible repeat (first|refine blk_drewN ?_ _|refine blk_drew ?_|refine blk_alloc ?_ _));exact BK373.out)):gb384 ≠ gb373));have NB383_384:=mk0 ((by rw [hg];exact Nat.ne_of_lt (blk_lt (g:=gb383) (o:=.cells #[.int .i64 0,.int .i64 0,.int .i64 0,.int .i64 0] 23 (0,0)) (by (with_reducible repeat (first|refine blk_drewN ?_ _|refine blk_drew ?_|refine blk_alloc ?_ _));exact BK383.out)):gb383 ≠ gb384));have NB384_383:=mk0 ((by rw [hg];exact Nat.ne_of_gt (blk_lt (g:=gb383) (o:=.cells #[.int .i64 0,.int .i64 0,.int .i64 0,.int .i64 0] 23 (0,0)) (by (with_reducible repeat (first|refine blk_drewN ?_ _|refine blk_drew ?_|refine blk_alloc ?_ _));exact BK383.out)):gb384 ≠ gb383));replace HO353:=mk0 (Kd.R_below (by (with_reducible repeat (first|apply Kd.R_alloc|apply Kd.R_drewN|apply Kd.R_drew));exact HO353.out) hb);replace HO357:=mk0 (Kd.R_below (by (with_reducible repeat (first|apply Kd.R_alloc|apply Kd.R_drewN|apply Kd.R_drew));exact HO357.out) hb);replace BK347:=mk0 (blk_below (g:=gb347) (o:=.cells #[.int .i64 t342,.int .i64 t343,.int .i64 t344,.int .i64 t345] 23 (0,0)) (by (with_reducible repeat (first|refine blk_drewN ?_ _|refine blk_drew ?_|refine blk_alloc ?_ _));exact BK347.out) hb);replace BK367:=mk0 (blk_below (g:=gb367) (o:=.cells #[.int .i64 t362,.int .i64 t363,.int .i64 t364,.int .i64 t365] 23 (0,0)) (by (with_reducible repeat (first|refine blk_drewN ?_ _|refine blk_drew ?_|refine blk_alloc ?_ _));exact BK367.out) hb);replace BK373:=mk0 (blk_below (g:=gb373) (o:=.cells #[.int .i64 t368,.int .i64 t369,.int .i64 t370,.int .i64 t371] 23 (0,0)) (by (with_reducible repeat (first|refine blk_drewN ?_ _|refine blk_drew ?_|refine blk_alloc ?_ _));exact BK373.out) hb);replace BK383:=mk0 (blk_below (g:=gb383) (o:=.cells #[.int .i64 0,.int .i64 0,.int .i64 0,.int .i64 0] 23 (0,0)) (by (with_reducible repeat (first|refine blk_drewN ?_ _|refine blk_drew ?_|refine blk_alloc ?_ _));exact BK383.out) hb);replace HB:=mk0 (below_step (by repeat (first|(with_reducible first|exact HB.out|apply below_alloc|apply pw_below_drewN|apply below_drew1|refine below_set ?_ GE347.out|refine below_set ?_ GE367.out|refine below_set ?_ GE373.out|refine below_set ?_ GE383.out)|exact HB.out)) hb);clear hb hbox hg;have hnb48:=NB383_347.out;have hnc48:=NB347_383.out;have hnb49:=NB383_367.out;have hnc49:=NB367_383.out;have hnb50:=NB383_373.out;have hnc50:=NB373_383.out;have hnb51:=NB383_384.out;have hnc51:=NB384_383.out;have hcz52_0:w47.cell? ⟨gb383,0,none⟩=some (.int .i64 0):=(blk_cell BK383.out 0).trans rfl;have hcz52_1:w47.cell? ⟨gb383,1,none⟩=some (.int .i64 0):=(blk_cell BK383.out 1).trans rfl;have hcz52_2:w47.cell? ⟨gb383,2,none⟩=some (.int .i64 0):=(blk_cell BK383.out 2).trans rfl;have hcz52_3:w47.cell? ⟨gb383,3,none⟩=some (.int .i64 0):=(blk_cell BK383.out 3).trans rfl;have hfz52_0:=blk_frozen BK383.out 0;have hfz52_1:=blk_frozen BK383.out 1;have hfz52_2:=blk_frozen BK383.out 2;have hfz52_3:=blk_frozen BK383.out 3;have hnb53:=NB384_347.out;have hnc53:=NB347_384.out;have hnb54:=NB384_367.out;have hnc54:=NB367_384.out;have hnb55:=NB384_373.out;have hnc55:=NB373_384.out;have hcz56_0:w47.cell? ⟨gb384,0,none⟩=some (.int .i64 0):=(blk_cell BK384.out 0).trans rfl;have hcz56_1:w47.cell? ⟨gb384,1,none⟩=some (.int .i64 0):=(blk_cell BK384.out 1).trans rfl;have hcz56_2:w47.cell? ⟨gb384,2,none⟩=some (.int .i64 0):=(blk_cell BK384.out 2).trans rfl;have hcz56_3:w47.cell? ⟨gb384,3,none⟩=some (.int .i64 0):=(blk_cell BK384.out 3).trans rfl;have hfz56_0:=blk_frozen BK384.out 0;have hfz56_1:=blk_frozen BK384.out 1;have hfz56_2:=blk_frozen BK384.out 2;have hfz56_3:=blk_frozen BK384.out 3;have hcz57_0:w47.cell? ⟨gb347,0,none⟩=some (.int .i64 t342):=(blk_cell BK347.out 0).trans rfl;have hcz57_1:w47.cell? ⟨gb347,1,none⟩=some (.int .i64 t343):=(blk_cell BK347.out 1).trans rfl;have hcz57_2:w47.cell? ⟨gb347,2,none⟩=some (.int .i64 t344):=(blk_cell BK347.out 2).trans rfl;have hcz57_3:w47.cell? ⟨gb347,3,none⟩=some (.int .i64 t345):=(blk_cell BK347.out 3).trans rfl;have hfz57_0:=blk_frozen BK347.out 0;have hfz57_1:=blk_frozen BK347.out 1;have hfz57_2:=blk_frozen BK347.out 2;have hfz57_3:=blk_frozen BK347.out 3)|((with_reducible refine gate_dst (N:=81) rfl ?_);(try (refine gate_guard (by rfl) ?_;dsimp only));refine Kd.R_lit (Kd.int .i64) _ 3 ?hg (N:=81) ?hd (xs:=([2,1,1,1]:List Int)) (inner:=[.int .i64 2,.int .i64 1,.int .i64 1,.int .i64 1]) (ok:=fun _=>True) (okp:=fun _=>True) ?hr ?hp (fun _ hk=>hk) trivial (Below.refl _ _) (Nat.le_refl _) (by simp) ?_;(case hd=>rfl);(case hg=>rfl);(case hr=>first|(go_simp;done)|(go_simp;rfl));(case hp=>exact (Reps.one (show Kd.M (Kd.int .i64) _ _ _ 2 [.int .i64 2] from rfl) (Reps.one (show Kd.M (Kd.int .i64) _ _ _ 1 [.int .i64 1] from rfl) (Reps.one (show Kd.M (Kd.int .i64) _ _ _ 1 [.int .i64 1] from rfl) (Reps.one (show Kd.M (Kd.int .i64) _ _ _ 1 [.int .i64 1] from rfl) (Reps.none _ _))))));intro v386 w58 ho59 hb hg_ hnew_;clear hg_ hnew_;(first|rw [← Ny385.out] at ho59|(simp only [Int.reduceToNat] at ho59;rw [← Ny385.out] at ho59));have HO387:=mk0 (Kd.R_lower (Kd.R_new' (Kd.R_new' ho59 (Kd.R_lt (by (with_reducible repeat (first|apply Kd.R_alloc|apply Kd.R_drewN|apply Kd.R_drew));exact (Kd.R_mono (Kd.R_mono (Kd.R_far (p:=⟨gb384,3,none⟩) (Kd.R_far (p:=⟨gb384,2,none⟩) (Kd.R_far (p:=⟨gb384,1,none⟩) (Kd.R_far (p:=⟨gb384,0,none⟩) (Kd.R_far (p:=⟨gb383,3,none⟩) (Kd.R_far (p:=⟨gb383,2,none⟩) (Kd.R_far (p:=⟨gb383,1,none⟩) (Kd.R_far (p:=⟨gb383,0,none⟩) (Kd.R_types (Kd.R_types HO353.out BK383.out (by decide)) BK384.out (by decide)) (fun _ hk=>hk.1.2) (.int .i64 t374)) (fun _ hk=>hk.1.2) (.int .i64 t375)) (fun _ hk=>hk.1.2) (.int .i64 t376)) (fun _ hk=>hk.1.2) (.int .i64 t377)) (fun _ hk=>hk.2) (.int .i64 t378)) (fun _ hk=>hk.2) (.int .i64 t379)) (fun _ hk=>hk.2) (.int .i64 t380)) (fun _ hk=>hk.2) (.int .i64 t381)) (fun _ h_=>h_.1)) (fun _ h_=>h_.1))))) (Kd.R_lt (by (with_reducible repeat (first|apply Kd.R_alloc|apply Kd.R_drewN|apply Kd.R_drew));exact (Kd.R_mono (Kd.R_mono (Kd.R_far (p:=⟨gb384,3,none⟩) (Kd.R_far (p:=⟨gb384,2,none⟩) (Kd.R_far (p:=⟨gb384,1,none⟩) (Kd.R_far (p:=⟨gb384,0,none⟩) (Kd.R_far (p:=⟨gb383,3,none⟩) (Kd.R_far (p:=⟨gb383,2,none⟩) (Kd.R_far (p:=⟨gb383,1,none⟩) (Kd.R_far (p:=⟨gb383,0,none⟩) (Kd.R_types (Kd.R_types HO357.out BK383.out (by decide)) BK384.out (by decide)) (fun _ hk=>hk.1.2) (.int .i64 t374)) (fun _ hk=>hk.1.2) (.int .i64 t375)) (fun _ hk=>hk.1.2) (.int .i64 t376)) (fun _ hk=>hk.1.2) (.int .i64 t377)) (fun _ hk=>hk.2) (.int .i64 t378)) (fun _ hk=>hk.2) (.int .i64 t379)) (fun _ hk=>hk.2) (.int .i64 t380)) (fun _ hk=>hk.2) (.int .i64 t381)) (fun _ h_=>h_.1)) (fun _ h_=>h_.1))))) (below_size (by repeat (first|(with_reducible first|exact HB.out|apply below_alloc|apply pw_below_drewN|apply below_drew1|refine below_set ?_ GE347.out|refine below_set ?_ GE367.out|refine below_set ?_ GE373.out|refine below_set ?_ GE383.out|refine below_set ?_ GE384.out)|exact HB.out))));replace HO353:=mk0 (Kd.R_elder' (by (with_reducible repeat (first|apply Kd.R_alloc|apply Kd.R_drewN|apply Kd.R_drew));exact (Kd.R_mono (Kd.R_mono (Kd.R_far (p:=⟨gb384,3,none⟩) (Kd.R_far (p:=⟨gb384,2,none⟩) (Kd.R_far (p:=⟨gb384,1,none⟩) (Kd.R_far (p:=⟨gb384,0,none⟩) (Kd.R_far (p:=⟨gb383,3,none⟩) (Kd.R_far (p:=⟨gb383,2,none⟩) (Kd.R_far (p:=⟨gb383,1,none⟩) (Kd.R_far (p:=⟨gb383,0,none⟩) (Kd.R_types (Kd.R_types HO353.out BK383.out (by decide)) BK384.out (by decide)) (fun _ hk=>hk.1.2) (.int .i64 t374)) (fun _ hk=>hk.1.2) (.int .i64 t375)) (fun _ hk=>hk.1.2) (.int .i64 t376)) (fun _ hk=>hk.1.2) (.int .i64 t377)) (fun _ hk=>hk.2) (.int .i64 t378)) (fun _ hk=>hk.2) (.int .i64 t379)) (fun _ hk=>hk.2) (.int .i64 t380)) (fun _ hk=>hk.2) (.int .i64 t381)) (fun _ h_=>h_.1)) (fun _ h_=>h_.1))) (Kd.R_base ho59) hb);replace HO357:=mk0 (Kd.R_elder' (by (with_reducible repeat (first|apply Kd.R_alloc|apply Kd.R_drewN|apply Kd.R_drew));exact (Kd.R_mono (Kd.R_mono (Kd.R_far (p:=⟨gb384,3,none⟩) (Kd.R_far (p:=⟨gb384,2,none⟩) (Kd.R_far (p:=⟨gb384,1,none⟩) (Kd.R_far (p:=⟨gb384,0,none⟩) (Kd.R_far (p:=⟨gb383,3,none⟩) (Kd.R_far (p:=⟨gb383,2,none⟩) (Kd.R_far (p:=⟨gb383,1,none⟩) (Kd.R_far (p:=⟨gb383,0,none⟩) (Kd.R_types (Kd.R_types HO357.out BK383.out (by decide)) BK384.out (by decide)) (fun _ hk=>hk.1.2) (.int .i64 t374)) (fun _ hk=>hk.1.2) (.int .i64 t375)) (fun _ hk=>hk.1.2) (.int .i64 t376)) (fun _ hk=>hk.1.2) (.int .i64 t377)) (fun _ hk=>hk.2) (.int .i64 t378)) (fun _ hk=>hk.2) (.int .i64 t379)) (fun _ hk=>hk.2) (.int .i64 t380)) (fun _ hk=>hk.2) (.int .i64 t381)) (fun _ h_=>h_.1)) (fun _ h_=>h_.1))) (Kd.R_base ho59) hb);replace BK347:=mk0 (blk_below (g:=gb347) (o:=.cells #[.int .i64 t342,.int .i64 t343,.int .i64 t344,.int .i64 t345] 23 (0,0)) (by (with_reducible repeat (first|refine blk_drewN ?_ _|refine blk_drew ?_|refine blk_alloc ?_ _));refine blk_far ?_ NB347_384.out _;(with_reducible repeat (first|refine blk_drewN ?_ _|refine blk_drew ?_|refine blk_alloc ?_ _));refine blk_far ?_ NB347_384.out _;(with_reducible repeat (first|refine blk_drewN ?_ _|refine blk_drew ?_|refine blk_alloc ?_ _));refine blk_far ?_ NB347_384.out _;(with_reducible repeat (first|refine blk_drewN ?_ _|refine blk_drew ?_|refine blk_alloc ?_ _));refine blk_far ?_ NB347_384.out _;(with_reducible repeat (first|refine blk_drewN ?_ _|refine blk_drew ?_|refine blk_alloc ?_ _));refine blk_far ?_ NB347_383.out _;(with_reducible repeat (first|refine blk_drewN ?_ _|refine blk_drew ?_|refine blk_alloc ?_ _));refine blk_far ?_ NB347_383.out _;(with_reducible repeat (first|refine blk_drewN ?_ _|refine blk_drew ?_|refine blk_alloc ?_ _));refine blk_far ?_ NB347_383.out _;(with_reducible repeat (first|refine blk_drewN ?_ _|refine blk_drew ?_|refine blk_alloc ?_ _));refine blk_far ?_ NB347_383.out _;(with_reducible repeat (first|refine blk_drewN ?_ _|refine blk_drew ?_|refine blk_alloc ?_ _));exact BK347.out) hb);replace BK367:=mk0 (blk_below (g:=gb367) (o:=.cells #[.int .i64 t362,.int .i64 t363,.int .i64 t364,.int .i64 t365] 23 (0,0)) (by (with_reducible repeat (first|refine blk_drewN ?_ _|refine blk_drew ?_|refine blk_alloc ?_ _));refine blk_far ?_ NB367_384.out _;(with_reducible repeat (first|refine blk_drewN ?_ _|refine blk_drew ?_|refine blk_alloc ?_ _));refine blk_far ?_ NB367_384.out _;(with_reducible repeat (first|refine blk_drewN ?_ _|refine blk_drew ?_|refine blk_alloc ?_ _));refine blk_far ?_ NB367_384.out _;(with_reducible repeat (first|refine blk_drewN ?_ _|refine blk_drew ?_|refine blk_alloc ?_ _));refine blk_far ?_ NB367_384.out _;(with_reducible repeat (first|refine blk_drewN ?_ _|refine blk_drew ?_|refine blk_alloc ?_ _));refine blk_far ?_ NB367_383.out _;(with_reducible repeat (first|refine blk_drewN ?_ _|refine blk_drew ?_|refine blk_alloc ?_ _));refine blk_far ?_ NB367_383.out _;(with_reducible repeat (first|refine blk_drewN ?_ _|refine blk_drew ?_|refine blk_alloc ?_ _));refine blk_far ?_ NB367_383.out _;(with_reducible repeat (first|refine blk_drewN ?_ _|refine blk_drew ?_|refine blk_alloc ?_ _));refine blk_far ?_ NB367_383.out _;(with_reducible repeat (first|refine blk_drewN ?_ _|refine blk_drew ?_|refine blk_alloc ?_ _));exact BK367.out) hb);replace BK373:=mk0 (blk_below (g:=gb373) (o:=.cells #[.int .i64 t368,.int .i64 t369,.int .i64 t370,.int .i64 t371] 23 (0,0)) (by (with_reducible repeat (first|refine blk_drewN ?_ _|refine blk_drew ?_|refine blk_alloc ?_ _));refine blk_far ?_ NB373_384.out _;(with_reducible repeat (first|refine blk_drewN ?_ _|refine blk_drew ?_|refine blk_alloc ?_ _));refine blk_far ?_ NB373_384.out _;(with_reducible repeat (first|refine blk_drewN ?_ _|refine blk_drew ?_|refine blk_alloc ?_ _));refine blk_far ?_ NB373_384.out _;(with_reducible repeat (first|refine blk_drewN ?_ _|refine blk_drew ?_|refine blk_alloc ?_ _));refine blk_far ?_ NB373_384.out _;(with_reducible repeat (first|refine blk_drewN ?_ _|refine blk_drew ?_|refine blk_alloc ?_ _));refine blk_far ?_ NB373_383.out _;(with_reducible repeat (first|refine blk_drewN ?_ _|refine blk_drew ?_|refine blk_alloc ?_ _));refine blk_far ?_ NB373_383.out _;(with_reducible repeat (first|refine blk_drewN ?_ _|refine blk_drew ?_|refine blk_alloc ?_ _));refine blk_far ?_ NB373_383.out _;(with_reducible repeat (first|refine blk_drewN ?_ _|refine blk_drew ?_|refine blk_alloc ?_ _));refine blk_far ?_ NB373_383.out _;(with_reducible repeat (first|refine blk_drewN ?_ _|refine blk_drew ?_|refine blk_alloc ?_ _));exact BK373.out) hb);replace BK383:=mk0 (blk_below (g:=gb383) (o:=.cells #[.int .i64 t374,.int .i64 t375,.int .i64 t376,.int .i64 t377] 23 (0,0)) (by (with_reducible repeat (first|refine blk_drewN ?_ _|refine blk_drew ?_|refine blk_alloc ?_ _));refine blk_far ?_ NB383_384.out _;(with_reducible repeat (first|refine blk_drewN ?_ _|refine blk_drew ?_|refine blk_alloc ?_ _));refine blk_far ?_ NB383_384.out _;(with_reducible repeat (first|refine blk_drewN ?_ _|refine blk_drew ?_|refine blk_alloc ?_ _));refine blk_far ?_ NB383_384.out _;(with_reducible repeat (first|refine blk_drewN ?_ _|refine blk_drew ?_|refine blk_alloc ?_ _));refine blk_far ?_ NB383_384.out _;(with_reducible repeat (first|refine blk_drewN ?_ _|refine blk_drew ?_|refine blk_alloc ?_ _));refine blk_put (cs:=#[.int .i64 t374,.int .i64 t375,.int .i64 t376,.int .i64 0]) ?_ 3 _ rfl;(with_reducible repeat (first|refine blk_drewN ?_ _|refine blk_drew ?_|refine blk_alloc ?_ _));refine blk_put (cs:=#[.int .i64 t374,.int .i64 t375,.int .i64 0,.int .i64 0]) ?_ 2 _ rfl;(with_reducible repeat (first|refine blk_drewN ?_ _|refine blk_drew ?_|refine blk_alloc ?_ _));refine blk_put (cs:=#[.int .i64 t374,.int .i64 0,.int .i64 0,.int .i64 0]) ?_ 1 _ rfl;(with_reducible repeat (first|refine blk_drewN ?_ _|refine blk_drew ?_|refine blk_alloc ?_ _));refine blk_put (cs:=#[.int .i64 0,.int .i64 0,.int .i64 0,.int .i64 0]) ?_ 0 _ rfl;(with_reducible repeat (first|refine blk_drewN ?_ _|refine blk_drew ?_|refine blk_alloc ?_ _));exact BK383.out) hb);replace BK384:=mk0 (blk_below (g:=gb384) (o:=.cells #[.int .i64 t378,.int .i64 t379,.int .i64 t380,.int .i64 t381] 23 (0,0)) (by (with_reducible repeat (first|refine blk_drewN ?_ _|refine blk_drew ?_|refine blk_alloc ?_ _));refine blk_put (cs:=#[.int .i64 t378,.int .i64 t379,.int .i64 t380,.int .i64 0]) ?_ 3 _ rfl;(with_reducible repeat (first|refine blk_drewN ?_ _|refine blk_drew ?_|refine blk_alloc ?_ _));refine blk_put (cs:=#[.int .i64 t378,.int .i64 t379,.int .i64 0,.int .i64 0]) ?_ 2 _ rfl;(with_reducible repeat (first|refine blk_drewN ?_ _|refine blk_drew ?_|refine blk_alloc ?_ _));refine blk_put (cs:=#[.int .i64 t378,.int .i64 0,.int .i64 0,.int .i64 0]) ?_ 1 _ rfl;(with_reducible repeat (first|refine blk_drewN ?_ _|refine blk_drew ?_|refine blk_alloc ?_ _));refine blk_put (cs:=#[.int .i64 0,.int .i64 0,.int .i64 0,.int .i64 0]) ?_ 0 _ rfl;(with_reducible repeat (first|refine blk_drewN ?_ _|refine blk_drew ?_|refine blk_alloc ?_ _));refine blk_far ?_ NB384_383.out _;(with_reducible repeat (first|refine blk_drewN ?_ _|refine blk_drew ?_|refine blk_alloc ?_ _));refine blk_far ?_ NB384_383.out _;(with_reducible repeat (first|refine blk_drewN ?_ _|refine blk_drew ?_|refine blk_alloc ?_ _));refine blk_far ?_ NB384_383.out _;(with_reducible repeat (first|refine blk_drewN ?_ _|refine blk_drew ?_|refine blk_alloc ?_ _));refine blk_far ?_ NB384_383.out _;(with_reducible repeat (first|refine blk_drewN ?_ _|refine blk_drew ?_|refine blk_alloc ?_ _));exact BK384.out) hb);replace HB:=mk0 (below_step (by repeat (first|(with_reducible first|exact HB.out|apply below_alloc|apply pw_below_drewN|apply below_drew1|refine below_set ?_ GE347.out|refine below_set ?_ GE367.out|refine below_set ?_ GE373.out|refine below_set ?_ GE383.out|refine below_set ?_ GE384.out)|exact HB.out)) hb);clear hb ho59;obtain ⟨Ao60,co60,eo60⟩:=Kd.R_slice HO353.out;subst eo60;obtain ⟨Ao61,co61,eo61⟩:=Kd.R_slice HO387.out;subst eo61)|(go_at_call 26;(with_reducible refine (bellpullref01_Same.calls k _ _ t350 _ _ y385 true _ ?side1 ?side2 ?side3 ?side4 A14.out).mono ?_);(case side1=>repeat (first|exact (Kd.R_reads' HO353.out).2.2|(with_reducible refine Kd.C_alloc ?_ _)|(with_reducible refine Kd.C_drewN ?_ _)|(with_reducible refine Kd.C_drew ?_)));(case side2=>exact (Kd.R_reads' HO353.out).2.1);(case side3=>repeat (first|exact (Kd.R_reads' HO387.out).2.2|(with_reducible refine Kd.C_alloc ?_ _)|(with_reducible refine Kd.C_drewN ?_ _)|(with_reducible refine Kd.C_drew ?_)));(case side4=>exact (Kd.R_reads' HO387.out).2.1);rintro e w' ⟨rfl,⟨nd,rfl⟩⟩;have hcz62_0:w58.cell? ⟨gb367,0,none⟩=some (.int .i64 t362):=(blk_cell BK367.out 0).trans rfl;have hcz62_1:w58.cell? ⟨gb367,1,none⟩=some (.int .i64 t363):=(blk_cell BK367.out 1).trans rfl;have hcz62_2:w58.cell? ⟨gb367,2,none⟩=some (.int .i64 t364):=(blk_cell BK367.out 2).trans rfl;have hcz62_3:w58.cell? ⟨gb367,3,none⟩=some (.int .i64 t365):=(blk_cell BK367.out 3).trans rfl;have hfz62_0:=blk_frozen BK367.out 0;have hfz62_1:=blk_frozen BK367.out 1;have hfz62_2:=blk_frozen BK367.out 2;have hfz62_3:=blk_frozen BK367.out 3;have hcz63_0:w58.cell? ⟨gb373,0,none⟩=some (.int .i64 t368):=(blk_cell BK373.out 0).trans rfl;have hcz63_1:w58.cell? ⟨gb373,1,none⟩=some (.int .i64 t369):=(blk_cell BK373.out 1).trans rfl;have hcz63_2:w58.cell? ⟨gb373,2,none⟩=some (.int .i64 t370):=(blk_cell BK373.out 2).trans rfl;have hcz63_3:w58.cell? ⟨gb373,3,none⟩=some (.int .i64 t371):=(blk_cell BK373.out 3).trans rfl;have hfz63_0:=blk_frozen BK373.out 0;have hfz63_1:=blk_frozen BK373.out 1;have hfz63_2:=blk_frozen BK373.out 2;have hfz63_3:=blk_frozen BK373.out 3;have hcz64_0:w58.cell? ⟨gb383,0,none⟩=some (.int .i64 t374):=(blk_cell BK383.out 0).trans rfl;have hcz64_1:w58.cell? ⟨gb383,1,none⟩=some (.int .i64 t375):=(blk_cell BK383.out 1).trans rfl;have hcz64_2:w58.cell? ⟨gb383,2,none⟩=some (.int .i64 t376):=(blk_cell BK383.out 2).trans rfl;have hcz64_3:w58.cell? ⟨gb383,3,none⟩=some (.int .i64 t377):=(blk_cell BK383.out 3).trans rfl;have hfz64_0:=blk_frozen BK383.out 0;have hfz64_1:=blk_frozen BK383.out 1;have hfz64_2:=blk_frozen BK383.out 2;have hfz64_3:=blk_frozen BK383.out 3;have hcz65_0:w58.cell? ⟨gb384,0,none⟩=some (.int .i64 t378):=(blk_cell BK384.out 0).trans rfl;have hcz65_1:w58.cell? ⟨gb384,1,none⟩=some (.int .i64 t379):=(blk_cell BK384.out 1).trans rfl;have hcz65_2:w58.cell? ⟨gb384,2,none⟩=some (.int .i64 t380):=(blk_cell BK384.out 2).trans rfl;have hcz65_3:w58.cell? ⟨gb384,3,none⟩=some (.int .i64 t381):=(blk_cell BK384.out 3).trans rfl;have hfz65_0:=blk_frozen BK384.out 0;have hfz65_1:=blk_frozen BK384.out 1;have hfz65_2:=blk_frozen BK384.out 2;have hfz65_3:=blk_frozen BK384.out 3))
                  go_ret;exact ⟨by first|rfl|(simp [errW_none,errW_some] <;> rfl)|(simp [*,errW_none,errW_some] <;> rfl),by repeat (first|(with_reducible first|exact HB.out|apply below_alloc|apply pw_below_drewN|apply below_drew1|refine below_set ?_ GE347.out|refine below_set ?_ GE367.out|refine below_set ?_ GE373.out|refine below_set ?_ GE383.out|refine below_set ?_ GE384.out)|exact HB.out)⟩
                 ·
                  rw [if_neg c27] at H;exact absurd H (by simp)
                ·
                 rw [if_neg c26] at H;exact absurd H (by simp)
               ·
                rw [if_neg c25] at H;exact absurd H (by simp)
              ·
               rw [if_neg c24] at H;exact absurd H (by simp)
             ·
              rw [if_neg c23] at H;exact absurd H (by simp)
            ·
             rw [if_neg c22] at H;exact absurd H (by simp)
           ·
            rw [if_neg c21] at H;exact absurd H (by simp)
          ·
           rw [if_neg c20] at H;exact absurd H (by simp)
         ·
          rw [if_neg c19] at H;exact absurd H (by simp)
        ·
         rw [if_neg c18] at H;exact absurd H (by simp)
       ·
        rw [if_neg c17] at H;exact absurd H (by simp)
      ·
       rw [if_neg c16] at H;exact absurd H (by simp)
     ·
      replace c15:=Bool.eq_false_iff.mpr c15;subst c15;have H1:(none)=some r:=by rw [if_neg (show ¬ (false=true) by decide)] at H;exact H
      clear H;have H:=H1;clear H1;exact absurd H (by simp)
    ·
     rw [if_neg c13] at H;exact absurd H (by simp)
   ·
    rw [if_neg c12] at H;exact absurd H (by simp)
  ·
   rw [if_neg c11] at H;exact absurd H (by simp)
 ·
  rw [if_neg c10] at H;exact absurd H (by simp)
end Go.Proofs.Ytgfnmimfoicmmaa.PM
