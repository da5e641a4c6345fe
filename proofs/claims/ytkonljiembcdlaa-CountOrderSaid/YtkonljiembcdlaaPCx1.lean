import Derived.Test.YtkonljiembcdlaaPCx0
import Derived.Test.YtkonljiembcdlaaMyTiny
namespace Go.Proofs.Ytkonljiembcdlaa.PC
open Go.Proofs.MyWords Go.RowKit Go.Proofs.YtkonljiembcdlaaW.PrintWords Go.Proofs.YtkonljiembcdlaaW.PrintLast Go.Proofs.YtkonljiembcdlaaW.PrintMore
attribute [local go_sem] max2_int min2_int max_two min_two max_three min_three max_four min_four   -- for this text's walks alone
set_option linter.unusedVariables false
set_option linter.unusedSimpArgs false
attribute [local go_sem] eqGuard_slices eqlnil23 neqnil23 eqlnil58 neqnil58
def Tells (g:Nat) (lb:Array Value) (p:Int → Bool) (w:World):Prop :=
  ∀ (W:World) (x:Int),Below w.heap.size w W → Calls Try.prog g (#[.int .i64 x] ++ lb) W fun e w'=>e=.returned (.bool (p x))∧Below W.heap.size W w'
def idxF (p:Int → Bool) (l:List Int):Int:=match l.findIdx? p with|some i=>(i:Int)|none=>-1
theorem idxF_some (p:Int → Bool) (l:List Int) (k:Nat) (hk:k < l.length) (h:p (rd l (k:Int))=true) (hb:∀ j,j < k → p (rd l (j:Int))=false):idxF p l=(k:Int):=by
  have:l.findIdx? p=some k:=by
    rw [List.findIdx?_eq_some_iff_getElem];refine ⟨hk,?_,fun j hj=>?_⟩;· simpa [rd,List.getD_eq_getElem?_getD,List.getElem?_eq_getElem hk] using h
    · have hjl:j < l.length:=by omega
      have:=hb j hj
      simpa [rd,List.getD_eq_getElem?_getD,List.getElem?_eq_getElem hjl] using this
  simp [idxF,this]
theorem idxF_none (p:Int → Bool) (l:List Int) (hb:∀ j,j < l.length → p (rd l (j:Int))=false):idxF p l=-1:=by (have:l.findIdx? p=none:=by rw [List.findIdx?_eq_none_iff];intro x hx;obtain ⟨j,hj,rfl⟩:=List.getElem_of_mem hx;have:=hb j hj;simpa [rd,List.getD_eq_getElem?_getD,List.getElem?_eq_getElem hj] using this);simp [idxF,this]
theorem idxF_some' (p:Int → Bool) (l:List Int) (i:Int) (h0:0 ≤ i) (h1:i < (l.length:Int)) (h:p (rd l i)=true) (hb:∀ j,j < i.toNat → p (rd l (j:Int))=false):idxF p l=i:=by obtain ⟨k,rfl⟩:=Int.eq_ofNat_of_zero_le h0;exact idxF_some p l k (by omega) h (by simpa using hb)
theorem idxF_any (p:Int → Bool) (l:List Int):l.any p=decide (0 ≤ idxF p l):=by
  unfold idxF;rcases h:l.findIdx? p with _|i
  · rw [List.findIdx?_eq_none_iff] at h
    rw [show l.any p=false from by rw [List.any_eq_false];exact fun x hx=>by simpa using h x hx]
    rfl
  · rw [List.findIdx?_eq_some_iff_getElem] at h
    obtain ⟨hi,hp,_⟩:=h
    rw [show l.any p=true from List.any_eq_true.mpr ⟨_,List.getElem_mem hi,hp⟩]
    simp
def Sofar (p:Int → Bool) (l:List Int) (k:Nat):Prop:=∀ j,j < k → p (rd l (j:Int))=false
theorem Sofar.zero (p:Int → Bool) (l:List Int):Sofar p l 0:=fun j hj=>absurd hj (by omega)
theorem Sofar.succ {p:Int → Bool} {l:List Int} {k:Nat} (h:Sofar p l k) (hk:p (rd l (k:Int))=false):Sofar p l (k + 1):=fun j hj=>by by_cases e:j=k;(· subst e;exact hk);· exact h j (by omega)
set_option maxHeartbeats 1000000 in
set_option maxRecDepth 100000 in
theorem IndexFunc_int.calls (g:Nat) (lb:Array Value) (p:Int → Bool) (L:Option Addr) (M:Nat) (B:List Int) (w:World) (F:Kd.C (Kd.int .i64) w L B.length B) (N:B.length ≤ M)
    (eg:∀ args w,(callFunc g args).run Try.prog w=.ok (.enter g args) w) (hp:Tells g lb p w) :
    Calls Try.prog 99 #[.slice L B.length M,.func (.func g) #[] lb] w fun e w'=>e=.returned (.int .i64 (idxF p B))∧Below w.heap.size w w':=by
  have O:=mk0 F;have hlen:B.length ≤ 9223372036854775807:=F.2.1;clear F N;have HP:=mk0 hp;clear hp;go_enter Try.func99,Try.ntmps99;go_wp2;go_loopw [8] (fun J w'=>∃ i:Int,J=.int .i64 i∧Aside0 (0 ≤ i∧i ≤ B.length)∧Aside0 (Sofar p B i.toNat)∧Aside0 (Below w.heap.size w w')) (fun J _=>B.length - (intOf J).toNat);case atStart=>exact ⟨0,rfl,⟨by omega,by omega⟩,⟨Sofar.zero _ _⟩,⟨Below.refl _ _⟩⟩
  case round =>
    obtain ⟨i,rfl,HI,HS,D⟩:=hrel;by_cases hlt:i < (B.length:Int)
    · have I:0 ≤ i:=HI.1.1
      obtain ⟨ad,e,hx⟩:=Kd.at_int O.1 i I hlt
      cases e
      replace hx:=bd_ D hx
      have hd:decide (i < (B.length:Int))=true:=decide_eq_true hlt
      replace I:=eq_true I
      replace hlt:=eq_true hlt
      have hw:wrap64 (i + 1)=i + 1:=by have:=HI.1;have h:=of_eq_true hlt;unfold wrap64;omega
      have HW:=mk0 hw
      clear hw
      by_cases hb:p (rd B i)=true
      · have HF:=mk0 (idxF_some' p B i (of_eq_true I) (of_eq_true hlt) hb HS.1)
        have HT:=mk0 hb
        clear hb
        go_wp2_with (fail)
        refine (HP.1 _ _ D.1).mono ?_
        rintro e Q ⟨rfl,E⟩
        rw [HT.1]
        have G:=mk0 E
        clear E
        go_wp2
        go_ret
        exact ⟨by first|(rw [HF.1];done)|(rw [HF.1];rfl),D.1.trans (G.1.mono D.1.size)⟩
      · have HT:=mk0 (Bool.eq_false_iff.mpr hb)
        clear hb
        go_wp2_with (fail)
        refine (HP.1 _ _ D.1).mono ?_
        rintro e Q ⟨rfl,E⟩
        rw [HT.1]
        have G:=mk0 E
        clear E
        go_wp2
        go_roundw
        case rel=>exact ⟨_,rfl,⟨by rw [HW.1];have:=HI.1;have:=of_eq_true hlt;omega⟩,⟨by rw [HW.1];have:=HI.1;rw [show (i + 1).toNat=i.toNat + 1 by omega];exact HS.1.succ (by rw [Int.toNat_of_nonneg this.1];exact HT.1)⟩,⟨D.1.trans (G.1.mono D.1.size)⟩⟩
        case measure=>simp only [intOf];have:=HW.1;have:=HI.1;have:=of_eq_true hlt;omega
    · have hd:decide (i < (B.length:Int))=false:=decide_eq_false hlt
      have HF:=mk0 (idxF_none p B (fun j hj=>HS.1 j (by have:=HI.1;omega)))
      clear hlt
      go_wp2
      go_ret
      exact ⟨by first|(rw [HF.1];done)|(rw [HF.1];rfl),D.1⟩
set_option maxHeartbeats 1000000 in
set_option maxRecDepth 100000 in
theorem ContainsFunc_int.calls (g:Nat) (lb:Array Value) (p:Int → Bool) (A0:Option Addr) (c0:Nat) (l0:List Int) (w:World) (hr0:Kd.C (Kd.int .i64) w A0 l0.length l0) (hc0:l0.length ≤ c0)
    (eg:∀ args w,(callFunc g args).run Try.prog w=.ok (.enter g args) w) (hp:Tells g lb p w) :
    Calls Try.prog 86 #[.slice A0 l0.length c0,.func (.func g) #[] lb] w fun e w'=>e=.returned (.bool (l0.any p))∧Below w.heap.size w w':=by
  (have HC:=fun W hr hb=>IndexFunc_int.calls g lb p A0 c0 l0 W hr hc0 eg hb);have HC1:=mk0 (HC w hr0 hp);clear HC eg hp hr0 hc0;have HA:=mk0 (idxF_any p l0);go_enter Try.func86,Try.ntmps86;go_wp2_with (go_at_call 99;refine HC1.out.mono ?_;rintro e w1 ⟨rfl,hb1⟩;have HB1:=mk0 hb1;clear hb1);go_ret;exact ⟨by first|(rw [HA.out];done)|(rw [HA.out];rfl),HB1.out⟩
-- NOT PRINTED: function 87 (count_outside_1)
def count_outside.f (l0:List Int) (a1:Int):Option (Bool):=some (l0.any (fun x=>decide (x < 0) || decide (a1 < x)))
theorem count_outside.tells (a1:Int) (B:Nat) (w:World) (hB:B < w.heap.size) (hcell:w.cell? ⟨B,0,none⟩=some (.int .i64 a1)) :
    Tells 87 #[.pointer (some ⟨B,0,none⟩)] (fun x=>decide (x < 0) || decide (a1 < x)) w:=fun W x hb=>by
  have hc:W.cell? ⟨B,0,none⟩=some (.int .i64 a1):=(hb.cell (p:=⟨B,0,none⟩) hB).trans hcell;clear hcell hb;show Calls Try.prog 87 #[.int .i64 x,.pointer (some ⟨B,0,none⟩)] W (fun e w'=>e=.returned (.bool (decide (x < 0) || decide (a1 < x)))∧Below W.heap.size W w');by_cases h1:x < 0
  · have hd:decide (x < 0)=true:=decide_eq_true h1
    rw [hd]
    go_enter Try.func87,Try.ntmps87
    go_wp2
    go_ret
    exact ⟨by simp,Below.refl _ _⟩
  · have hd:decide (x < 0)=false:=decide_eq_false h1
    rw [hd]
    go_enter Try.func87,Try.ntmps87
    go_wp2
    go_ret
    exact ⟨by simp,Below.refl _ _⟩
set_option maxHeartbeats 1000000 in
set_option maxRecDepth 100000 in
theorem count_outside.calls (A0:Option Addr) (c0:Nat) (l0:List Int) (a1:Int) (r:Bool) (w:World) (hr0:Kd.C (Kd.int .i64) w A0 l0.length l0) (hc0:l0.length ≤ c0) (h:count_outside.f l0 a1=some r) :
    Calls Try.prog 52 #[.slice A0 l0.length c0,.int .i64 a1] w fun e w'=>e=.returned (.bool r)∧Below w.heap.size w w':=by
  have hr:=mk0 (Option.some.inj h);have eg:∀ args w,(callFunc 87 args).run Try.prog w=.ok (.enter 87 args) w:=enters_of Try.func87 (by kernel_rfl) rfl;have HC:=mk0 (ContainsFunc_int.calls 87 #[.pointer (some ⟨w.heap.size,0,none⟩)] (fun x=>decide (x < 0) || decide (a1 < x)) A0 c0 l0 (w.alloc (.cells #[.int .i64 a1] 3)) (Kd.C_alloc hr0 _) hc0 eg (count_outside.tells a1 w.heap.size _ (by simp) (by simp)));clear eg hr0 h;go_enter Try.func52,Try.ntmps52;go_wp2_with (go_at_call 86;(with_reducible refine HC.out.mono ?_);rintro e w1 ⟨rfl,hb1⟩;rw [hr.out];have HB1:=mk0 hb1;clear hb1);go_ret;exact ⟨rfl,((Below.refl _ _).alloc (Nat.le_refl _) _).trans (HB1.out.mono (by simp))⟩
mutual
def count_check.j0:Nat → Int → List (List (S60)) → Bool → Bool → Bool → Option (Int)
  | 0,_,_,_,_,_=>none
  | k + 1,x0,x1,x5,x6,x7=>count_check.l0 k x0 x5 x6 x7 x1 (x1.length:Int) 0
def count_check.l0:Nat → Int → Bool → Bool → Bool → List (List (S60)) → Int → Int → Option (Int)
  | 0,_,_,_,_,_,_,_=>none
  | k + 1,x0,x5,x6,x7,x20,x21,x22=>if x22 < x21 then (if 0 ≤ x22 then (if x22 < (x20.length:Int) then (if x5=true then (count_check.j2 k x0 true x6 x7 (rd_L4 x20 x22) x20 x21 x22) else (count_check.j2 k x0 (decide (((rd_L4 x20 x22).length:Int) > 8)) x6 x7 (rd_L4 x20 x22) x20 x21 x22)) else (none)) else (none)) else (if x5=true then (some 3) else (if x6=true then (some 1) else (if x7=true then (some 2) else (some 0))))
def count_check.j2:Nat → Int → Bool → Bool → Bool → List (S60) → List (List (S60)) → Int → Int → Option (Int)
  | 0,_,_,_,_,_,_,_,_=>none
  | k + 1,x0,x5,x6,x7,x9,x20,x21,x22=>count_check.l1 k x0 x5 x6 x7 x20 x21 x22 x9 (x9.length:Int) 0
def count_check.l1:Nat → Int → Bool → Bool → Bool → List (List (S60)) → Int → Int → List (S60) → Int → Int → Option (Int)
  | 0,_,_,_,_,_,_,_,_,_,_=>none
  | k + 1,x0,x5,x6,x7,x20,x21,x22,x32,x33,x34=>if x34 < x33 then (if 0 ≤ x34 then (if x34 < (x32.length:Int) then (if x5=true then (count_check.j4 k x0 true x6 x7 x20 x21 x22 x32 x33 x34 ((rd_T60 x32 x34).f0) ((rd_T60 x32 x34).f1)) else (count_check.j4 k x0 (decide ((((rd_T60 x32 x34).f1).length:Int) > 4)) x6 x7 x20 x21 x22 x32 x33 x34 ((rd_T60 x32 x34).f0) ((rd_T60 x32 x34).f1))) else (none)) else (none)) else (count_check.l0 k x0 x5 x6 x7 x20 x21 (wrap64 (x22 + 1)))
def count_check.j4:Nat → Int → Bool → Bool → Bool → List (List (S60)) → Int → Int → List (S60) → Int → Int → List Int → List (List Int) → Option (Int)
  | 0,_,_,_,_,_,_,_,_,_,_,_,_=>none
  | k + 1,x0,x5,x6,x7,x20,x21,x22,x32,x33,x34,x104000,x104001=>if x6=true then (count_check.j5 k x0 x5 true x7 x20 x21 x22 x32 x33 x34 x104000 x104001) else ((count_outside.f x104000 20).bind fun t104=>(count_check.j5 k x0 x5 t104 x7 x20 x21 x22 x32 x33 x34 x104000 x104001))
def count_check.j5:Nat → Int → Bool → Bool → Bool → List (List (S60)) → Int → Int → List (S60) → Int → Int → List Int → List (List Int) → Option (Int)
  | 0,_,_,_,_,_,_,_,_,_,_,_,_=>none
  | k + 1,x0,x5,x6,x7,x20,x21,x22,x32,x33,x34,x104000,x104001=>if x7=true then (count_check.j6 k x0 x5 x6 true x20 x21 x22 x32 x33 x34 x104000 x104001) else (count_check.j6 k x0 x5 x6 ((x104000.length:Int) != x0) x20 x21 x22 x32 x33 x34 x104000 x104001)
def count_check.j6:Nat → Int → Bool → Bool → Bool → List (List (S60)) → Int → Int → List (S60) → Int → Int → List Int → List (List Int) → Option (Int)
  | 0,_,_,_,_,_,_,_,_,_,_,_,_=>none
  | k + 1,x0,x5,x6,x7,x20,x21,x22,x32,x33,x34,x104000,x104001=>count_check.l2 k x0 x5 x6 x7 x20 x21 x22 x32 x33 x34 x104001 (x104001.length:Int) 0
def count_check.l2:Nat → Int → Bool → Bool → Bool → List (List (S60)) → Int → Int → List (S60) → Int → Int → List (List Int) → Int → Int → Option (Int)
  | 0,_,_,_,_,_,_,_,_,_,_,_,_,_=>none
  | k + 1,x0,x5,x6,x7,x20,x21,x22,x32,x33,x34,x60,x61,x62=>if x62 < x61 then (if 0 ≤ x62 then (if x62 < (x60.length:Int) then (if x6=true then (if x7=true then (count_check.l2 k x0 x5 true true x20 x21 x22 x32 x33 x34 x60 x61 (wrap64 (x62 + 1))) else (count_check.l2 k x0 x5 true (((rd_L1 x60 x62).length:Int) != x0) x20 x21 x22 x32 x33 x34 x60 x61 (wrap64 (x62 + 1)))) else ((count_outside.f (rd_L1 x60 x62) 20).bind fun t106=>(if x7=true then (count_check.l2 k x0 x5 t106 true x20 x21 x22 x32 x33 x34 x60 x61 (wrap64 (x62 + 1))) else (count_check.l2 k x0 x5 t106 (((rd_L1 x60 x62).length:Int) != x0) x20 x21 x22 x32 x33 x34 x60 x61 (wrap64 (x62 + 1)))))) else (none)) else (none)) else (count_check.l1 k x0 x5 x6 x7 x20 x21 x22 x32 x33 (wrap64 (x34 + 1)))
end
def count_check.f (k:Nat) (a0:Int) (l1:List (List (S60))):Option (Int):=if a0 < 1 then (count_check.j0 k a0 l1 false true false) else (count_check.j0 k a0 l1 false (decide (a0 > 3)) false)
theorem count_check.mono_l:∀ k,(∀ B C D E F,LeO (count_check.j0 k B C D E F) (count_check.j0 (k + 1) B C D E F))∧(∀ B C D E F G I,LeO (count_check.l0 k B C D E F G I) (count_check.l0 (k + 1) B C D E F G I))∧(∀ B C D E F G I J,LeO (count_check.j2 k B C D E F G I J) (count_check.j2 (k + 1) B C D E F G I J))∧(∀ B C D E F G I J N O,LeO (count_check.l1 k B C D E F G I J N O) (count_check.l1 (k + 1) B C D E F G I J N O))∧(∀ B C D E F G I J N O L M,LeO (count_check.j4 k B C D E F G I J N O L M) (count_check.j4 (k + 1) B C D E F G I J N O L M))∧(∀ B C D E F G I J N O L M,LeO (count_check.j5 k B C D E F G I J N O L M) (count_check.j5 (k + 1) B C D E F G I J N O L M))∧(∀ B C D E F G I J N O L M,LeO (count_check.j6 k B C D E F G I J N O L M) (count_check.j6 (k + 1) B C D E F G I J N O L M))∧(∀ B C D E F G I J N O L M a0,LeO (count_check.l2 k B C D E F G I J N O L M a0) (count_check.l2 (k + 1) B C D E F G I J N O L M a0))
  | 0=>⟨fun _ _ _ _ _ r h=>by simp [count_check.j0] at h,fun _ _ _ _ _ _ _ r h=>by simp [count_check.l0] at h,fun _ _ _ _ _ _ _ _ r h=>by simp [count_check.j2] at h,fun _ _ _ _ _ _ _ _ _ _ r h=>by simp [count_check.l1] at h,fun _ _ _ _ _ _ _ _ _ _ _ _ r h=>by simp [count_check.j4] at h,fun _ _ _ _ _ _ _ _ _ _ _ _ r h=>by simp [count_check.j5] at h,fun _ _ _ _ _ _ _ _ _ _ _ _ r h=>by simp [count_check.j6] at h,fun _ _ _ _ _ _ _ _ _ _ _ _ _ r h=>by simp [count_check.l2] at h⟩
  | k + 1=>by
    obtain ⟨Q,R,T,U,V,X,Y,Z⟩:=count_check.mono_l k;refine ⟨?_,?_,?_,?_,?_,?_,?_,?_⟩
    · intro B C D E F
      unfold count_check.j0
      with_reducible repeat' first|exact Q _ _ _ _ _|exact R _ _ _ _ _ _ _|exact T _ _ _ _ _ _ _ _|exact U _ _ _ _ _ _ _ _ _ _|exact V _ _ _ _ _ _ _ _ _ _ _ _|exact X _ _ _ _ _ _ _ _ _ _ _ _|exact Y _ _ _ _ _ _ _ _ _ _ _ _|exact Z _ _ _ _ _ _ _ _ _ _ _ _ _|exact LeO.refl _|exact LeO.none _|refine LeO.ite ?_ ?_|refine LeO.bind ?_ (fun _=>?_)
    · intro B C D E F G I
      unfold count_check.l0
      with_reducible repeat' first|exact Q _ _ _ _ _|exact R _ _ _ _ _ _ _|exact T _ _ _ _ _ _ _ _|exact U _ _ _ _ _ _ _ _ _ _|exact V _ _ _ _ _ _ _ _ _ _ _ _|exact X _ _ _ _ _ _ _ _ _ _ _ _|exact Y _ _ _ _ _ _ _ _ _ _ _ _|exact Z _ _ _ _ _ _ _ _ _ _ _ _ _|exact LeO.refl _|exact LeO.none _|refine LeO.ite ?_ ?_|refine LeO.bind ?_ (fun _=>?_)
    · intro B C D E F G I J
      unfold count_check.j2
      with_reducible repeat' first|exact Q _ _ _ _ _|exact R _ _ _ _ _ _ _|exact T _ _ _ _ _ _ _ _|exact U _ _ _ _ _ _ _ _ _ _|exact V _ _ _ _ _ _ _ _ _ _ _ _|exact X _ _ _ _ _ _ _ _ _ _ _ _|exact Y _ _ _ _ _ _ _ _ _ _ _ _|exact Z _ _ _ _ _ _ _ _ _ _ _ _ _|exact LeO.refl _|exact LeO.none _|refine LeO.ite ?_ ?_|refine LeO.bind ?_ (fun _=>?_)
    · intro B C D E F G I J N O
      unfold count_check.l1
      with_reducible repeat' first|exact Q _ _ _ _ _|exact R _ _ _ _ _ _ _|exact T _ _ _ _ _ _ _ _|exact U _ _ _ _ _ _ _ _ _ _|exact V _ _ _ _ _ _ _ _ _ _ _ _|exact X _ _ _ _ _ _ _ _ _ _ _ _|exact Y _ _ _ _ _ _ _ _ _ _ _ _|exact Z _ _ _ _ _ _ _ _ _ _ _ _ _|exact LeO.refl _|exact LeO.none _|refine LeO.ite ?_ ?_|refine LeO.bind ?_ (fun _=>?_)
    · intro B C D E F G I J N O L M
      unfold count_check.j4
      with_reducible repeat' first|exact Q _ _ _ _ _|exact R _ _ _ _ _ _ _|exact T _ _ _ _ _ _ _ _|exact U _ _ _ _ _ _ _ _ _ _|exact V _ _ _ _ _ _ _ _ _ _ _ _|exact X _ _ _ _ _ _ _ _ _ _ _ _|exact Y _ _ _ _ _ _ _ _ _ _ _ _|exact Z _ _ _ _ _ _ _ _ _ _ _ _ _|exact LeO.refl _|exact LeO.none _|refine LeO.ite ?_ ?_|refine LeO.bind ?_ (fun _=>?_)
    · intro B C D E F G I J N O L M
      unfold count_check.j5
      with_reducible repeat' first|exact Q _ _ _ _ _|exact R _ _ _ _ _ _ _|exact T _ _ _ _ _ _ _ _|exact U _ _ _ _ _ _ _ _ _ _|exact V _ _ _ _ _ _ _ _ _ _ _ _|exact X _ _ _ _ _ _ _ _ _ _ _ _|exact Y _ _ _ _ _ _ _ _ _ _ _ _|exact Z _ _ _ _ _ _ _ _ _ _ _ _ _|exact LeO.refl _|exact LeO.none _|refine LeO.ite ?_ ?_|refine LeO.bind ?_ (fun _=>?_)
    · intro B C D E F G I J N O L M
      unfold count_check.j6
      with_reducible repeat' first|exact Q _ _ _ _ _|exact R _ _ _ _ _ _ _|exact T _ _ _ _ _ _ _ _|exact U _ _ _ _ _ _ _ _ _ _|exact V _ _ _ _ _ _ _ _ _ _ _ _|exact X _ _ _ _ _ _ _ _ _ _ _ _|exact Y _ _ _ _ _ _ _ _ _ _ _ _|exact Z _ _ _ _ _ _ _ _ _ _ _ _ _|exact LeO.refl _|exact LeO.none _|refine LeO.ite ?_ ?_|refine LeO.bind ?_ (fun _=>?_)
    · intro B C D E F G I J N O L M a0
      unfold count_check.l2
      with_reducible repeat' first|exact Q _ _ _ _ _|exact R _ _ _ _ _ _ _|exact T _ _ _ _ _ _ _ _|exact U _ _ _ _ _ _ _ _ _ _|exact V _ _ _ _ _ _ _ _ _ _ _ _|exact X _ _ _ _ _ _ _ _ _ _ _ _|exact Y _ _ _ _ _ _ _ _ _ _ _ _|exact Z _ _ _ _ _ _ _ _ _ _ _ _ _|exact LeO.refl _|exact LeO.none _|refine LeO.ite ?_ ?_|refine LeO.bind ?_ (fun _=>?_)
theorem count_check.mono:∀ a0 a1 k,LeO (count_check.f k a0 a1) (count_check.f (k + 1) a0 a1):=by intro a0 a1 k;obtain ⟨ih0,ih1,ih2,ih3,ih4,ih5,ih6,ih7⟩:=count_check.mono_l k;unfold count_check.f;with_reducible repeat' first|exact ih0 _ _ _ _ _|exact ih1 _ _ _ _ _ _ _|exact ih2 _ _ _ _ _ _ _ _|exact ih3 _ _ _ _ _ _ _ _ _ _|exact ih4 _ _ _ _ _ _ _ _ _ _ _ _|exact ih5 _ _ _ _ _ _ _ _ _ _ _ _|exact ih6 _ _ _ _ _ _ _ _ _ _ _ _|exact ih7 _ _ _ _ _ _ _ _ _ _ _ _ _|exact LeO.refl _|exact LeO.none _|refine LeO.ite ?_ ?_|refine LeO.bind ?_ (fun _=>?_)
set_option maxHeartbeats 8000000 in
set_option maxRecDepth 100000 in
theorem count_check.calls (k:Nat) (O:Int) (A1:Option Addr) (c1:Nat) (E:List (List (S60))) (r:Int) (w:World) (l7:Kd.C (Kd.slice 60 k60) w A1 E.length E) (l8:E.length ≤ c1) (h:count_check.f k O E=some r) :
    Calls Try.prog 51 #[.int .i64 O,.slice A1 E.length c1] w fun e w'=>e=.returned (.int .i64 r)∧Below w.heap.size w w':=by
 have n4:=Try.underlying60;have m5:=mk0 l7;have n5:=mk0 l8;clear l7 l8;have I:=mk0 (Below.refl w.heap.size w);have H:(if O < 1 then (count_check.j0 k O E false true false) else (count_check.j0 k O E false (decide (O > 3)) false))=some r:=h;clear h;have j8:=mk0 H;clear H;go_enter Try.func51,Try.ntmps51;go_upto_region 1 with (fail);go_cut [5,6,7] (fun v5 v6 v7 wc=>∃ (kq:Nat) (b5:Bool) (a2:Bool) (V:Bool),v5=.bool b5∧v6=.bool a2∧v7=.bool V∧Aside0 (count_check.j0 kq O E b5 a2 V=some r)∧Aside0 (kq ≤ k)∧Aside0 (Below w.heap.size w wc));case first =>have H:=j8.1;clear j8;by_cases c4:O < 1;(· rw [if_pos c4] at H;have c4b0:decide (O < 1)=true:=decide_eq_true c4;clear c4;(first|rw [c4b0]|(simp only [i64_w,i32_w];rw [c4b0])|skip);have H':=mk0 H;clear H;go_wp2;go_meet;case rel=>exact ⟨_,(false),(true),(false),(by first|rfl|(simp;done)|(simp [*];done)),(by first|rfl|(simp;done)|(simp [*];done)),(by first|rfl|(simp;done)|(simp [*];done)),H',⟨by first|omega|exact Nat.le_refl _⟩,⟨by exact I.1⟩⟩);· rw [if_neg c4] at H;have c4b0:decide (O < 1)=false:=decide_eq_false c4;clear c4;(first|rw [c4b0]|(simp only [i64_w,i32_w];rw [c4b0])|skip);have H':=mk0 H;clear H;go_wp2;go_meet;case rel=>exact ⟨_,(false),(decide (O > 3)),(false),(by first|rfl|(simp;done)|(simp [*];done)),(by first|rfl|(simp;done)|(simp [*];done)),(by first|rfl|(simp;done)|(simp [*];done)),H',⟨by first|omega|exact Nat.le_refl _⟩,⟨by exact I.1⟩⟩
 case rest =>
  (clear j8;try clear c1);(try clear p2);(try clear c4);try clear c4b0
  obtain ⟨kq,b5,a2,V,rfl,rfl,rfl,HA,Z,I⟩:=hcut;cases kq with
  | zero=>exact absurd HA.1 (by simp [count_check.j0])
  | succ kj2 =>
   have H:=HA.1;clear HA;simp only [count_check.j0] at H;have H':=mk0 H;clear H;go_wp2;go_loopg [5,6,7,22] kj2 (fun kq v5 v6 v7 m6 w'=>∃ (b5:Bool) (a2:Bool) (V:Bool) (B:Int),v5=.bool b5∧v6=.bool a2∧v7=.bool V∧m6=.int .i64 B∧Aside0 (count_check.l0 kq O b5 a2 V E (E.length:Int) B=some r)∧Aside0 (kq ≤ kj2)∧Aside0 (Below w.heap.size w w'));case atStart=>exact ⟨(b5),(a2),(V),(0),(by first|rfl|(simp;done)|(simp [*];done)),(by first|rfl|(simp;done)|(simp [*];done)),(by first|rfl|(simp;done)|(simp [*];done)),(by first|rfl|(simp;done)|(simp [*];done)),H',⟨Nat.le_refl _⟩,⟨by exact I.1⟩⟩
   case round =>
    (clear H';try clear c1);(try clear p2);(try clear c4);(try clear c4b0);try clear p2
    obtain ⟨b5,a2,V,B,rfl,rfl,rfl,rfl,HA,a1,I⟩:=hrel;cases gk with
    | zero=>exact absurd HA.1 (by simp [count_check.l0])
    | succ k2 =>
     have H:=HA.1;clear HA;simp only [count_check.l0] at H;by_cases c5:B < (E.length:Int)
     ·
      rw [if_pos c5] at H;have c5b0:decide (B < (E.length:Int))=true:=decide_eq_true c5;clear c5;by_cases c6:0 ≤ B
      ·
       rw [if_pos c6] at H;have c6b0:decide (0 ≤ B)=true:=decide_eq_true c6;clear c6;by_cases c7:B < (E.length:Int)
       ·
        rw [if_pos c7] at H;have c7b0:decide (B < (E.length:Int))=true:=decide_eq_true c7;clear c7;have j9:=mk0 H;clear H;have b9:0 ≤ (B:Int):=of_decide_eq_true (by assumption);have c0:B < (E.length:Int):=of_decide_eq_true (by assumption);obtain ⟨n2,m7,m8,m0,T,g0,g1⟩:=at_L4 m5.1 B b9 c0;cases m0;replace T:=bd_ I T;have i6:=mk0 g1;have m2:=mk0 g0;clear g1 g0;replace b9:=eq_true b9;replace c0:=eq_true c0;go_upto_region 5 with (fail);go_cut [5] (fun v5 wc=>∃ (kq:Nat) (h4:Bool),v5=.bool h4∧Aside0 (count_check.j2 kq O h4 a2 V (rd_L4 E B) E (E.length:Int) B=some r)∧Aside0 (kq ≤ k2)∧Aside0 (Below w.heap.size w wc));case first =>have H:=j9.1;clear j9;by_cases c9:b5=true;(· (subst c9;have J:(count_check.j2 k2 O true a2 V (rd_L4 E B) E (E.length:Int) B)=some r:=by rw [if_pos rfl] at H;exact H);clear H;have H:=J;clear J;have H':=mk0 H;clear H;go_wp2;go_meet;case rel=>exact ⟨_,(true),(by first|rfl|(simp;done)|(simp [*];done)),H',⟨by have:=Z.1;have:=a1.1;first|omega|exact Nat.le_refl _⟩,⟨by exact I.1⟩⟩);· (replace c9:=Bool.eq_false_iff.mpr c9;subst c9;have J:(count_check.j2 k2 O (decide (((rd_L4 E B).length:Int) > 8)) a2 V (rd_L4 E B) E (E.length:Int) B)=some r:=by rw [if_neg (show ¬ (false=true) by decide)] at H;exact H);clear H;have H:=J;clear J;have H':=mk0 H;clear H;go_wp2;go_meet;case rel=>exact ⟨_,(decide (((rd_L4 E B).length:Int) > 8)),(by first|rfl|(simp;done)|(simp [*];done)),H',⟨by have:=Z.1;have:=a1.1;first|omega|exact Nat.le_refl _⟩,⟨by exact I.1⟩⟩
        case rest =>
         (clear j9;try clear c1);(try clear p1);(try clear q1);(try clear hx1);(try clear p2);(try clear c4);(try clear c4b0);(try clear c5);(try clear c5b0);(try clear c6);(try clear c6b0);(try clear c7);(try clear c7b0);(try clear c9);(try clear T);(try clear b9);(try clear p2);try clear c0
         obtain ⟨kq,h4,rfl,HA,a6,I⟩:=hcut;cases kq with
         | zero=>exact absurd HA.1 (by simp [count_check.j2])
         | succ kj7 =>
          have H:=HA.1;clear HA;simp only [count_check.j2] at H;have H':=mk0 H;clear H;go_wp2;go_loopg [5,6,7,34] kj7 (fun kq v5 v6 v7 m9 w'=>∃ (f3:Bool) (d0:Bool) (b2:Bool) (D:Int),v5=.bool f3∧v6=.bool d0∧v7=.bool b2∧m9=.int .i64 D∧Aside0 (count_check.l1 kq O f3 d0 b2 E (E.length:Int) B (rd_L4 E B) ((rd_L4 E B).length:Int) D=some r)∧Aside0 (kq ≤ kj7)∧Aside0 (Below w.heap.size w w'));case atStart=>exact ⟨(h4),(a2),(V),(0),(by first|rfl|(simp;done)|(simp [*];done)),(by first|rfl|(simp;done)|(simp [*];done)),(by first|rfl|(simp;done)|(simp [*];done)),(by first|rfl|(simp;done)|(simp [*];done)),H',⟨Nat.le_refl _⟩,⟨by exact I.1⟩⟩
          case round =>
           (clear H';try clear c1);(try clear p1);(try clear q1);(try clear hx1);(try clear p2);(try clear c4);(try clear c4b0);(try clear c5);(try clear c5b0);(try clear c6);(try clear c6b0);(try clear c7);(try clear c7b0);(try clear c9);(try clear T);(try clear p1);(try clear b9);(try clear p2);(try clear q1);try clear c0
           obtain ⟨f3,d0,b2,D,rfl,rfl,rfl,rfl,HA,a7,I⟩:=hrel;cases gk with
           | zero=>exact absurd HA.1 (by simp [count_check.l1])
           | succ k4 =>
            have H:=HA.1;clear HA;simp only [count_check.l1] at H;by_cases c10:D < ((rd_L4 E B).length:Int)
            ·
             rw [if_pos c10] at H;have c10b0:decide (D < ((rd_L4 E B).length:Int))=true:=decide_eq_true c10;clear c10;by_cases c11:0 ≤ D
             ·
              rw [if_pos c11] at H;have c11b0:decide (0 ≤ D)=true:=decide_eq_true c11;clear c11;by_cases c12:D < ((rd_L4 E B).length:Int)
              ·
               rw [if_pos c12] at H;have c12b0:decide (D < ((rd_L4 E B).length:Int))=true:=decide_eq_true c12;clear c12;have h7:=mk0 H;clear H;have e2:0 ≤ (D:Int):=of_decide_eq_true (by assumption);have e3:D < ((rd_L4 E B).length:Int):=of_decide_eq_true (by assumption);obtain ⟨n3,a3,a4,b3,b4,m1,a8,a9,g2,g3,g4,g5⟩:=at_T60 i6.1 D e2 e3;cases m1;replace a8:=bd_ I a8;replace a9:=bd_ I a9;have i7:=mk0 g3;have i8:=mk0 g2;clear g3 g2;have d2:=mk0 g5;have m3:=mk0 g4;clear g5 g4;replace e2:=eq_true e2;replace e3:=eq_true e3;go_upto_region 9 with (first|((with_reducible refine gate_dst (N:=11) rfl ?_);(try (refine gate_guard (by rfl) ?_;dsimp only));refine box_event ?hg (N:=11) ?hd (cs:=#[.slice none 0 0,.slice none 0 0]) (t:=60) ?hr ?_;(case hd=>rfl);(case hg=>rfl);(case hr=>first|(go_simp;done)|(go_simp;rfl));intro b0 hg n6 l3 hb;have G:=mk0 (l3);have l6:=szw hg I;have U:=l6;replace I:=bst I hb;clear hb l3 hg;have d3:=q0_ G;have d4:=q1_ G;have d5:=blk_frozen G.1 0;have d6:=blk_frozen G.1 1));(try simp only [Act.put,s0_,s1_,s2_]);go_cut [5] (fun v5 wc=>∃ (kq:Nat) (M:Bool),v5=.bool M∧Aside0 (count_check.j4 kq O M d0 b2 E (E.length:Int) B (rd_L4 E B) ((rd_L4 E B).length:Int) D ((rd_T60 (rd_L4 E B) D).f0) ((rd_T60 (rd_L4 E B) D).f1)=some r)∧Aside0 (kq ≤ k4)∧Aside0 (wc.heap[b0]?=some (.cells #[(.slice a3 ((rd_T60 (rd_L4 E B) D).f0).length a4),(.slice b3 ((rd_T60 (rd_L4 E B) D).f1).length b4)] 60 (0,0)))∧Aside0 (Below w.heap.size w wc));case first =>have H:=h7.1;clear h7;by_cases e9:f3=true;(· (subst e9;have J:(count_check.j4 k4 O true d0 b2 E (E.length:Int) B (rd_L4 E B) ((rd_L4 E B).length:Int) D ((rd_T60 (rd_L4 E B) D).f0) ((rd_T60 (rd_L4 E B) D).f1))=some r:=by rw [if_pos rfl] at H;exact H);clear H;have H:=J;clear J;have H':=mk0 H;clear H;go_wp2;go_meet;case rel=>exact ⟨_,(true),(by first|rfl|(simp;done)|(simp [*];done)),H',⟨by have:=Z.1;have:=a1.1;have:=a6.1;have:=a7.1;first|omega|exact Nat.le_refl _⟩,⟨by refine blk_put (cs:=#[.slice a3 ((rd_T60 (rd_L4 E B) D).f0).length a4,.slice none 0 0]) ?_ 1 _ rfl;refine blk_put (cs:=#[.slice none 0 0,.slice none 0 0]) ?_ 0 _ rfl;exact G.1⟩,⟨by repeat (first|(with_reducible first|exact I.1|apply below_alloc|apply pw_below_drewN|apply below_drew1|refine below_set ?_ U.1)|exact I.1)⟩⟩);· (replace e9:=Bool.eq_false_iff.mpr e9;subst e9;have J:(count_check.j4 k4 O (decide ((((rd_T60 (rd_L4 E B) D).f1).length:Int) > 4)) d0 b2 E (E.length:Int) B (rd_L4 E B) ((rd_L4 E B).length:Int) D ((rd_T60 (rd_L4 E B) D).f0) ((rd_T60 (rd_L4 E B) D).f1))=some r:=by rw [if_neg (show ¬ (false=true) by decide)] at H;exact H);clear H;have H:=J;clear J;have H':=mk0 H;clear H;have d7:=q0_ G;have d8:=q1_ G;have d9:=blk_frozen G.1 0;have e0:=blk_frozen G.1 1;go_wp2;go_meet;case rel=>exact ⟨_,(decide ((((rd_T60 (rd_L4 E B) D).f1).length:Int) > 4)),(by first|rfl|(simp;done)|(simp [*];done)),H',⟨by have:=Z.1;have:=a1.1;have:=a6.1;have:=a7.1;first|omega|exact Nat.le_refl _⟩,⟨by refine blk_put (cs:=#[.slice a3 ((rd_T60 (rd_L4 E B) D).f0).length a4,.slice none 0 0]) ?_ 1 _ rfl;refine blk_put (cs:=#[.slice none 0 0,.slice none 0 0]) ?_ 0 _ rfl;exact G.1⟩,⟨by repeat (first|(with_reducible first|exact I.1|apply below_alloc|apply pw_below_drewN|apply below_drew1|refine below_set ?_ U.1)|exact I.1)⟩⟩
               case rest =>
                (clear h7;try clear c1);(try clear p1);(try clear q1);(try clear hx1);(try clear p2);(try clear c4);(try clear c4b0);(try clear c5);(try clear c5b0);(try clear c6);(try clear c6b0);(try clear c7);(try clear c7b0);(try clear c9);(try clear c10);(try clear c10b0);(try clear p10);(try clear q10);(try clear hx10);(try clear c11);(try clear c11b0);(try clear c12);(try clear c12b0);(try clear e9);(try clear d3);(try clear d4);(try clear d7);(try clear d8);(try clear d5);(try clear d6);(try clear d9);(try clear e0);(try clear T);(try clear a8);(try clear a9);(try clear p1);(try clear b9);(try clear e2);(try clear p2);(try clear q1);(try clear c0);try clear e3
                obtain ⟨kq,M,rfl,HA,a5,G,I⟩:=hcut;cases kq with
                | zero=>exact absurd HA.1 (by simp [count_check.j4])
                | succ kj12 =>
                 have H:=HA.1;clear HA;simp only [count_check.j4] at H;have h8:=mk0 H;clear H;go_upto_region 10 with (fail);go_cut [6] (fun v6 wc=>∃ (kq:Nat) (c3:Bool),v6=.bool c3∧Aside0 (count_check.j5 kq O M c3 b2 E (E.length:Int) B (rd_L4 E B) ((rd_L4 E B).length:Int) D ((rd_T60 (rd_L4 E B) D).f0) ((rd_T60 (rd_L4 E B) D).f1)=some r)∧Aside0 (kq ≤ kj12)∧Aside0 (wc.heap[b0]?=some (.cells #[(.slice a3 ((rd_T60 (rd_L4 E B) D).f0).length a4),(.slice b3 ((rd_T60 (rd_L4 E B) D).f1).length b4)] 60 (0,0)))∧Aside0 (Below w.heap.size w wc));case first =>have H:=h8.1;clear h8;by_cases f4:d0=true;(· (subst f4;have J:(count_check.j5 kj12 O M true b2 E (E.length:Int) B (rd_L4 E B) ((rd_L4 E B).length:Int) D ((rd_T60 (rd_L4 E B) D).f0) ((rd_T60 (rd_L4 E B) D).f1))=some r:=by rw [if_pos rfl] at H;exact H);clear H;have H:=J;clear J;have H':=mk0 H;clear H;go_wp2;go_meet;case rel=>exact ⟨_,(true),(by first|rfl|(simp;done)|(simp [*];done)),H',⟨by have:=Z.1;have:=a1.1;have:=a6.1;have:=a7.1;have:=a5.1;first|omega|exact Nat.le_refl _⟩,⟨by exact G.1⟩,⟨by repeat (first|(with_reducible first|exact I.1|apply below_alloc|apply pw_below_drewN|apply below_drew1|refine below_set ?_ U.1)|exact I.1)⟩⟩);· (replace f4:=Bool.eq_false_iff.mpr f4;subst f4;have J:((count_outside.f ((rd_T60 (rd_L4 E B) D).f0) 20).bind fun h5=>(count_check.j5 kj12 O M h5 b2 E (E.length:Int) B (rd_L4 E B) ((rd_L4 E B).length:Int) D ((rd_T60 (rd_L4 E B) D).f0) ((rd_T60 (rd_L4 E B) D).f1)))=some r:=by rw [if_neg (show ¬ (false=true) by decide)] at H;exact H);clear H;have H:=J;clear J;replace H:=Option.bind_eq_some_iff.mp H;obtain ⟨h5,l4,H⟩:=H;(try dsimp only at H);have n0:=mk0 l4;clear l4;have H':=mk0 H;clear H;have e5:wc.cell? ⟨b0,0,none⟩=some (.slice a3 ((rd_T60 (rd_L4 E B) D).f0).length a4):=q0_ G;have e6:wc.cell? ⟨b0,1,none⟩=some (.slice b3 ((rd_T60 (rd_L4 E B) D).f1).length b4):=q1_ G;have e7:=blk_frozen G.1 0;have e8:=blk_frozen G.1 1;go_wp2_with (first|(go_at_call 52;(with_reducible refine (count_outside.calls _ _ ((rd_T60 (rd_L4 E B) D).f0) 20 h5 _ ?side1 ?side2 n0.1).mono ?_);(case side1=>repeat (first|exact (Kd.C_below i7.1 I.1)|(with_reducible refine Kd.C_alloc ?_ _)|(with_reducible refine Kd.C_drewN ?_ _)|(with_reducible refine Kd.C_drew ?_)));(case side2=>exact i8.1);rintro e n7 ⟨rfl,hb⟩;replace G:=bkb G hb;replace I:=bst I hb;(try clear hb)));go_meet;case rel=>exact ⟨_,(h5),(by first|rfl|(simp;done)|(simp [*];done)),H',⟨by have:=Z.1;have:=a1.1;have:=a6.1;have:=a7.1;have:=a5.1;first|omega|exact Nat.le_refl _⟩,⟨by exact G.1⟩,⟨by repeat (first|(with_reducible first|exact I.1|apply below_alloc|apply pw_below_drewN|apply below_drew1|refine below_set ?_ U.1)|exact I.1)⟩⟩
                 case rest =>
                  (clear h8;try clear c1);(try clear p1);(try clear q1);(try clear hx1);(try clear p2);(try clear c4);(try clear c4b0);(try clear c5);(try clear c5b0);(try clear c6);(try clear c6b0);(try clear c7);(try clear c7b0);(try clear c9);(try clear c10);(try clear c10b0);(try clear p10);(try clear q10);(try clear hx10);(try clear c11);(try clear c11b0);(try clear c12);(try clear c12b0);(try clear e9);(try clear f4);(try clear d3);(try clear d4);(try clear d7);(try clear d8);(try clear e5);(try clear e6);(try clear d5);(try clear d6);(try clear d9);(try clear e0);(try clear e7);(try clear e8);(try clear T);(try clear a8);(try clear a9);(try clear p1);(try clear p10);(try clear b9);(try clear e2);(try clear p2);(try clear q1);(try clear q10);(try clear c0);try clear e3
                  obtain ⟨kq,c3,rfl,HA,b1,G,I⟩:=hcut;cases kq with
                  | zero=>exact absurd HA.1 (by simp [count_check.j5])
                  | succ kj17 =>
                   have H:=HA.1;clear HA;simp only [count_check.j5] at H;have h9:=mk0 H;clear H;go_upto_region 11 with (fail);go_cut [7] (fun v7 wc=>∃ (kq:Nat) (f2:Bool),v7=.bool f2∧Aside0 (count_check.j6 kq O M c3 f2 E (E.length:Int) B (rd_L4 E B) ((rd_L4 E B).length:Int) D ((rd_T60 (rd_L4 E B) D).f0) ((rd_T60 (rd_L4 E B) D).f1)=some r)∧Aside0 (kq ≤ kj17)∧Aside0 (wc.heap[b0]?=some (.cells #[(.slice a3 ((rd_T60 (rd_L4 E B) D).f0).length a4),(.slice b3 ((rd_T60 (rd_L4 E B) D).f1).length b4)] 60 (0,0)))∧Aside0 (Below w.heap.size w wc));case first =>have H:=h9.1;clear h9;by_cases g6:b2=true;(· (subst g6;have J:(count_check.j6 kj17 O M c3 true E (E.length:Int) B (rd_L4 E B) ((rd_L4 E B).length:Int) D ((rd_T60 (rd_L4 E B) D).f0) ((rd_T60 (rd_L4 E B) D).f1))=some r:=by rw [if_pos rfl] at H;exact H);clear H;have H:=J;clear J;have H':=mk0 H;clear H;go_wp2;go_meet;case rel=>exact ⟨_,(true),(by first|rfl|(simp;done)|(simp [*];done)),H',⟨by have:=Z.1;have:=a1.1;have:=a6.1;have:=a7.1;have:=a5.1;have:=b1.1;first|omega|exact Nat.le_refl _⟩,⟨by exact G.1⟩,⟨by repeat (first|(with_reducible first|exact I.1|apply below_alloc|apply pw_below_drewN|apply below_drew1|refine below_set ?_ U.1)|exact I.1)⟩⟩);· (replace g6:=Bool.eq_false_iff.mpr g6;subst g6;have J:(count_check.j6 kj17 O M c3 ((((rd_T60 (rd_L4 E B) D).f0).length:Int) != O) E (E.length:Int) B (rd_L4 E B) ((rd_L4 E B).length:Int) D ((rd_T60 (rd_L4 E B) D).f0) ((rd_T60 (rd_L4 E B) D).f1))=some r:=by rw [if_neg (show ¬ (false=true) by decide)] at H;exact H);clear H;have H:=J;clear J;have H':=mk0 H;clear H;have g7:wc.cell? ⟨b0,0,none⟩=some (.slice a3 ((rd_T60 (rd_L4 E B) D).f0).length a4):=q0_ G;have g8:wc.cell? ⟨b0,1,none⟩=some (.slice b3 ((rd_T60 (rd_L4 E B) D).f1).length b4):=q1_ G;have g9:=blk_frozen G.1 0;have h0:=blk_frozen G.1 1;go_wp2;go_meet;case rel=>exact ⟨_,(((((rd_T60 (rd_L4 E B) D).f0).length:Int) != O)),(by first|rfl|(simp;done)|(simp [*];done)),H',⟨by have:=Z.1;have:=a1.1;have:=a6.1;have:=a7.1;have:=a5.1;have:=b1.1;first|omega|exact Nat.le_refl _⟩,⟨by exact G.1⟩,⟨by repeat (first|(with_reducible first|exact I.1|apply below_alloc|apply pw_below_drewN|apply below_drew1|refine below_set ?_ U.1)|exact I.1)⟩⟩
                   case rest =>
                    (clear h9;try clear c1);(try clear p1);(try clear q1);(try clear hx1);(try clear c2);(try clear p2);(try clear c4);(try clear c4b0);(try clear c5);(try clear c5b0);(try clear c6);(try clear c6b0);(try clear c7);(try clear c7b0);(try clear c9);(try clear c10);(try clear c10b0);(try clear p10);(try clear q10);(try clear hx10);(try clear c11);(try clear c11b0);(try clear c12);(try clear c12b0);(try clear e9);(try clear f4);(try clear g6);(try clear d3);(try clear d4);(try clear d7);(try clear d8);(try clear e5);(try clear e6);(try clear g7);(try clear g8);(try clear d5);(try clear d6);(try clear d9);(try clear e0);(try clear e7);(try clear e8);(try clear g9);(try clear h0);(try clear T);(try clear a8);(try clear a9);(try clear p1);(try clear p10);(try clear b9);(try clear e2);(try clear p2);(try clear q1);(try clear q10);(try clear c0);try clear e3
                    obtain ⟨kq,f2,rfl,HA,b6,G,I⟩:=hcut;cases kq with
                    | zero=>exact absurd HA.1 (by simp [count_check.j6])
                    | succ kj22 =>
                     have H:=HA.1;clear HA;simp only [count_check.j6] at H;have H':=mk0 H;clear H;have i9:wc.cell? ⟨b0,0,none⟩=some (.slice a3 ((rd_T60 (rd_L4 E B) D).f0).length a4):=q0_ G;have j1:wc.cell? ⟨b0,1,none⟩=some (.slice b3 ((rd_T60 (rd_L4 E B) D).f1).length b4):=q1_ G;have j3:=blk_frozen G.1 0;have j7:=blk_frozen G.1 1;go_wp2;go_loopg [6,7,62] kj22 (fun kq v6 v7 n1 w'=>∃ (f5:Bool) (d1:Bool) (F:Int),v6=.bool f5∧v7=.bool d1∧n1=.int .i64 F∧Aside0 (count_check.l2 kq O M f5 d1 E (E.length:Int) B (rd_L4 E B) ((rd_L4 E B).length:Int) D ((rd_T60 (rd_L4 E B) D).f1) (((rd_T60 (rd_L4 E B) D).f1).length:Int) F=some r)∧Aside0 (kq ≤ kj22)∧Aside0 (w'.heap[b0]?=some (.cells #[(.slice a3 ((rd_T60 (rd_L4 E B) D).f0).length a4),(.slice b3 ((rd_T60 (rd_L4 E B) D).f1).length b4)] 60 (0,0)))∧Aside0 (Below w.heap.size w w'));case atStart=>exact ⟨(c3),(f2),(0),(by first|rfl|(simp;done)|(simp [*];done)),(by first|rfl|(simp;done)|(simp [*];done)),(by first|rfl|(simp;done)|(simp [*];done)),H',⟨Nat.le_refl _⟩,⟨by exact G.1⟩,⟨by repeat (first|(with_reducible first|exact I.1|apply below_alloc|apply pw_below_drewN|apply below_drew1|refine below_set ?_ U.1)|exact I.1)⟩⟩
                     case round =>
                      (clear H';try clear c1);(try clear p1);(try clear q1);(try clear hx1);(try clear c2);(try clear p2);(try clear c4);(try clear c4b0);(try clear c5);(try clear c5b0);(try clear c6);(try clear c6b0);(try clear c7);(try clear c7b0);(try clear c9);(try clear c10);(try clear c10b0);(try clear p10);(try clear q10);(try clear hx10);(try clear c11);(try clear c11b0);(try clear c12);(try clear c12b0);(try clear e9);(try clear f4);(try clear g6);(try clear d3);(try clear d4);(try clear d7);(try clear d8);(try clear e5);(try clear e6);(try clear g7);(try clear g8);(try clear i9);(try clear j1);(try clear d5);(try clear d6);(try clear d9);(try clear e0);(try clear e7);(try clear e8);(try clear g9);(try clear h0);(try clear j3);(try clear j7);(try clear T);(try clear a8);(try clear a9);(try clear p1);(try clear p10);(try clear b9);(try clear e2);(try clear p2);(try clear q1);(try clear q10);(try clear c0);try clear e3
                      obtain ⟨f5,d1,F,rfl,rfl,rfl,HA,e1,G,I⟩:=hrel;cases gk with
                      | zero=>exact absurd HA.1 (by simp [count_check.l2])
                      | succ k8 =>have H:=HA.1;clear HA;simp only [count_check.l2] at H;by_cases c27:F < (((rd_T60 (rd_L4 E B) D).f1).length:Int);(· rw [if_pos c27] at H;have c27b0:decide (F < (((rd_T60 (rd_L4 E B) D).f1).length:Int))=true:=decide_eq_true c27;clear c27;by_cases c28:0 ≤ F;(· rw [if_pos c28] at H;have c28b0:decide (0 ≤ F)=true:=decide_eq_true c28;clear c28;by_cases c29:F < (((rd_T60 (rd_L4 E B) D).f1).length:Int);(· rw [if_pos c29] at H;have c29b0:decide (F < (((rd_T60 (rd_L4 E B) D).f1).length:Int))=true:=decide_eq_true c29;clear c29;by_cases i0:f5=true;(· (subst i0;have J:(if d1=true then (count_check.l2 k8 O M true true E (E.length:Int) B (rd_L4 E B) ((rd_L4 E B).length:Int) D ((rd_T60 (rd_L4 E B) D).f1) (((rd_T60 (rd_L4 E B) D).f1).length:Int) (wrap64 (F + 1))) else (count_check.l2 k8 O M true (((rd_L1 ((rd_T60 (rd_L4 E B) D).f1) F).length:Int) != O) E (E.length:Int) B (rd_L4 E B) ((rd_L4 E B).length:Int) D ((rd_T60 (rd_L4 E B) D).f1) (((rd_T60 (rd_L4 E B) D).f1).length:Int) (wrap64 (F + 1))))=some r:=by rw [if_pos rfl] at H;exact H);clear H;have H:=J;clear J;by_cases i1:d1=true;(· (subst i1;have J:(count_check.l2 k8 O M true true E (E.length:Int) B (rd_L4 E B) ((rd_L4 E B).length:Int) D ((rd_T60 (rd_L4 E B) D).f1) (((rd_T60 (rd_L4 E B) D).f1).length:Int) (wrap64 (F + 1)))=some r:=by rw [if_pos rfl] at H;exact H);clear H;have H:=J;clear J;have H':=mk0 H;clear H;have X:0 ≤ (F:Int):=of_decide_eq_true (by assumption);have Y:F < (((rd_T60 (rd_L4 E B) D).f1).length:Int):=of_decide_eq_true (by assumption);obtain ⟨h6,f6,f7,e4,L,Q,R⟩:=at_L1 d2.1 F X Y;cases e4;replace L:=bd_ I L;have b7:=mk0 R;have b8:=mk0 Q;clear R Q;replace X:=eq_true X;replace Y:=eq_true Y;go_wp2;go_roundg k8;(case measure=>have:=Z.1;have:=a1.1;have:=a6.1;have:=a7.1;have:=a5.1;have:=b1.1;have:=b6.1;have:=e1.1;omega);case rel=>exact ⟨(true),(true),(wrap64 (F + 1)),(by first|rfl|(simp;done)|(simp [*];done)),(by first|rfl|(simp;done)|(simp [*];done)),(by first|rfl|(simp;done)|(simp [*];done)),H',⟨by have:=Z.1;have:=a1.1;have:=a6.1;have:=a7.1;have:=a5.1;have:=b1.1;have:=b6.1;have:=e1.1;omega⟩,⟨by exact G.1⟩,⟨by repeat (first|(with_reducible first|exact I.1|apply below_alloc|apply pw_below_drewN|apply below_drew1|refine below_set ?_ U.1)|exact I.1)⟩⟩);· (replace i1:=Bool.eq_false_iff.mpr i1;subst i1;have J:(count_check.l2 k8 O M true (((rd_L1 ((rd_T60 (rd_L4 E B) D).f1) F).length:Int) != O) E (E.length:Int) B (rd_L4 E B) ((rd_L4 E B).length:Int) D ((rd_T60 (rd_L4 E B) D).f1) (((rd_T60 (rd_L4 E B) D).f1).length:Int) (wrap64 (F + 1)))=some r:=by rw [if_neg (show ¬ (false=true) by decide)] at H;exact H);clear H;have H:=J;clear J;have H':=mk0 H;clear H;have X:0 ≤ (F:Int):=of_decide_eq_true (by assumption);have Y:F < (((rd_T60 (rd_L4 E B) D).f1).length:Int):=of_decide_eq_true (by assumption);obtain ⟨h6,f6,f7,e4,L,Q,R⟩:=at_L1 d2.1 F X Y;cases e4;replace L:=bd_ I L;have b7:=mk0 R;have b8:=mk0 Q;clear R Q;replace X:=eq_true X;replace Y:=eq_true Y;go_wp2;go_roundg k8;(case measure=>have:=Z.1;have:=a1.1;have:=a6.1;have:=a7.1;have:=a5.1;have:=b1.1;have:=b6.1;have:=e1.1;omega);case rel=>exact ⟨(true),((((rd_L1 ((rd_T60 (rd_L4 E B) D).f1) F).length:Int) != O)),(wrap64 (F + 1)),(by first|rfl|(simp;done)|(simp [*];done)),(by first|rfl|(simp;done)|(simp [*];done)),(by first|rfl|(simp;done)|(simp [*];done)),H',⟨by have:=Z.1;have:=a1.1;have:=a6.1;have:=a7.1;have:=a5.1;have:=b1.1;have:=b6.1;have:=e1.1;omega⟩,⟨by exact G.1⟩,⟨by repeat (first|(with_reducible first|exact I.1|apply below_alloc|apply pw_below_drewN|apply below_drew1|refine below_set ?_ U.1)|exact I.1)⟩⟩);· (replace i0:=Bool.eq_false_iff.mpr i0;subst i0;have J:((count_outside.f (rd_L1 ((rd_T60 (rd_L4 E B) D).f1) F) 20).bind fun c8=>(if d1=true then (count_check.l2 k8 O M c8 true E (E.length:Int) B (rd_L4 E B) ((rd_L4 E B).length:Int) D ((rd_T60 (rd_L4 E B) D).f1) (((rd_T60 (rd_L4 E B) D).f1).length:Int) (wrap64 (F + 1))) else (count_check.l2 k8 O M c8 (((rd_L1 ((rd_T60 (rd_L4 E B) D).f1) F).length:Int) != O) E (E.length:Int) B (rd_L4 E B) ((rd_L4 E B).length:Int) D ((rd_T60 (rd_L4 E B) D).f1) (((rd_T60 (rd_L4 E B) D).f1).length:Int) (wrap64 (F + 1)))))=some r:=by rw [if_neg (show ¬ (false=true) by decide)] at H;exact H);clear H;have H:=J;clear J;replace H:=Option.bind_eq_some_iff.mp H;obtain ⟨c8,l5,H⟩:=H;(try dsimp only at H);have l9:=mk0 l5;clear l5;by_cases i2:d1=true;(· (subst i2;have J:(count_check.l2 k8 O M c8 true E (E.length:Int) B (rd_L4 E B) ((rd_L4 E B).length:Int) D ((rd_T60 (rd_L4 E B) D).f1) (((rd_T60 (rd_L4 E B) D).f1).length:Int) (wrap64 (F + 1)))=some r:=by rw [if_pos rfl] at H;exact H);clear H;have H:=J;clear J;have H':=mk0 H;clear H;have X:0 ≤ (F:Int):=of_decide_eq_true (by assumption);have Y:F < (((rd_T60 (rd_L4 E B) D).f1).length:Int):=of_decide_eq_true (by assumption);obtain ⟨h6,f6,f7,e4,L,Q,R⟩:=at_L1 d2.1 F X Y;cases e4;replace L:=bd_ I L;have b7:=mk0 R;have b8:=mk0 Q;clear R Q;replace X:=eq_true X;replace Y:=eq_true Y;go_wp2_with (first|(go_at_call 52;(with_reducible refine (count_outside.calls _ _ (rd_L1 ((rd_T60 (rd_L4 E B) D).f1) F) 20 c8 _ ?side1 ?side2 l9.1).mono ?_);(case side1=>repeat (first|exact (Kd.C_below b7.1 I.1)|(with_reducible refine Kd.C_alloc ?_ _)|(with_reducible refine Kd.C_drewN ?_ _)|(with_reducible refine Kd.C_drew ?_)));(case side2=>exact b8.1);rintro e n8 ⟨rfl,hb⟩;replace G:=bkb G hb;replace I:=bst I hb;(try clear hb)));go_roundg k8;(case measure=>have:=Z.1;have:=a1.1;have:=a6.1;have:=a7.1;have:=a5.1;have:=b1.1;have:=b6.1;have:=e1.1;omega);case rel=>exact ⟨(c8),(true),(wrap64 (F + 1)),(by first|rfl|(simp;done)|(simp [*];done)),(by first|rfl|(simp;done)|(simp [*];done)),(by first|rfl|(simp;done)|(simp [*];done)),H',⟨by have:=Z.1;have:=a1.1;have:=a6.1;have:=a7.1;have:=a5.1;have:=b1.1;have:=b6.1;have:=e1.1;omega⟩,⟨by exact G.1⟩,⟨by repeat (first|(with_reducible first|exact I.1|apply below_alloc|apply pw_below_drewN|apply below_drew1|refine below_set ?_ U.1)|exact I.1)⟩⟩);· (replace i2:=Bool.eq_false_iff.mpr i2;subst i2;have J:(count_check.l2 k8 O M c8 (((rd_L1 ((rd_T60 (rd_L4 E B) D).f1) F).length:Int) != O) E (E.length:Int) B (rd_L4 E B) ((rd_L4 E B).length:Int) D ((rd_T60 (rd_L4 E B) D).f1) (((rd_T60 (rd_L4 E B) D).f1).length:Int) (wrap64 (F + 1)))=some r:=by rw [if_neg (show ¬ (false=true) by decide)] at H;exact H);clear H;have H:=J;clear J;have H':=mk0 H;clear H;have X:0 ≤ (F:Int):=of_decide_eq_true (by assumption);have Y:F < (((rd_T60 (rd_L4 E B) D).f1).length:Int):=of_decide_eq_true (by assumption);obtain ⟨h6,f6,f7,e4,L,Q,R⟩:=at_L1 d2.1 F X Y;cases e4;replace L:=bd_ I L;have b7:=mk0 R;have b8:=mk0 Q;clear R Q;replace X:=eq_true X;replace Y:=eq_true Y;go_wp2_with (first|(go_at_call 52;(with_reducible refine (count_outside.calls _ _ (rd_L1 ((rd_T60 (rd_L4 E B) D).f1) F) 20 c8 _ ?side1 ?side2 l9.1).mono ?_);(case side1=>repeat (first|exact (Kd.C_below b7.1 I.1)|(with_reducible refine Kd.C_alloc ?_ _)|(with_reducible refine Kd.C_drewN ?_ _)|(with_reducible refine Kd.C_drew ?_)));(case side2=>exact b8.1);rintro e n9 ⟨rfl,hb⟩;replace G:=bkb G hb;replace I:=bst I hb;(try clear hb)));go_roundg k8;(case measure=>have:=Z.1;have:=a1.1;have:=a6.1;have:=a7.1;have:=a5.1;have:=b1.1;have:=b6.1;have:=e1.1;omega);case rel=>exact ⟨(c8),((((rd_L1 ((rd_T60 (rd_L4 E B) D).f1) F).length:Int) != O)),(wrap64 (F + 1)),(by first|rfl|(simp;done)|(simp [*];done)),(by first|rfl|(simp;done)|(simp [*];done)),(by first|rfl|(simp;done)|(simp [*];done)),H',⟨by have:=Z.1;have:=a1.1;have:=a6.1;have:=a7.1;have:=a5.1;have:=b1.1;have:=b6.1;have:=e1.1;omega⟩,⟨by exact G.1⟩,⟨by repeat (first|(with_reducible first|exact I.1|apply below_alloc|apply pw_below_drewN|apply below_drew1|refine below_set ?_ U.1)|exact I.1)⟩⟩);· rw [if_neg c29] at H;exact absurd H (by simp));· rw [if_neg c28] at H;exact absurd H (by simp));· rw [if_neg c27] at H;have c27b0:decide (F < (((rd_T60 (rd_L4 E B) D).f1).length:Int))=false:=decide_eq_false c27;clear c27;have H':=mk0 H;clear H;go_wp2;go_roundg k8;(case measure=>have:=Z.1;have:=a1.1;have:=a6.1;have:=a7.1;have:=a5.1;have:=b1.1;have:=b6.1;have:=e1.1;omega);case rel=>exact ⟨(M),(f5),(d1),(wrap64 (D + 1)),(by first|rfl|(simp;done)|(simp [*];done)),(by first|rfl|(simp;done)|(simp [*];done)),(by first|rfl|(simp;done)|(simp [*];done)),(by first|rfl|(simp;done)|(simp [*];done)),H',⟨by have:=Z.1;have:=a1.1;have:=a6.1;have:=a7.1;have:=a5.1;have:=b1.1;have:=b6.1;have:=e1.1;omega⟩,⟨by repeat (first|(with_reducible first|exact I.1|apply below_alloc|apply pw_below_drewN|apply below_drew1|refine below_set ?_ U.1)|exact I.1)⟩⟩
              · rw [if_neg c12] at H;exact absurd H (by simp)
             · rw [if_neg c11] at H;exact absurd H (by simp)
            · rw [if_neg c10] at H;have c10b0:decide (D < ((rd_L4 E B).length:Int))=false:=decide_eq_false c10;clear c10;have H':=mk0 H;clear H;go_wp2;go_roundg k4;(case measure=>have:=Z.1;have:=a1.1;have:=a6.1;have:=a7.1;omega);case rel=>exact ⟨(f3),(d0),(b2),(wrap64 (B + 1)),(by first|rfl|(simp;done)|(simp [*];done)),(by first|rfl|(simp;done)|(simp [*];done)),(by first|rfl|(simp;done)|(simp [*];done)),(by first|rfl|(simp;done)|(simp [*];done)),H',⟨by have:=Z.1;have:=a1.1;have:=a6.1;have:=a7.1;omega⟩,⟨by exact I.1⟩⟩
       · rw [if_neg c7] at H;exact absurd H (by simp)
      · rw [if_neg c6] at H;exact absurd H (by simp)
     · rw [if_neg c5] at H;have c5b0:decide (B < (E.length:Int))=false:=decide_eq_false c5;clear c5;by_cases i3:b5=true;(· (subst i3;have J:(some 3)=some r:=by rw [if_pos rfl] at H;exact H);clear H;have H:=J;clear J;obtain rfl:=Option.some.inj H;go_wp2;go_ret;exact ⟨by first|rfl|(simp [errW_none,errW_some] <;> rfl)|(simp [*,errW_none,errW_some] <;> rfl),by exact I.1⟩);· (replace i3:=Bool.eq_false_iff.mpr i3;subst i3;have J:(if a2=true then (some 1) else (if V=true then (some 2) else (some 0)))=some r:=by rw [if_neg (show ¬ (false=true) by decide)] at H;exact H);clear H;have H:=J;clear J;by_cases i4:a2=true;(· (subst i4;have J:(some 1)=some r:=by rw [if_pos rfl] at H;exact H);clear H;have H:=J;clear J;obtain rfl:=Option.some.inj H;go_wp2;go_ret;exact ⟨by first|rfl|(simp [errW_none,errW_some] <;> rfl)|(simp [*,errW_none,errW_some] <;> rfl),by exact I.1⟩);· (replace i4:=Bool.eq_false_iff.mpr i4;subst i4;have J:(if V=true then (some 2) else (some 0))=some r:=by rw [if_neg (show ¬ (false=true) by decide)] at H;exact H);clear H;have H:=J;clear J;by_cases i5:V=true;(· (subst i5;have J:(some 2)=some r:=by rw [if_pos rfl] at H;exact H);clear H;have H:=J;clear J;obtain rfl:=Option.some.inj H;go_wp2;go_ret;exact ⟨by first|rfl|(simp [errW_none,errW_some] <;> rfl)|(simp [*,errW_none,errW_some] <;> rfl),by exact I.1⟩);· (replace i5:=Bool.eq_false_iff.mpr i5;subst i5;have J:(some 0)=some r:=by rw [if_neg (show ¬ (false=true) by decide)] at H;exact H);clear H;have H:=J;clear J;obtain rfl:=Option.some.inj H;go_wp2;go_ret;exact ⟨by first|rfl|(simp [errW_none,errW_some] <;> rfl)|(simp [*,errW_none,errW_some] <;> rfl),by exact I.1⟩
def TellsL (g:Nat) (lb:Array Value) (p:S60 → Bool) (D:S60 → Prop) (K:World → Prop):Prop :=
  ∀ (W:World) (A0:Option Addr) (c0:Nat) (A1:Option Addr) (c1:Nat) (x:S60),K W → D x → x.f0.length ≤ c0 → Kd.C (Kd.int .i64) W A0 x.f0.length x.f0 → x.f1.length ≤ c1 → Kd.C (Kd.slice 3 (Kd.int .i64)) W A1 x.f1.length x.f1 →
    Calls Try.prog g (#[.agg #[.slice A0 x.f0.length c0,.slice A1 x.f1.length c1]] ++ lb) W fun e w'=>e=.returned (.bool (p x))∧Below W.heap.size W w'
def idxL (p:S60 → Bool) (l:List S60):Int:=match l.findIdx? p with|some i=>(i:Int)|none=>-1
theorem idxL_some (p:S60 → Bool) (l:List S60) (k:Nat) (hk:k < l.length) (h:p (rd_T60 l (k:Int))=true) (hb:∀ j,j < k → p (rd_T60 l (j:Int))=false):idxL p l=(k:Int):=by
  have:l.findIdx? p=some k:=by
    rw [List.findIdx?_eq_some_iff_getElem];refine ⟨hk,?_,fun j hj=>?_⟩;· simpa [rd_T60,List.getD_eq_getElem?_getD,List.getElem?_eq_getElem hk] using h
    · have hjl:j < l.length:=by omega
      have:=hb j hj
      simpa [rd_T60,List.getD_eq_getElem?_getD,List.getElem?_eq_getElem hjl] using this
  simp [idxL,this]
theorem idxL_none (p:S60 → Bool) (l:List S60) (hb:∀ j,j < l.length → p (rd_T60 l (j:Int))=false):idxL p l=-1:=by (have:l.findIdx? p=none:=by rw [List.findIdx?_eq_none_iff];intro x hx;obtain ⟨j,hj,rfl⟩:=List.getElem_of_mem hx;have:=hb j hj;simpa [rd_T60,List.getD_eq_getElem?_getD,List.getElem?_eq_getElem hj] using this);simp [idxL,this]
theorem idxL_some' (p:S60 → Bool) (l:List S60) (i:Int) (h0:0 ≤ i) (h1:i < (l.length:Int)) (h:p (rd_T60 l i)=true) (hb:∀ j,j < i.toNat → p (rd_T60 l (j:Int))=false):idxL p l=i:=by obtain ⟨k,rfl⟩:=Int.eq_ofNat_of_zero_le h0;exact idxL_some p l k (by omega) h (by simpa using hb)
def SofarL (p:S60 → Bool) (l:List S60) (k:Nat):Prop:=∀ j,j < k → p (rd_T60 l (j:Int))=false
theorem SofarL.zero (p:S60 → Bool) (l:List S60):SofarL p l 0:=fun j hj=>absurd hj (by omega)
theorem SofarL.succ {p:S60 → Bool} {l:List S60} {k:Nat} (h:SofarL p l k) (hk:p (rd_T60 l (k:Int))=false):SofarL p l (k + 1):=fun j hj=>by by_cases e:j=k;(· subst e;exact hk);· exact h j (by omega)
set_option maxHeartbeats 1000000 in
set_option maxRecDepth 100000 in
theorem IndexFunc_lin.calls (g:Nat) (lb:Array Value) (p:S60 → Bool) (D:S60 → Prop) (K:World → Prop) (O:Option Addr) (Q:Nat) (B:List S60) (w:World) (G:Kd.C k60 w O B.length B) (R:B.length ≤ Q)
    (eg:∀ args w,(callFunc g args).run Try.prog w=.ok (.enter g args) w) (hp:TellsL g lb p D K) (hD:∀ x ∈ B,D x) (T:K w) (hKB:∀ W W',K W → Below W.heap.size W W' → K W') :
    Calls Try.prog 100 #[.slice O B.length Q,.func (.func g) #[] lb] w fun e w'=>e=.returned (.int .i64 (idxL p B))∧Below w.heap.size w w':=by
  have U:=mk0 G;have hlen:B.length ≤ 9223372036854775807:=G.2.1;clear G R;have HP:=mk0 hp;have HD:=mk0 hD;have HK:=mk0 (fun W=>hKB w W T);clear hp T hKB hD;go_enter Try.func100,Try.ntmps100;go_wp2;go_loopw [8] (fun N w'=>∃ i:Int,N=.int .i64 i∧Aside0 (0 ≤ i∧i ≤ B.length)∧Aside0 (SofarL p B i.toNat)∧Aside0 (Below w.heap.size w w')) (fun N _=>B.length - (intOf N).toNat);case atStart=>exact ⟨0,rfl,⟨by omega,by omega⟩,⟨SofarL.zero _ _⟩,⟨Below.refl _ _⟩⟩
  case round =>
    obtain ⟨i,rfl,HI,HS,E⟩:=hrel;by_cases hlt:i < (B.length:Int)
    · have J:0 ≤ i:=HI.1.1
      obtain ⟨ad,V,X,Y,Z,e,hx,hy,hl,hi,L,M⟩:=at_T60 U.1 i J hlt
      cases e
      replace hx:=bd_ E hx
      replace hy:=bd_ E hy
      have hmem:rd_T60 B i ∈ B:=by (have hj:i.toNat < B.length:=by omega);simp only [rd_T60,List.getD_eq_getElem?_getD,List.getElem?_eq_getElem hj,Option.getD_some];exact List.getElem_mem hj
      have HQ:=mk0 (HP.1 _ V X Y Z (rd_T60 B i) (HK.1 _ E.1) (HD.1 _ hmem) hl (Kd.C_below hi E.1) L (Kd.C_below M E.1))
      clear hmem
      clear hi hl M L
      have hd:decide (i < (B.length:Int))=true:=decide_eq_true hlt
      replace J:=eq_true J
      replace hlt:=eq_true hlt
      have hw:wrap64 (i + 1)=i + 1:=by have:=HI.1;have h:=of_eq_true hlt;unfold wrap64;omega
      have HW:=mk0 hw
      clear hw
      by_cases hb:p (rd_T60 B i)=true
      · have HF:=mk0 (idxL_some' p B i (of_eq_true J) (of_eq_true hlt) hb HS.1)
        have HT:=mk0 hb
        clear hb
        go_wp2_with (fail)
        refine HQ.1.mono ?_
        rintro e w1 ⟨rfl,F⟩
        rw [HT.1]
        have I:=mk0 F
        clear F
        go_wp2
        go_ret
        exact ⟨by first|(rw [HF.1];done)|(rw [HF.1];rfl),E.1.trans (I.1.mono E.1.size)⟩
      · have HT:=mk0 (Bool.eq_false_iff.mpr hb)
        clear hb
        go_wp2_with (fail)
        refine HQ.1.mono ?_
        rintro e w1 ⟨rfl,F⟩
        rw [HT.1]
        have I:=mk0 F
        clear F
        go_wp2
        go_roundw
        case rel=>exact ⟨_,rfl,⟨by rw [HW.1];have:=HI.1;have:=of_eq_true hlt;omega⟩,⟨by rw [HW.1];have:=HI.1;rw [show (i + 1).toNat=i.toNat + 1 by omega];exact HS.1.succ (by rw [Int.toNat_of_nonneg this.1];exact HT.1)⟩,⟨E.1.trans (I.1.mono E.1.size)⟩⟩
        case measure=>simp only [intOf];have:=HW.1;have:=HI.1;have:=of_eq_true hlt;omega
    · have hd:decide (i < (B.length:Int))=false:=decide_eq_false hlt
      have HF:=mk0 (idxL_none p B (fun j hj=>HS.1 j (by have:=HI.1;omega)))
      clear hlt
      go_wp2
      go_ret
      exact ⟨by first|(rw [HF.1];done)|(rw [HF.1];rfl),E.1⟩
theorem idxL_any (p:S60 → Bool) (l:List S60):l.any p=decide (0 ≤ idxL p l):=by
  unfold idxL;rcases h:l.findIdx? p with _|i
  · rw [List.findIdx?_eq_none_iff] at h
    rw [show l.any p=false from by rw [List.any_eq_false];exact fun x hx=>by simpa using h x hx]
    rfl
  · rw [List.findIdx?_eq_some_iff_getElem] at h
    obtain ⟨hi,hp,_⟩:=h
    rw [show l.any p=true from List.any_eq_true.mpr ⟨_,List.getElem_mem hi,hp⟩]
    simp
set_option maxHeartbeats 1000000 in
set_option maxRecDepth 100000 in
theorem ContainsFunc_lin.calls (g:Nat) (lb:Array Value) (p:S60 → Bool) (D:S60 → Prop) (K:World → Prop) (A0:Option Addr) (c0:Nat) (l0:List S60) (w:World) (hr0:Kd.C k60 w A0 l0.length l0) (hc0:l0.length ≤ c0)
    (eg:∀ args w,(callFunc g args).run Try.prog w=.ok (.enter g args) w) (hp:TellsL g lb p D K) (hD:∀ x ∈ l0,D x) (hK:K w) (hKB:∀ W W',K W → Below W.heap.size W W' → K W') :
    Calls Try.prog 88 #[.slice A0 l0.length c0,.func (.func g) #[] lb] w fun e w'=>e=.returned (.bool (l0.any p))∧Below w.heap.size w w':=by
  have HC1:=mk0 (IndexFunc_lin.calls g lb p D K A0 c0 l0 w hr0 hc0 eg hp hD hK hKB);clear eg hp hr0 hc0 hD hK hKB;have HA:=mk0 (idxL_any p l0);go_enter Try.func88,Try.ntmps88;go_wp2_with (go_at_call 100;(with_reducible refine HC1.out.mono ?_);rintro e w1 ⟨rfl,hb1⟩;have HB1:=mk0 hb1;clear hb1);go_ret;exact ⟨by first|(rw [HA.out];done)|(rw [HA.out];rfl),HB1.out⟩
def count_less.l0:Nat → List Int → List Int → List Int → Int → Int → Option (List Int × Bool)
  | 0,_,_,_,_,_=>none
  | k + 1,x0,x1,x6,x12,x13=>if x13 < x12 then (if 0 ≤ x13 then (if x13 < (x0.length:Int) then (if x13 < (x1.length:Int) then (if x13 < (x6.length:Int) then (count_less.l0 k x0 x1 (x6.set (x13:Int).toNat (wrap64 ((rd x0 x13) - (rd x1 x13)))) x12 (wrap64 (x13 + 1))) else (none)) else (none)) else (none)) else (none)) else ((count_outside.f x6 60).bind fun t113=>(some (x6,!t113)))
def count_less.f (k:Nat) (l0:List Int) (l1:List Int):Option (List Int × Bool):=if 0 ≤ (l0.length:Int) then (if ((l0.length:Int):Int).toNat ≤ 35184372088832 then (count_less.l0 k l0 l1 (List.replicate ((l0.length:Int):Int).toNat 0) (l0.length:Int) 0) else (none)) else (none)
theorem count_less.mono_l:∀ k,(∀ y0 y1 y2 y3 y4,LeO (count_less.l0 k y0 y1 y2 y3 y4) (count_less.l0 (k + 1) y0 y1 y2 y3 y4))
  | 0=>fun _ _ _ _ _ r h=>by simp [count_less.l0] at h
  | k + 1=>by
    have ih0:=count_less.mono_l k
    · intro y0 y1 y2 y3 y4
      unfold count_less.l0
      with_reducible repeat' first|exact ih0 _ _ _ _ _|exact LeO.refl _|exact LeO.none _|refine LeO.ite ?_ ?_|refine LeO.bind ?_ (fun _=>?_)
theorem count_less.mono:∀ a0 a1 k,LeO (count_less.f k a0 a1) (count_less.f (k + 1) a0 a1):=by intro a0 a1 k;have ih0:=count_less.mono_l k;unfold count_less.f;with_reducible repeat' first|exact ih0 _ _ _ _ _|exact LeO.refl _|exact LeO.none _|refine LeO.ite ?_ ?_|refine LeO.bind ?_ (fun _=>?_)
def count_less.T5:Bool × List (List Nat × List Nat):=(true,[([],[]),([],[]),([],[]),([],[]),([2,3],[2,3]),([4],[4]),([],[]),([],[]),([6,7],[6,7]),([8],[8]),([5,9],[5,9]),([0,1,0,1,2,3,4,5,6,7,8,9,10],[0,1]),([11,10,0,1,2,3,4,5,6,7,8,9,10],[10,11])])
def count_less.B5:List Nat:=[0,0,0,0,12,28,0,0,192,448,1020,2047,4095]
theorem count_less.tab5:rtab .any (opsOf Try.f101 5)=count_less.T5:=by kernel_rfl
theorem count_less.bits5:waitsOk count_less.T5.2 count_less.B5=true:=by kernel_rfl
set_option maxHeartbeats 8000000 in
set_option maxRecDepth 100000 in
theorem count_less.calls (k:Nat) (A0:Option Addr) (c0:Nat) (D:List Int) (A1:Option Addr) (c1:Nat) (M:List Int) (r1:List Int) (r2:Bool) (w:World) (d0:Kd.C (Kd.int .i64) w A0 D.length D) (d1:D.length ≤ c0) (d2:Kd.C (Kd.int .i64) w A1 M.length M) (d3:M.length ≤ c1) (h:count_less.f k D M=some (r1,r2)) :
    Calls Try.prog 101 #[.slice A0 D.length c0,.slice A1 M.length c1] w fun e w'=>∃ d4:Value,e=.returned (.tuple #[d4,.bool r2])∧Kd.R (Kd.int .i64) 3 w' w.heap.size (fun _=>True) d4 r1∧Below w.heap.size w w':=by
 have f1:=mk0 d0;have g1:=mk0 d1;clear d0 d1;have f2:=mk0 d2;have g2:=mk0 d3;clear d2 d3;have J:=mk0 (Below.refl w.heap.size w);have H:(if 0 ≤ (D.length:Int) then (if ((D.length:Int):Int).toNat ≤ 35184372088832 then (count_less.l0 k D M (List.replicate ((D.length:Int):Int).toNat 0) (D.length:Int) 0) else (none)) else (none))=some (r1,r2):=h;clear h;by_cases c3:0 ≤ (D.length:Int)
 ·
  rw [if_pos c3] at H;have c3b0:=eq_true c3;have c3b1:decide (0 ≤ (D.length:Int))=true:=decide_eq_true c3;clear c3;by_cases c4:((D.length:Int):Int).toNat ≤ 35184372088832
  ·
   rw [if_pos c4] at H;have c4b0:=eq_true c4;have c4b1:decide (((D.length:Int):Int).toNat ≤ 35184372088832)=true:=decide_eq_true c4;clear c4;obtain ⟨a7,O⟩:∃ y_:List Int,y_=(List.replicate ((D.length:Int):Int).toNat 0):=⟨_,rfl⟩;(replace H:(count_less.l0 k D M a7 (D.length:Int) 0)=some (r1,r2):=by first|(rw [O];with_reducible exact H)|(have T:=(Option.bind_some _ _).symm.trans H;rw [O];with_reducible exact T)|(have T:=(Option.bind_some _ _).symm.trans H;with_reducible exact T)|with_reducible exact H|(rw [O];exact H)|exact H);have a4:=mk0 O;clear O;have H':=mk0 H;clear H;go_enter Try.func101,Try.ntmps101;go_wp2_with (first|((with_reducible refine gate_dst (N:=10) rfl ?_);refine Kd.R_make (Kd.int .i64) _ 3 rfl (N:=10) rfl 23 _ _ rfl (D.length:Int) rfl rfl Try.underlying23 (.int .i64 0) 8 info3 rfl (by decide) (by omega) 0 (ok:=fun _=>True) (okp:=fun _=>True) rfl (fun _ hk=>hk) trivial (of_decide_eq_true (by assumption)) (Nat.le_trans (Nat.mul_le_mul_right _ (of_decide_eq_true (by assumption):(D.length:Int).toNat ≤ 35184372088832)) (by omega)) (Below.refl _ _) (Nat.le_refl _) ?_;intro d8 w5 Y hb hg_ b8;clear hg_ b8;(first|rw [← a4.1] at Y|(simp only [Int.reduceToNat] at Y;rw [← a4.1] at Y));have b9:=mk0 (Kd.R_lower Y (below_size J.1));replace J:=bst J hb;clear hb Y));go_loopg [13] k (fun kq f3 w'=>∃ (L:List Int) (B:Int),f3=.int .i64 B∧Aside0 (count_less.l0 kq D M L (D.length:Int) B=some (r1,r2))∧Aside0 (kq ≤ k)∧Aside0 (Kd.R (Kd.int .i64) 3 w' w.heap.size (fun _=>True) d8 L)∧Aside0 (Below w.heap.size w w'));case atStart=>exact ⟨(a7),(0),(by first|rfl|(simp;done)|(simp [*];done)),H',⟨Nat.le_refl _⟩,⟨by exact b9.1⟩,⟨by exact J.1⟩⟩
   case round =>
    (clear H';try clear c1);(try clear p2);(try clear c3);(try clear c3b0);(try clear c3b1);(try clear c4);(try clear c4b0);try clear c4b1
    obtain ⟨L,B,rfl,HA,d5,E,J⟩:=hrel;cases gk with
    | zero=>exact absurd HA.1 (by simp [count_less.l0])
    | succ k1 =>have H:=HA.1;clear HA;simp only [count_less.l0] at H;by_cases c7:B < (D.length:Int);(· rw [if_pos c7] at H;have c7b0:decide (B < (D.length:Int))=true:=decide_eq_true c7;clear c7;by_cases c8:0 ≤ B;(· rw [if_pos c8] at H;have c8b0:decide (0 ≤ B)=true:=decide_eq_true c8;clear c8;by_cases c9:B < (D.length:Int);(· rw [if_pos c9] at H;have c9b0:decide (B < (D.length:Int))=true:=decide_eq_true c9;clear c9;by_cases c10:B < (M.length:Int);(· rw [if_pos c10] at H;have c10b0:decide (B < (M.length:Int))=true:=decide_eq_true c10;clear c10;by_cases c11:B < (L.length:Int);(· rw [if_pos c11] at H;have c11b0:decide (B < (L.length:Int))=true:=decide_eq_true c11;clear c11;obtain ⟨a8,Q⟩:∃ y_:List Int,y_=(L.set (B:Int).toNat (wrap64 ((rd D B) - (rd M B)))):=⟨_,rfl⟩;(replace H:(count_less.l0 k1 D M a8 (D.length:Int) (wrap64 (B + 1)))=some (r1,r2):=by first|(rw [Q];with_reducible exact H)|(have T:=(Option.bind_some _ _).symm.trans H;rw [Q];with_reducible exact T)|(have T:=(Option.bind_some _ _).symm.trans H;with_reducible exact T)|with_reducible exact H|(rw [Q];exact H)|exact H);(have c2:=mk0 Q;clear Q;have H':=mk0 H;clear H;try go_wp2);replace E:=rdr E;replace J:=hdr J;have Z:0 ≤ (B:Int):=of_decide_eq_true (by assumption);have a0:B < (D.length:Int):=of_decide_eq_true (by assumption);obtain ⟨c5,d9,G⟩:=Kd.at_int f1.1 B Z a0;have U:=G;cases d9;replace G:=bd_ J G;replace Z:=eq_true Z;replace a0:=eq_true a0;have a1:0 ≤ (B:Int):=of_decide_eq_true (by assumption);have a2:B < (M.length:Int):=of_decide_eq_true (by assumption);obtain ⟨c6,e0,I⟩:=Kd.at_int f2.1 B a1 a2;have V:=I;cases e0;replace I:=bd_ J I;replace a1:=eq_true a1;replace a2:=eq_true a2;have a9:0 ≤ (B:Int):=of_decide_eq_true (by assumption);have b0:(B:Int) < ((L.length:Int):Int):=of_decide_eq_true (by assumption);obtain ⟨f6,f7,b1,b2,e1,f8,b3⟩:=Kd.R_form E.1 (by omega);(first|cases b1|(injection b1 with ea_ en_ ec_;(first|subst ea_|(injection ea_ with ea_;subst ea_));subst ec_;clear en_));have e2:=mk0 b2;have e3:=mk0 b3;clear b2 e1 b3;obtain ⟨b4,b5⟩:=Kd.R_celln 0 E.1 (B:Int) a9 b0;replace a9:=eq_true a9;replace b0:=eq_true b0;have a3:=Kd.R_putn E.1 (B:Int) (wrap64 ((rd D B) - (rd M B)));rw [← c2.1] at a3;have b6:=mk0 a3;clear a3;refine start_ (n:=13) (S:=fun w'=>w'.cell? (c5.add (B).toNat)=some (.int .i64 (rd D B))∧w'.cell? (c6.add (B).toNat)=some (.int .i64 (rd M B))) (ds:=[12]) #[n_,n_,n_,n_,n_,n_,n_,n_,n_,n_,n_,n_,n_] (by kernel_rfl) rfl rfl ⟨(bd_ J U),(bd_ J V)⟩ (fun X=>?_);refine with_tabW count_less.tab5 count_less.bits5 (fun F d6=>?_);generalize wr.drew=g3 at E J e3 b6 b5 G I b4 X ⊢;refine pure_ (i:=0) (N:=some 16) (v:=?_) (a':=?_) #[y_,n_,n_,n_,n_,n_,n_,n_,n_,n_,n_,n_,n_] rfl rfl (any_of F.1 (by kernel_rfl)) (fun _ _ _ h=>h) (Or.inl ⟨by rfl,?_⟩) ?_ ?_;rotate_left;(· intro w';go_simp;with_reducible rfl);rotate_left;(· simp only [Act.put,s0_,s1_,s2_,i64_w,i32_w];rfl);refine pure_ (i:=1) (N:=some 17) (v:=?_) (a':=?_) #[y_,y_,n_,n_,n_,n_,n_,n_,n_,n_,n_,n_,n_] rfl rfl (any_of F.1 (by kernel_rfl)) (fun _ _ _ h=>h) (Or.inl ⟨by rfl,?_⟩) ?_ ?_;rotate_left;(· intro w';go_simp;with_reducible rfl);rotate_left;(· simp only [Act.put,s0_,s1_,s2_,i64_w,i32_w];rfl);refine pure_ (i:=2) (N:=some 18) (v:=?_) (a':=?_) #[y_,y_,y_,n_,n_,n_,n_,n_,n_,n_,n_,n_,n_] rfl rfl (any_of F.1 (by kernel_rfl)) (fun _ _ _ h=>h) (Or.inl ⟨by rfl,?_⟩) ?_ ?_;rotate_left;(· intro w';go_simp;with_reducible rfl);rotate_left;(· simp only [Act.put,s0_,s1_,s2_,i64_w,i32_w];rfl);refine pure_ (i:=3) (N:=some 19) (v:=?_) (a':=?_) #[y_,y_,y_,y_,n_,n_,n_,n_,n_,n_,n_,n_,n_] rfl rfl (any_of F.1 (by kernel_rfl)) (fun _ _ _ h=>h) (Or.inl ⟨by rfl,?_⟩) ?_ ?_;rotate_left;(· intro w';go_simp;with_reducible rfl);rotate_left;(· simp only [Act.put,s0_,s1_,s2_,i64_w,i32_w];rfl);refine pure_ (i:=4) (N:=some 20) (v:=?_) (a':=?_) #[y_,y_,y_,y_,y_,n_,n_,n_,n_,n_,n_,n_,n_] rfl rfl (any_of F.1 (by kernel_rfl)) (fun _ _ _ h=>h) (Or.inl ⟨by rfl,?_⟩) ?_ ?_;rotate_left;(· intro w';go_simp;with_reducible rfl);rotate_left;(· simp only [Act.put,s0_,s1_,s2_,i64_w,i32_w];rfl);refine pure_ (i:=6) (N:=some 22) (v:=?_) (a':=?_) #[y_,y_,y_,y_,y_,n_,y_,n_,n_,n_,n_,n_,n_] rfl rfl (any_of F.1 (by kernel_rfl)) (fun _ _ _ h=>h) (Or.inl ⟨by rfl,?_⟩) ?_ ?_;rotate_left;(· intro w';go_simp;with_reducible rfl);rotate_left;(· simp only [Act.put,s0_,s1_,s2_,i64_w,i32_w];rfl);refine pure_ (i:=7) (N:=some 23) (v:=?_) (a':=?_) #[y_,y_,y_,y_,y_,n_,y_,y_,n_,n_,n_,n_,n_] rfl rfl (any_of F.1 (by kernel_rfl)) (fun _ _ _ h=>h) (Or.inl ⟨by rfl,?_⟩) ?_ ?_;rotate_left;(· intro w';go_simp;with_reducible rfl);rotate_left;(· simp only [Act.put,s0_,s1_,s2_,i64_w,i32_w];rfl);refine pure_ (i:=8) (N:=some 24) (v:=?_) (a':=?_) #[y_,y_,y_,y_,y_,n_,y_,y_,y_,n_,n_,n_,n_] rfl rfl (any_of F.1 (by kernel_rfl)) (fun _ _ _ h=>h) (Or.inl ⟨by rfl,?_⟩) ?_ ?_;rotate_left;(· intro w';go_simp;with_reducible rfl);rotate_left;(· simp only [Act.put,s0_,s1_,s2_,i64_w,i32_w];rfl);refine take_ (i:=5) (N:=some 21) (v:=?_) (a':=?_) #[y_,y_,y_,y_,y_,y_,y_,y_,y_,n_,n_,n_,n_] rfl rfl (take_ofW F.1 d6.1 (by kernel_rfl)) (fun _ _ _ h=>h) (Or.inl ⟨by rfl,?_⟩) X ?_ ?_;rotate_left;(· rintro w' ⟨s0,s1⟩;go_simp;with_reducible rfl);rotate_left;(· simp only [Act.put,s0_,s1_,s2_,i64_w,i32_w];rfl);refine take_ (i:=9) (N:=some 25) (v:=?_) (a':=?_) #[y_,y_,y_,y_,y_,y_,y_,y_,y_,y_,n_,n_,n_] rfl rfl (take_ofW F.1 d6.1 (by kernel_rfl)) (fun _ _ _ h=>h) (Or.inl ⟨by rfl,?_⟩) X ?_ ?_;rotate_left;(· rintro w' ⟨s0,s1⟩;go_simp;with_reducible rfl);rotate_left;(· simp only [Act.put,s0_,s1_,s2_,i64_w,i32_w];rfl);refine pure_ (i:=10) (N:=some 26) (v:=?_) (a':=?_) #[y_,y_,y_,y_,y_,y_,y_,y_,y_,y_,y_,n_,n_] rfl rfl (any_of F.1 (by kernel_rfl)) (fun _ _ _ h=>h) (Or.inl ⟨by rfl,?_⟩) ?_ ?_;rotate_left;(· intro w';go_simp;with_reducible rfl);rotate_left;(· simp only [Act.put,s0_,s1_,s2_,i64_w,i32_w];rfl);refine pure_ (i:=11) (N:=some 27) (v:=?_) (a':=?_) #[y_,y_,y_,y_,y_,y_,y_,y_,y_,y_,y_,y_,n_] rfl rfl (any_of F.1 (by kernel_rfl)) (fun _ _ _ h=>h) (Or.inl ⟨by rfl,?_⟩) ?_ ?_;rotate_left;(· intro w';go_simp;with_reducible rfl);rotate_left;(· simp only [Act.put,s0_,s1_,s2_,i64_w,i32_w];rfl);refine last_ (i:=12) (N:=none) #[y_,y_,y_,y_,y_,y_,y_,y_,y_,y_,y_,y_,y_] rfl rfl (one_of F.1 (by kernel_rfl)) (by decide) (fun K hK=>?_);refine skip_ (w1:=?_) (by rfl) rfl ?_ ?_;rotate_left;(· go_simp;rfl);(refine hK.out _ _ ?_;clear hK K;refine done_ (done_of F.1 (by kernel_rfl)) ?_;try go_wp2);go_roundg k1;(case measure=>have:=d5.1;omega);case rel=>exact ⟨(a8),(wrap64 (B + 1)),(by first|rfl|(simp;done)|(simp [*];done)),H',⟨by have:=d5.1;omega⟩,⟨by exact b6.1⟩,⟨by repeat (first|(with_reducible first|exact J.1|apply below_alloc|apply pw_below_drewN|apply below_drew1|refine below_set ?_ e2.1)|exact J.1)⟩⟩);· rw [if_neg c11] at H;exact absurd H (by simp));· rw [if_neg c10] at H;exact absurd H (by simp));· rw [if_neg c9] at H;exact absurd H (by simp));· rw [if_neg c8] at H;exact absurd H (by simp));· rw [if_neg c7] at H;have c7b0:decide (B < (D.length:Int))=false:=decide_eq_false c7;clear c7;replace H:=Option.bind_eq_some_iff.mp H;obtain ⟨e4,b7,H⟩:=H;(try dsimp only at H);have f5:=mk0 b7;clear b7;simp only [Option.some.injEq,Prod.mk.injEq] at H;obtain ⟨rfl,rfl⟩:=H;obtain ⟨e5,e6,e7⟩:=Kd.R_slice E.1;subst e7;go_wp2_with (first|((with_reducible refine gate_callee (f:=52) rfl ?_);refine goesL_ (some 31) rfl rfl Try.func52 (by kernel_rfl) rfl #[.slice e5 L.length e6,.int .i64 60] rfl (by (try simp only [m0_,m1_,m2_]);first|done|rfl|(simp only [l0_,l1_];rfl)) ?_;(with_reducible refine (count_outside.calls _ _ L 60 e4 _ ?side1 ?side2 f5.1).mono ?_);(case side1=>repeat (first|exact (Kd.R_reads' E.1).2.2|(with_reducible refine Kd.C_alloc ?_ _)|(with_reducible refine Kd.C_drewN ?_ _)|(with_reducible refine Kd.C_drew ?_)));(case side2=>exact (Kd.R_reads' E.1).2.1);rintro e g4 ⟨rfl,hb⟩;refine ⟨_,rfl,?_⟩;replace E:=rbl E hb;replace J:=bst J hb;(try clear hb)));go_ret2;exact ⟨_,by first|rfl|(simp [errW_none,errW_some] <;> rfl)|(simp [*,errW_none,errW_some] <;> rfl),by exact E.1,by exact J.1⟩
  · rw [if_neg c4] at H;exact absurd H (by simp)
 · rw [if_neg c3] at H;exact absurd H (by simp)
-- NOT PRINTED: function 112 (count_zero_1)
def ContainsFunc_zero1.f (l0:List Int):Option (Bool):=some (l0.any (fun x=>decide (x ≠ 0)))
set_option maxHeartbeats 1000000 in
theorem ContainsFunc_zero1.calls (A0:Option Addr) (c0:Nat) (l0:List Int) (r:Bool) (w:World) (hr0:Kd.C (Kd.int .i64) w A0 l0.length l0) (hc0:l0.length ≤ c0) (h:ContainsFunc_zero1.f l0=some r) :
    Calls Try.prog 86 #[.slice A0 l0.length c0,.func (.func 112) #[] #[]] w fun e w'=>e=.returned (.bool r)∧Below w.heap.size w w':=by
  obtain rfl:=Option.some.inj h;have eg:∀ args w,(callFunc 112 args).run Try.prog w=.ok (.enter 112 args) w:=enters_of Try.func112 (by kernel_rfl) rfl;refine ContainsFunc_int.calls 112 #[] (fun x=>decide (x ≠ 0)) A0 c0 l0 w hr0 hc0 eg (fun W x hb=>?_);clear eg hr0;show Calls Try.prog 112 #[.int .i64 x] W (fun e w'=>e=.returned (.bool (decide (x ≠ 0)))∧Below W.heap.size W w');go_enter Try.func112,Try.ntmps112;go_wp2;go_ret;exact ⟨by first|rfl|(by_cases hx:x=0 <;> simp [hx]),Below.refl _ _⟩
def count_zero.f (l0:List Int):Option (Bool):=(ContainsFunc_zero1.f l0).bind fun t114=>(some (!t114))
set_option maxHeartbeats 8000000 in
set_option maxRecDepth 100000 in
theorem count_zero.calls (J:Option Addr) (L:Nat) (B:List Int) (r:Bool) (w:World) (F:Kd.C (Kd.int .i64) w J B.length B) (G:B.length ≤ L) (h:count_zero.f B=some r) :
    Calls Try.prog 105 #[.slice J B.length L] w fun e w'=>e=.returned (.bool r)∧Below w.heap.size w w':=by
 have M:=mk0 F;have N:=mk0 G;clear F G;have E:=mk0 (Below.refl w.heap.size w);have H:((ContainsFunc_zero1.f B).bind fun D=>(some (!D)))=some r:=h;clear h;replace H:=Option.bind_eq_some_iff.mp H;obtain ⟨D,I,H⟩:=H;(try dsimp only at H);have O:=mk0 I;clear I;obtain rfl:=Option.some.inj H;go_enter Try.func105,Try.ntmps105;go_wp2_with (first|((with_reducible refine gate_callee (f:=86) rfl ?_);refine goesL_ (some 4) rfl rfl Try.func86 (by kernel_rfl) rfl #[.slice J B.length L,.func (.func 112) #[] #[]] rfl (by (try simp only [m0_,m1_,m2_]);first|done|rfl|(simp only [l0_,l1_];rfl)) ?_;(with_reducible refine (ContainsFunc_zero1.calls _ _ B D _ ?side1 ?side2 O.1).mono ?_);(case side1=>repeat (first|exact M.1|(with_reducible refine Kd.C_alloc ?_ _)|(with_reducible refine Kd.C_drewN ?_ _)|(with_reducible refine Kd.C_drew ?_)));(case side2=>exact N.1);rintro e Q ⟨rfl,hb⟩;refine ⟨_,rfl,?_⟩;replace E:=bst E hb;(try clear hb)));go_ret;exact ⟨by first|rfl|(simp [errW_none,errW_some] <;> rfl)|(simp [*,errW_none,errW_some] <;> rfl),by exact E.1⟩
mutual
def count_made.l0:Nat → List Int → List (List Int) → Bool → Option (Bool)
  | 0,_,_,_=>none
  | k + 1,x0,x1,x5=>if x5=true then (if 1 ≤ (x1.length:Int) then ((count_made.f k x0 (x1.drop 1)).bind fun t120=>(if t120=true then (some true) else (if 0 < (x1.length:Int) then ((count_less.f k x0 (rd_L1 x1 0)).bind fun bt122=>(count_made.l0 k bt122.1 x1 bt122.2)) else (none)))) else (none)) else (some false)
def count_made.f:Nat → List Int → List (List Int) → Option (Bool)
  | 0,_,_=>none
  | k + 1,l0,l1=>(count_zero.f l0).bind fun t115=>(if t115=true then (some true) else (if (l1.length:Int)=0 then (some false) else (count_made.l0 k l0 l1 true)))
end
theorem count_made.mono_l:∀ k,(∀ y0 y1,LeO (count_made.f k y0 y1) (count_made.f (k + 1) y0 y1))∧(∀ y0 y1 y2,LeO (count_made.l0 k y0 y1 y2) (count_made.l0 (k + 1) y0 y1 y2))
  | 0=>⟨fun _ _ r h=>by simp [count_made.f] at h,fun _ _ _ r h=>by simp [count_made.l0] at h⟩
  | k + 1=>by
    obtain ⟨ih0,ih1⟩:=count_made.mono_l k;refine ⟨?_,?_⟩
    · intro y0 y1
      unfold count_made.f
      with_reducible repeat' first|exact ih0 _ _|exact ih1 _ _ _|exact count_less.mono _ _ _|exact LeO.refl _|exact LeO.none _|refine LeO.ite ?_ ?_|refine LeO.bind ?_ (fun _=>?_)
    · intro y0 y1 y2
      unfold count_made.l0
      with_reducible repeat' first|exact ih0 _ _|exact ih1 _ _ _|exact count_less.mono _ _ _|exact LeO.refl _|exact LeO.none _|refine LeO.ite ?_ ?_|refine LeO.bind ?_ (fun _=>?_)
theorem count_made.mono:∀ a0 a1 k,LeO (count_made.f k a0 a1) (count_made.f (k + 1) a0 a1):=by intro a0 a1 k;obtain ⟨ih0,ih1⟩:=count_made.mono_l k;exact ih0 a0 a1
set_option maxHeartbeats 8000000 in
set_option maxRecDepth 100000 in
theorem count_made.calls (k:Nat):∀ (a2:Nat → Prop) (A0:Option Addr) (c0:Nat) (N:List Int) (Y:Option Addr) (Q:Nat) (B:List (List Int)) (r:Bool) (w:World) (f4:Kd.V (Kd.int .i64) 3 w w.heap.size (fun k_=>a2 k_) (.slice A0 N.length c0) N) (d2:Kd.C (Kd.slice 3 (Kd.int .i64)) w Y B.length B) (d3:B.length ≤ Q) (h:count_made.f k N B=some r),
    Calls Try.prog 102 #[.slice A0 N.length c0,.slice Y B.length Q] w fun e w'=>e=.returned (.bool r)∧Below w.heap.size w w':=by
 induction k using Nat.strongRecOn with
 | _ k ih =>
 intro a2 A0 c0 N Y Q B r w f4 d2 d3 h;cases k with
 | zero=>exact absurd h (by simp [count_made.f])
 | succ k =>
 simp only [count_made.f] at h;have J:=mk0 (show Kd.V (Kd.int .i64) 3 w w.heap.size (fun k_=>(a2 k_ ∨ w.heap.size ≤ k_)) (.slice A0 N.length c0) N from Kd.V_mono f4 (fun k_ hk=>.inl hk));have d4:=mk0 d2;have f5:=mk0 d3;clear d2 d3;have D:=mk0 (Below.refl w.heap.size w);have H:((count_zero.f N).bind fun b4=>(if b4=true then (some true) else (if (B.length:Int)=0 then (some false) else (count_made.l0 k N B true))))=some r:=h;clear h;replace H:=Option.bind_eq_some_iff.mp H;obtain ⟨b4,f6,H⟩:=H;(try dsimp only at H);have A3:=mk0 f6;clear f6;by_cases c4:b4=true;· (subst c4;have O:(some true)=some r:=by rw [if_pos rfl] at H;exact H);clear H;have H:=O;clear O;obtain rfl:=Option.some.inj H;go_enter Try.func102,Try.ntmps102;go_wp2_with (first|((with_reducible refine gate_callee (f:=105) rfl ?_);refine goesL_ (some 7) rfl rfl Try.func105 (by kernel_rfl) rfl #[.slice A0 N.length c0] rfl (by (try simp only [m0_,m1_,m2_]);first|done|rfl|(simp only [l0_,l1_];rfl)) ?_;(with_reducible refine (count_zero.calls _ _ N true _ ?side1 ?side2 A3.1).mono ?_);(case side1=>repeat (first|exact (Kd.V_reads' J.1).2.2|(with_reducible refine Kd.C_alloc ?_ _)|(with_reducible refine Kd.C_drewN ?_ _)|(with_reducible refine Kd.C_drew ?_)));(case side2=>exact (Kd.V_reads' J.1).2.1);rintro e w5 ⟨rfl,hb⟩;refine ⟨_,rfl,?_⟩;replace J:=mk0 (Kd.V_below J.1 hb);replace D:=bst D hb;(try clear hb)));go_ret;exact ⟨by first|rfl|(simp [errW_none,errW_some] <;> rfl)|(simp [*,errW_none,errW_some] <;> rfl),by exact D.1⟩
 ·
  (replace c4:=Bool.eq_false_iff.mpr c4;subst c4;have O:(if (B.length:Int)=0 then (some false) else (count_made.l0 k N B true))=some r:=by rw [if_neg (show ¬ (false=true) by decide)] at H;exact H);clear H;have H:=O;clear O;by_cases c6:(B.length:Int)=0;· rw [if_pos c6] at H;have c6b0:((B.length:Int) == 0)=true:=beq_iff_eq.mpr c6;have c6b1:((B.length:Int) != 0)=false:=bne_eq_false_iff_eq.mpr c6;clear c6;obtain rfl:=Option.some.inj H;go_enter Try.func102,Try.ntmps102;go_wp2_with (first|((with_reducible refine gate_callee (f:=105) rfl ?_);refine goesL_ (some 7) rfl rfl Try.func105 (by kernel_rfl) rfl #[.slice A0 N.length c0] rfl (by (try simp only [m0_,m1_,m2_]);first|done|rfl|(simp only [l0_,l1_];rfl)) ?_;(with_reducible refine (count_zero.calls _ _ N false _ ?side1 ?side2 A3.1).mono ?_);(case side1=>repeat (first|exact (Kd.V_reads' J.1).2.2|(with_reducible refine Kd.C_alloc ?_ _)|(with_reducible refine Kd.C_drewN ?_ _)|(with_reducible refine Kd.C_drew ?_)));(case side2=>exact (Kd.V_reads' J.1).2.1);rintro e w7 ⟨rfl,hb⟩;refine ⟨_,rfl,?_⟩;replace J:=mk0 (Kd.V_below J.1 hb);replace D:=bst D hb;(try clear hb)));go_ret;exact ⟨by first|rfl|(simp [errW_none,errW_some] <;> rfl)|(simp [*,errW_none,errW_some] <;> rfl),by exact D.1⟩
  ·
   (rw [if_neg c6] at H;have c6b0:((B.length:Int) == 0)=false:=beq_eq_false_iff_ne.mpr c6;have c6b1:((B.length:Int) != 0)=true:=bne_iff_ne.mpr c6;have c6b2:¬ (B=[]):=fun h_=>c6 (by rw [h_];rfl);have H':=mk0 H;clear H;go_enter Try.func102,Try.ntmps102;go_wp2_with (first|((with_reducible refine gate_callee (f:=105) rfl ?_);refine goesL_ (some 7) rfl rfl Try.func105 (by kernel_rfl) rfl #[.slice A0 N.length c0] rfl (by (try simp only [m0_,m1_,m2_]);first|done|rfl|(simp only [l0_,l1_];rfl)) ?_;(with_reducible refine (count_zero.calls _ _ N false _ ?side1 ?side2 A3.1).mono ?_);(case side1=>repeat (first|exact (Kd.V_reads' J.1).2.2|(with_reducible refine Kd.C_alloc ?_ _)|(with_reducible refine Kd.C_drewN ?_ _)|(with_reducible refine Kd.C_drew ?_)));(case side2=>exact (Kd.V_reads' J.1).2.1);rintro e w8 ⟨rfl,hb⟩;refine ⟨_,rfl,?_⟩;replace J:=mk0 (Kd.V_below J.1 hb);replace D:=bst D hb;(try clear hb))));go_loopg [0,5] k (fun kq v0 v5 w'=>∃ (F:List Int) (a5:Bool),v5=.bool a5∧Aside0 (count_made.l0 kq F B a5=some r)∧Aside0 (kq ≤ k)∧Aside0 (Kd.V (Kd.int .i64) 3 w' w.heap.size (fun k_=>(a2 k_ ∨ w.heap.size ≤ k_)) v0 F)∧Aside0 (Below w.heap.size w w'));case atStart=>exact ⟨(N),(true),(by first|rfl|(simp;done)|(simp [*];done)),H',⟨Nat.le_refl _⟩,⟨by exact J.1⟩,⟨by exact D.1⟩⟩
   case round =>
    (clear H';try clear Q);(try clear p2);(try clear c4);(try clear c6);(try clear c6b0);(try clear c6b1);try clear c6b2
    obtain ⟨F,a5,rfl,HA,b9,G,D⟩:=hrel;cases gk with
    | zero=>exact absurd HA.1 (by simp [count_made.l0])
    | succ k1 =>have H:=HA.1;clear HA;simp only [count_made.l0] at H;by_cases c9:a5=true;(· (subst c9;have O:(if 1 ≤ (B.length:Int) then ((count_made.f k1 F (B.drop 1)).bind fun Z=>(if Z=true then (some true) else (if 0 < (B.length:Int) then ((count_less.f k1 F (rd_L1 B 0)).bind fun I=>(count_made.l0 k1 I.1 B I.2)) else (none)))) else (none))=some r:=by rw [if_pos rfl] at H;exact H);clear H;have H:=O;clear O;by_cases c10:1 ≤ (B.length:Int);(· rw [if_pos c10] at H;have c10b0:=eq_true c10;have c10b1:decide (1 ≤ (B.length:Int))=true:=decide_eq_true c10;clear c10;obtain ⟨E,R⟩:∃ y_:List (List Int),y_=(B.drop 1):=⟨_,rfl⟩;(replace H:((count_made.f k1 F E).bind fun Z=>(if Z=true then (some true) else (if 0 < (B.length:Int) then ((count_less.f k1 F (rd_L1 B 0)).bind fun I=>(count_made.l0 k1 I.1 B I.2)) else (none))))=some r:=by first|(rw [R];with_reducible exact H)|(have d6:=(Option.bind_some _ _).symm.trans H;rw [R];with_reducible exact d6)|(have d6:=(Option.bind_some _ _).symm.trans H;with_reducible exact d6)|with_reducible exact H|(rw [R];exact H)|exact H);have X:=mk0 R;clear R;replace H:=Option.bind_eq_some_iff.mp H;obtain ⟨Z,d7,H⟩:=H;(try dsimp only at H);have f7:=mk0 d7;clear d7;by_cases c2:Z=true;(· (subst c2;have O:(some true)=some r:=by rw [if_pos rfl] at H;exact H);clear H;have H:=O;clear O;obtain rfl:=Option.some.inj H;have d8:(1:Int) ≤ ((B.length:Int):Int):=of_decide_eq_true (by assumption);obtain ⟨h3,c3,_,c5,_⟩:=info_parts info23;have T:B.length ≤ Q:=f5.1;have d9:Kd.C (Kd.slice 3 (Kd.int .i64)) _ Y B.length B:=d4.1;have e0:=cut_from (P:=Try.prog) 58 23 .i64 Try.underlying58 c3 1 c5 Y B.length Q 1 (by omega) d8;have a0:=Kd.C_drop (m:=(1:Int).toNat) (c:=Q) d9 (by omega) T;obtain ⟨f8,a6⟩:∃ AA,AA=(if Q=(1:Int).toNat then Y else (Y:Option Addr).map (·.add ((1:Int).toNat * 1))):=⟨_,rfl⟩;obtain ⟨f9,b5⟩:∃ cc,cc=Q - (1:Int).toNat:=⟨_,rfl⟩;have a7:E.length=B.length - (1:Int).toNat:=(by rw [X.1,l0_] <;> omega);rw [show (B).drop (1:Int).toNat=E from X.1.symm] at a0;replace a0:Kd.C (Kd.slice 3 (Kd.int .i64)) _ f8 E.length E:=(by rw [a6];exact a0);rw [← a7,← a6,← b5] at e0;have a8:=mk0 a0;have a9:=mk0 (show E.length ≤ f9 from by rw [a7,b5];exact Nat.sub_le_sub_right T _);clear a0 d9 T c3 c5 b5;have h4:=mk0 a7;have h5:=mk0 a6;clear a7 a6;replace d8:=eq_true d8;obtain ⟨g3,g4,g5⟩:=Kd.V_slice G.1;subst g5;go_wp2_with (first|((with_reducible refine gate_callee (f:=102) rfl ?_);refine goesL_ (some 23) rfl rfl Try.func102 (by kernel_rfl) rfl #[.slice g3 F.length g4,.slice f8 E.length f9] rfl (by (try simp only [m0_,m1_,m2_]);first|done|rfl|(simp only [l0_,l1_];rfl)) ?_;(with_reducible refine (ih k1 (by have:=b9.1;omega) (fun k_=>(a2 k_ ∨ w.heap.size ≤ k_)) _ _ F _ _ E true _ ?side1 ?side2 ?side3 f7.1).mono ?_);(case side1=>exact G.1);(case side2=>repeat (first|exact (Kd.C_below a8.1 D.1)|(with_reducible refine Kd.C_alloc ?_ _)|(with_reducible refine Kd.C_drewN ?_ _)|(with_reducible refine Kd.C_drew ?_)));(case side3=>exact a9.1);rintro e i0 ⟨rfl,hb⟩;refine ⟨_,rfl,?_⟩;replace G:=mk0 (Kd.V_below G.1 hb);replace D:=bst D hb;(try clear hb)));go_ret;exact ⟨by first|rfl|(simp [errW_none,errW_some] <;> rfl)|(simp [*,errW_none,errW_some] <;> rfl),by exact D.1⟩);· (replace c2:=Bool.eq_false_iff.mpr c2;subst c2;have O:(if 0 < (B.length:Int) then ((count_less.f k1 F (rd_L1 B 0)).bind fun I=>(count_made.l0 k1 I.1 B I.2)) else (none))=some r:=by rw [if_neg (show ¬ (false=true) by decide)] at H;exact H);clear H;have H:=O;clear O;by_cases c16:0 < (B.length:Int);(· rw [if_pos c16] at H;have c16b0:decide (0 < (B.length:Int))=true:=decide_eq_true c16;have c16b1:decide (0 < B.length)=true:=decide_eq_true (by omega);clear c16;replace H:=Option.bind_eq_some_iff.mp H;obtain ⟨⟨e1,e2⟩,e3,H⟩:=H;(try dsimp only at H);have g8:=mk0 e3;clear e3;have H':=mk0 H;clear H;have e4:(1:Int) ≤ ((B.length:Int):Int):=of_decide_eq_true (by assumption);obtain ⟨h6,c7,_,c8,_⟩:=info_parts info23;have U:B.length ≤ Q:=f5.1;have e5:Kd.C (Kd.slice 3 (Kd.int .i64)) _ Y B.length B:=d4.1;have e6:=cut_from (P:=Try.prog) 58 23 .i64 Try.underlying58 c7 1 c8 Y B.length Q 1 (by omega) e4;have a1:=Kd.C_drop (m:=(1:Int).toNat) (c:=Q) e5 (by omega) U;obtain ⟨g0,b0⟩:∃ AA,AA=(if Q=(1:Int).toNat then Y else (Y:Option Addr).map (·.add ((1:Int).toNat * 1))):=⟨_,rfl⟩;obtain ⟨g1,b6⟩:∃ cc,cc=Q - (1:Int).toNat:=⟨_,rfl⟩;have b1:E.length=B.length - (1:Int).toNat:=(by rw [X.1,l0_] <;> omega);rw [show (B).drop (1:Int).toNat=E from X.1.symm] at a1;replace a1:Kd.C (Kd.slice 3 (Kd.int .i64)) _ g0 E.length E:=(by rw [b0];exact a1);rw [← b1,← b0,← b6] at e6;have a8:=mk0 a1;have a9:=mk0 (show E.length ≤ g1 from by rw [b1,b6];exact Nat.sub_le_sub_right U _);clear a1 e5 U c7 c8 b6;have h7:=mk0 b1;have h8:=mk0 b0;clear b1 b0;replace e4:=eq_true e4;obtain ⟨e7,e8,g6⟩:=Kd.V_slice G.1;subst g6;go_wp2_with (first|((with_reducible refine gate_callee (f:=102) rfl ?_);refine goesL_ (some 23) rfl rfl Try.func102 (by kernel_rfl) rfl #[.slice e7 F.length e8,.slice g0 E.length g1] rfl (by (try simp only [m0_,m1_,m2_]);first|done|rfl|(simp only [l0_,l1_];rfl)) ?_;(with_reducible refine (ih k1 (by have:=b9.1;omega) (fun k_=>(a2 k_ ∨ w.heap.size ≤ k_)) _ _ F _ _ E false _ ?side1 ?side2 ?side3 f7.1).mono ?_);(case side1=>exact G.1);(case side2=>repeat (first|exact (Kd.C_below a8.1 D.1)|(with_reducible refine Kd.C_alloc ?_ _)|(with_reducible refine Kd.C_drewN ?_ _)|(with_reducible refine Kd.C_drew ?_)));(case side3=>exact a9.1);rintro e i1 ⟨rfl,hb⟩;refine ⟨_,rfl,?_⟩;replace G:=mk0 (Kd.V_below G.1 hb);replace D:=bst D hb;(try clear hb);have b7:0 ≤ (0:Int):=(by omega);have b8:0 < (B.length:Int):=of_decide_eq_true (by assumption);obtain ⟨g9,e9,f0,g7,L,a3,a4⟩:=at_L1 d4.1 0 b7 b8;cases g7;have h0:(0 < B.length)=True:=eq_true (by omega);(try rw [show ((0:Int)).toNat=0 from rfl] at L);(try rw [Addr.add_zero'] at L);replace L:=bd_ D L;have d0:=mk0 a4;have d1:=mk0 a3;clear a4 a3;replace b7:=eq_true b7;replace b8:=eq_true b8)|((with_reducible refine gate_callee (f:=101) rfl ?_);refine goesL_ (some 17) rfl rfl Try.func101 (by kernel_rfl) rfl #[.slice e7 F.length e8,.slice e9 (rd_L1 B 0).length f0] rfl (by (try simp only [m0_,m1_,m2_]);first|done|rfl|(simp only [l0_,l1_];rfl)) ?_;(with_reducible refine (count_less.calls k1 _ _ F _ _ (rd_L1 B 0) e1 e2 _ ?side1 ?side2 ?side3 ?side4 g8.1).mono ?_);(case side1=>repeat (first|exact (Kd.V_reads' G.1).2.2|(with_reducible refine Kd.C_alloc ?_ _)|(with_reducible refine Kd.C_drewN ?_ _)|(with_reducible refine Kd.C_drew ?_)));(case side2=>exact (Kd.V_reads' G.1).2.1);(case side3=>repeat (first|exact (Kd.C_below d0.1 D.1)|(with_reducible refine Kd.C_alloc ?_ _)|(with_reducible refine Kd.C_drewN ?_ _)|(with_reducible refine Kd.C_drew ?_)));(case side4=>exact d1.1);rintro e i2 ⟨h9,rfl,f1,hb⟩;refine ⟨_,rfl,?_⟩;have f3:=mk0 (Kd.R_lower (Kd.R_newM (M:=fun k_=>(w.heap.size ≤ k_)) f1 (below_size D.1) (fun k_ h_=>h_)) (below_size D.1));replace G:=mk0 (Kd.V_elder' G.1 (Kd.R_base f1) hb);replace D:=bst D hb;(try clear hb);(try clear f1)));go_roundg k1;(case measure=>have:=b9.1;omega);case rel=>exact ⟨(e1),(e2),(by first|rfl|(simp;done)|(simp [*];done)),H',⟨by have:=b9.1;omega⟩,⟨Kd.V_mono (Kd.R_V (by exact Kd.R_mono f3.1 (fun _ hk=>hk.1))) (fun k_ hk=>by first|exact ⟨(.inr (hk.1)),hk.2⟩|exact (.inr (hk)))⟩,⟨by exact D.1⟩⟩);· rw [if_neg c16] at H;exact absurd H (by simp));· rw [if_neg c10] at H;exact absurd H (by simp));· (replace c9:=Bool.eq_false_iff.mpr c9;subst c9;have O:(some false)=some r:=by rw [if_neg (show ¬ (false=true) by decide)] at H;exact H);clear H;have H:=O;clear O;obtain rfl:=Option.some.inj H;go_wp2;go_ret;exact ⟨by first|rfl|(simp [errW_none,errW_some] <;> rfl)|(simp [*,errW_none,errW_some] <;> rfl),by exact D.1⟩
def TellsR (g:Nat) (lb:Array Value) (p:List Int → Bool) (K:World → Prop):Prop :=
  ∀ (W:World) (A:Option Addr) (c:Nat) (l:List Int),K W → Kd.C (Kd.int .i64) W A l.length l → l.length ≤ c → Calls Try.prog g (#[.slice A l.length c] ++ lb) W fun e w'=>e=.returned (.bool (p l))∧Below W.heap.size W w'
def idxR (p:List Int → Bool) (l:List (List Int)):Int:=match l.findIdx? p with|some i=>(i:Int)|none=>-1
theorem idxR_some (p:List Int → Bool) (l:List (List Int)) (k:Nat) (hk:k < l.length) (h:p (rd_L1 l (k:Int))=true) (hb:∀ j,j < k → p (rd_L1 l (j:Int))=false):idxR p l=(k:Int):=by
  have:l.findIdx? p=some k:=by
    rw [List.findIdx?_eq_some_iff_getElem];refine ⟨hk,?_,fun j hj=>?_⟩;· simpa [rd_L1,List.getD_eq_getElem?_getD,List.getElem?_eq_getElem hk] using h
    · have hjl:j < l.length:=by omega
      have:=hb j hj
      simpa [rd_L1,List.getD_eq_getElem?_getD,List.getElem?_eq_getElem hjl] using this
  simp [idxR,this]
theorem idxR_none (p:List Int → Bool) (l:List (List Int)) (hb:∀ j,j < l.length → p (rd_L1 l (j:Int))=false):idxR p l=-1:=by (have:l.findIdx? p=none:=by rw [List.findIdx?_eq_none_iff];intro x hx;obtain ⟨j,hj,rfl⟩:=List.getElem_of_mem hx;have:=hb j hj;simpa [rd_L1,List.getD_eq_getElem?_getD,List.getElem?_eq_getElem hj] using this);simp [idxR,this]
theorem idxR_some' (p:List Int → Bool) (l:List (List Int)) (i:Int) (h0:0 ≤ i) (h1:i < (l.length:Int)) (h:p (rd_L1 l i)=true) (hb:∀ j,j < i.toNat → p (rd_L1 l (j:Int))=false):idxR p l=i:=by obtain ⟨k,rfl⟩:=Int.eq_ofNat_of_zero_le h0;exact idxR_some p l k (by omega) h (by simpa using hb)
def SofarR (p:List Int → Bool) (l:List (List Int)) (k:Nat):Prop:=∀ j,j < k → p (rd_L1 l (j:Int))=false
theorem SofarR.zero (p:List Int → Bool) (l:List (List Int)):SofarR p l 0:=fun j hj=>absurd hj (by omega)
theorem SofarR.succ {p:List Int → Bool} {l:List (List Int)} {k:Nat} (h:SofarR p l k) (hk:p (rd_L1 l (k:Int))=false):SofarR p l (k + 1):=fun j hj=>by by_cases e:j=k;(· subst e;exact hk);· exact h j (by omega)
set_option maxHeartbeats 1000000 in
set_option maxRecDepth 100000 in
theorem IndexFunc_rows.calls (g:Nat) (lb:Array Value) (p:List Int → Bool) (K:World → Prop) (L:Option Addr) (M:Nat) (B:List (List Int)) (w:World) (F:Kd.C (Kd.slice 3 (Kd.int .i64)) w L B.length B) (N:B.length ≤ M)
    (eg:∀ args w,(callFunc g args).run Try.prog w=.ok (.enter g args) w) (hp:TellsR g lb p K) (O:K w) (hKB:∀ W W',K W → Below W.heap.size W W' → K W') :
    Calls Try.prog 111 #[.slice L B.length M,.func (.func g) #[] lb] w fun e w'=>e=.returned (.int .i64 (idxR p B))∧Below w.heap.size w w':=by
  have Q:=mk0 F;have hlen:B.length ≤ 9223372036854775807:=F.2.1;clear F N;have HP:=mk0 hp;have HK:=mk0 (fun W=>hKB w W O);clear hp O hKB;go_enter Try.func111,Try.ntmps111;go_wp2;go_loopw [8] (fun J w'=>∃ i:Int,J=.int .i64 i∧Aside0 (0 ≤ i∧i ≤ B.length)∧Aside0 (SofarR p B i.toNat)∧Aside0 (Below w.heap.size w w')) (fun J _=>B.length - (intOf J).toNat);case atStart=>exact ⟨0,rfl,⟨by omega,by omega⟩,⟨SofarR.zero _ _⟩,⟨Below.refl _ _⟩⟩
  case round =>
    obtain ⟨i,rfl,HI,HS,D⟩:=hrel;by_cases hlt:i < (B.length:Int)
    · have I:0 ≤ i:=HI.1.1
      obtain ⟨ad,R,T,e,hx,hl,hi⟩:=at_L1 Q.1 i I hlt
      cases e
      replace hx:=bd_ D hx
      have HQ:=mk0 (HP.1 _ R T _ (HK.1 _ D.1) (Kd.C_below hi D.1) hl)
      clear hi hl
      have hd:decide (i < (B.length:Int))=true:=decide_eq_true hlt
      replace I:=eq_true I
      replace hlt:=eq_true hlt
      have hw:wrap64 (i + 1)=i + 1:=by have:=HI.1;have h:=of_eq_true hlt;unfold wrap64;omega
      have HW:=mk0 hw
      clear hw
      by_cases hb:p (rd_L1 B i)=true
      · have HF:=mk0 (idxR_some' p B i (of_eq_true I) (of_eq_true hlt) hb HS.1)
        have HT:=mk0 hb
        clear hb
        go_wp2_with (fail)
        refine HQ.1.mono ?_
        rintro e U ⟨rfl,E⟩
        rw [HT.1]
        have G:=mk0 E
        clear E
        go_wp2
        go_ret
        exact ⟨by first|(rw [HF.1];done)|(rw [HF.1];rfl),D.1.trans (G.1.mono D.1.size)⟩
      · have HT:=mk0 (Bool.eq_false_iff.mpr hb)
        clear hb
        go_wp2_with (fail)
        refine HQ.1.mono ?_
        rintro e U ⟨rfl,E⟩
        rw [HT.1]
        have G:=mk0 E
        clear E
        go_wp2
        go_roundw
        case rel=>exact ⟨_,rfl,⟨by rw [HW.1];have:=HI.1;have:=of_eq_true hlt;omega⟩,⟨by rw [HW.1];have:=HI.1;rw [show (i + 1).toNat=i.toNat + 1 by omega];exact HS.1.succ (by rw [Int.toNat_of_nonneg this.1];exact HT.1)⟩,⟨D.1.trans (G.1.mono D.1.size)⟩⟩
        case measure=>simp only [intOf];have:=HW.1;have:=HI.1;have:=of_eq_true hlt;omega
    · have hd:decide (i < (B.length:Int))=false:=decide_eq_false hlt
      have HF:=mk0 (idxR_none p B (fun j hj=>HS.1 j (by have:=HI.1;omega)))
      clear hlt
      go_wp2
      go_ret
      exact ⟨by first|(rw [HF.1];done)|(rw [HF.1];rfl),D.1⟩
def DelInvR (p:List Int → Bool) (l xs:List (List Int)) (i j:Nat):Prop:=xs.length=l.length∧i < j∧j ≤ l.length∧xs.take i=(l.take j).filter (fun x=>!p x)∧xs.drop j=l.drop j
theorem DelInvR.read {p:List Int → Bool} {l xs:List (List Int)} {i j:Nat} (h:DelInvR p l xs i j) (hj:j < l.length):rd_L1 xs (j:Int)=rd_L1 l (j:Int):=by obtain ⟨h1,_,_,_,h5⟩:=h;(have hx:j < xs.length:=by omega);(have e:xs[j]?=l[j]?:=by have:=congrArg (fun z=>z[0]?) h5;simpa [List.getElem?_drop] using this);simp only [rd_L1,List.getD_eq_getElem?_getD,Int.toNat_natCast,e]
theorem DelInvR.skip {p:List Int → Bool} {l xs:List (List Int)} {i j:Nat} (h:DelInvR p l xs i j) (hj:j < l.length) (hp:p (rd_L1 l (j:Int))=true):DelInvR p l xs i (j + 1):=by
  obtain ⟨h1,h2,h3,h4,h5⟩:=h;(have e:l[j]?=some (rd_L1 l (j:Int)):=by simp [rd_L1,List.getD_eq_getElem?_getD,List.getElem?_eq_getElem hj]);refine ⟨h1,by omega,by omega,?_,?_⟩
  · rw [List.take_add_one,e,List.filter_append,h4]
    simp [hp]
  · have:=congrArg (List.drop 1) h5
    simpa [List.drop_drop,Nat.add_comm] using this
theorem DelInvR.keep {p:List Int → Bool} {l xs:List (List Int)} {i j:Nat} (h:DelInvR p l xs i j) (hj:j < l.length) (hp:p (rd_L1 l (j:Int))=false):DelInvR p l (xs.set i (rd_L1 l (j:Int))) (i + 1) (j + 1):=by
  obtain ⟨h1,h2,h3,h4,h5⟩:=h;(have e:l[j]?=some (rd_L1 l (j:Int)):=by simp [rd_L1,List.getD_eq_getElem?_getD,List.getElem?_eq_getElem hj]);refine ⟨by simpa using h1,by omega,by omega,?_,?_⟩
  · have hi:i < xs.length:=by omega
    have el:l.take (j + 1)=l.take j ++ [rd_L1 l (j:Int)]:=by rw [List.take_add_one,e];rfl
    rw [el,List.filter_append,← h4,List.take_add_one,List.take_set_of_le (Nat.le_refl _)]
    simp [hp,hi]
  · rw [List.drop_set_of_lt (by omega)]
    have:=congrArg (List.drop 1) h5
    simpa [List.drop_drop,Nat.add_comm] using this
theorem DelInvR.start {p:List Int → Bool} {l:List (List Int)} {k:Nat} (hk:k < l.length) (hp:p (rd_L1 l (k:Int))=true) (hb:∀ j,j < k → p (rd_L1 l (j:Int))=false):DelInvR p l l k (k + 1):=by (have e:l[k]?=some (rd_L1 l (k:Int)):=by simp [rd_L1,List.getD_eq_getElem?_getD,List.getElem?_eq_getElem hk]);refine ⟨rfl,by omega,by omega,?_,rfl⟩;rw [List.take_add_one,e,List.filter_append];(have:(l.take k).filter (fun x=>!p x)=l.take k:=by rw [List.filter_eq_self];intro x hx;obtain ⟨j,hj,rfl⟩:=List.getElem_of_mem hx;(have hj2:j < k:=by have:=hj;simp at this;omega);have:=hb j hj2;simpa [rd_L1,List.getD_eq_getElem?_getD,List.getElem?_eq_getElem (show j < l.length by omega)] using this);rw [this];simp [hp]
theorem idxR_cases (p:List Int → Bool) (l:List (List Int)):(idxR p l=-1∧∀ j,j < l.length → p (rd_L1 l (j:Int))=false) ∨ ∃ k,k < l.length∧idxR p l=(k:Int)∧p (rd_L1 l (k:Int))=true∧∀ j,j < k → p (rd_L1 l (j:Int))=false:=by
  unfold idxR;rcases h:l.findIdx? p with _|k
  · refine .inl ⟨rfl,fun j hj=>?_⟩
    rw [List.findIdx?_eq_none_iff] at h
    have:=h l[j] (List.getElem_mem hj)
    simpa [rd_L1,List.getD_eq_getElem?_getD,List.getElem?_eq_getElem hj] using this
  · rw [List.findIdx?_eq_some_iff_getElem] at h
    obtain ⟨hk,hp,hb⟩:=h
    refine .inr ⟨k,hk,rfl,?_,fun j hj=>?_⟩
    · simpa [rd_L1,List.getD_eq_getElem?_getD,List.getElem?_eq_getElem hk] using hp
    · have:=hb j hj
      simpa [rd_L1,List.getD_eq_getElem?_getD,List.getElem?_eq_getElem (show j < l.length by omega)] using this
theorem below_cellsR {b:Nat} {a:World} (hb:a.heap.size ≤ b):∀ (vs:List Value) (o:Nat) (w:World),Below a.heap.size a w → Below a.heap.size a (w.setCells b o vs)
  | [],_,_,h=>h
  | v :: vs,o,w,h=>below_cellsR hb vs (o + 1) _ (below_set h hb)
theorem del_measureR (n j:Nat) (h:j < n) (x:Int) (hx:x=((j + 1:Nat):Int)):n - (intOf (.int .i64 x)).toNat < n - (intOf (.int .i64 (j:Int))).toNat:=by subst hx;simp only [intOf,Int.toNat_natCast];omega
theorem sz_rows:(Kd.slice 3 (Kd.int .i64)).sz=1:=rfl
theorem setCellsR_heap (b k:Nat) (hk:k ≠ b):∀ (vs:List Value) (o:Nat) (w:World),(w.setCells b o vs).heap[k]?=w.heap[k]?
  | [],_,_=>rfl
  | v :: vs,o,w=>(setCellsR_heap b k hk vs (o + 1) _).trans (Below.heap_setCell w ⟨b,o,none⟩ v k hk)
set_option maxHeartbeats 2000000 in
set_option maxRecDepth 100000 in
theorem DeleteFunc_rows.calls (g:Nat) (lb:Array Value) (p:List Int → Bool) (K:World → Prop) (blk J:Nat) (B:List (List Int)) (w0 w:World)
    (hO:Kd.N (Kd.slice 3 (Kd.int .i64)) 23 w w0.heap.size (fun _=>True) (.slice (some ⟨blk,0,none⟩) B.length J) B) (hne:0 < B.length) (hB:Below w0.heap.size w0 w)
    (eg:∀ args w,(callFunc g args).run Try.prog w=.ok (.enter g args) w) (hT:TellsR g lb p K) (hK:K w)
    (hKB:∀ W W',K W → Below W.heap.size W W' → K W') (hKS:∀ W i v,K W → K (W.setCell ⟨blk,i,none⟩ v)) :
    Calls Try.prog 103 #[.slice (some ⟨blk,0,none⟩) B.length J,.func (.func g) #[] lb] w fun e w'=>e=.returned (.slice (some ⟨blk,0,none⟩) (B.filter fun x=>!p x).length J)∧Kd.C (Kd.slice 3 (Kd.int .i64)) w' (some ⟨blk,0,none⟩) (B.filter fun x=>!p x).length (B.filter fun x=>!p x)∧Below w0.heap.size w0 w':=by
  have HI:=mk0 (IndexFunc_rows.calls g lb p K (some ⟨blk,0,none⟩) J B w (Kd.N_reads' hO).2.2 (Kd.N_reads' hO).2.1 eg hT hK hKB);obtain ⟨go_,cap_,eo_,gb_,gl_,_⟩:=Kd.N_form hO hne;(have hblk:w0.heap.size ≤ blk:=by injection eo_ with L;injection L with e2;injection e2 with e3;rw [e3];exact gb_);clear eo_ gb_ gl_;have HO:=mk0 hO;have M:=mk0 hB;have HT:=mk0 hT;have HK:=mk0 hK;have HKB:=mk0 hKB;have HKS:=mk0 hKS;have HBK:=mk0 hblk;have HNE:=mk0 hne;have HLEN:=mk0 (Kd.N_reads' hO).2.2.2.1;have HCAP:=mk0 (Kd.N_reads' hO).2.1;clear hO hB hT hK hKB hKS hblk hne;rcases idxR_cases p B with ⟨L,hall⟩|⟨k0,hk0,L,ht,hb⟩
  · have HF:=mk0 (show (B.filter fun x=>!p x)=B from by
      rw [List.filter_eq_self];intro x hx;obtain ⟨j,hj,rfl⟩:=List.getElem_of_mem hx;have:=hall j hj
      simpa [rd_L1,List.getD_eq_getElem?_getD,List.getElem?_eq_getElem hj] using this)
    rw [L] at HI
    clear hall L
    rw [HF.1]
    go_enter Try.func103,Try.ntmps103
    go_wp2_with (go_at_call 111;(with_reducible refine HI.1.mono ?_);rintro e T ⟨rfl,D⟩;have E:=mk0 D;clear D)
    go_ret
    exact ⟨rfl,Kd.C_below (Kd.N_reads' HO.1).2.2 E.1,below_step M.1 E.1⟩
  · rw [L] at HI
    have HS:=mk0 (DelInvR.start hk0 ht hb)
    have a6:((k0:Int) == -1)=false:=beq_eq_false_iff_ne.mpr (by omega)
    have X:wrap64 ((k0:Int) + 1)=((k0 + 1:Nat):Int):=by have:=HLEN.1;unfold wrap64;omega
    have Y:=mk0 X
    clear X ht hb L
    go_enter Try.func103,Try.ntmps103
    go_wp2_with (go_at_call 111;(with_reducible refine HI.1.mono ?_);rintro e T ⟨rfl,D⟩;have E:=mk0 D;clear D)
    go_loopw [5,6,7] (fun v5 v6 v7 w'=>∃ (i j:Nat) (xs:List (List Int)),v5=.int .i64 (i:Int)∧v6=.int .i64 (j:Int)∧Aside0 (DelInvR p B xs i j)∧Aside0 (Kd.N (Kd.slice 3 (Kd.int .i64)) 23 w' w0.heap.size (fun _=>True) (.slice (some ⟨blk,0,none⟩) B.length J) xs)∧Aside0 (Below w0.heap.size w0 w')∧Aside0 (K w')) (fun v5 v6 v7 _=>B.length - (intOf v6).toNat)
    case atStart=>exact ⟨k0,k0 + 1,B,rfl,by rw [Y.1],HS,⟨Kd.N_below HO.1 E.1⟩,⟨below_step M.1 E.1⟩,⟨HKB.1 _ _ HK.1 E.1⟩⟩
    case round =>
      clear HO M HK E HI a6 Y HS;obtain ⟨i,j,xs,rfl,rfl,HD,HO,M,HK⟩:=hrel;have hxl:xs.length=B.length:=HD.1.1;by_cases hlt:(j:Int) < (B.length:Int)
      · have hjl:j < B.length:=by omega
        have hij:i < j:=HD.1.2.1
        obtain ⟨cs,hcl,hFK,hcc,hfr⟩:=Kd.N_elem HO.1 [] (j:Int) (by omega) (by omega)
        obtain ⟨G,I,rfl,O,Q⟩:=Kd.FK_slice_open hFK
        have hcell:wr.cell? ⟨blk,j,none⟩=some (.slice G (rd_L1 B (j:Int)).length I):=by have e:=HD.1.read hjl;rw [← e];simpa [rd_L1,sz_rows] using hcc 0 _ rfl
        have HQ:=mk0 (show Kd.FK (Kd.slice 3 (Kd.int .i64)) wr (fun k=>True∧k ≠ blk) (rd_L1 B (j:Int)) [.slice G (rd_L1 B (j:Int)).length I] from by
          have e:=HD.1.read hjl;rw [← e]
          simpa [rd_L1] using hFK)
        have Z:=mk0 (show Kd.C (Kd.int .i64) wr G (rd_L1 B (j:Int)).length (rd_L1 B (j:Int)) from by
          have e:=HD.1.read hjl;rw [← e]
          simpa [rd_L1] using Kd.F_now Q)
        have a0:(rd_L1 B (j:Int)).length ≤ I:=by have e:=HD.1.read hjl;rw [← e];simpa [rd_L1] using O
        have a1:=mk0 a0
        clear hcl hFK hcc hfr O Q a0
        have hd:decide ((j:Int) < (B.length:Int))=true:=decide_eq_true hlt
        have a8:decide (j < B.length)=true:=decide_eq_true hjl
        have hwj:wrap64 ((j:Int) + 1)=((j + 1:Nat):Int):=by have:=HLEN.1;unfold wrap64;omega
        have hwi:wrap64 ((i:Int) + 1)=((i + 1:Nat):Int):=by have:=HLEN.1;unfold wrap64;omega
        have HWJ:=mk0 hwj
        have HWI:=mk0 hwi
        clear hwj hwi
        by_cases hp:p (rd_L1 B (j:Int))=true
        · have U:=mk0 (HD.1.skip hjl hp)
          have HP:=mk0 hp
          clear hp
          go_wp2_with (fail)
          refine (HT.1 _ _ _ _ HK.1 Z.1 a1.1).mono ?_
          rintro e T ⟨rfl,D⟩
          rw [HP.1]
          have E:=mk0 D
          clear D
          go_wp2
          go_roundw
          case rel=>exact ⟨i,j + 1,xs,rfl,congrArg _ HWJ.1,U,⟨Kd.N_below HO.1 E.1⟩,⟨below_step M.1 E.1⟩,⟨HKB.1 _ _ HK.1 E.1⟩⟩
          case measure=>exact del_measureR _ _ hjl _ HWJ.1
        · have hp':=Bool.eq_false_iff.mpr hp
          have U:=mk0 (HD.1.keep hjl hp')
          have HP:=mk0 hp'
          clear hp hp'
          go_wp2_with (fail)
          refine (HT.1 _ _ _ _ HK.1 Z.1 a1.1).mono ?_
          rintro e T ⟨rfl,D⟩
          rw [HP.1]
          have a2:=mk0 (Kd.N_below HO.1 D)
          have E:=mk0 (below_step M.1 D)
          have a9:=mk0 (HKB.1 _ _ HK.1 D)
          have b0:=mk0 (Kd.FK_below HQ.1 D)
          clear D
          obtain ⟨cs,hcl,_,hcc,hfr⟩:=Kd.N_elem a2.1 [] (i:Int) (by omega) (by omega)
          obtain ⟨u,rfl⟩:∃ u,cs=[u]:=by
            cases cs with
            | nil=>simp [sz_rows] at hcl
            | cons u t=>cases t with
              | nil=>exact ⟨u,rfl⟩
              | cons _ _=>simp [sz_rows] at hcl
          have HPUT:=mk0 (Kd.N_seg (seg:=[.slice G (rd_L1 B (j:Int)).length I]) (j:=0) a2.1 (i:Int) (by omega) (by omega) hcl hcc (Nat.le_refl _) (x':=rd_L1 B (j:Int)) (by simpa using b0.1) (fun k hk=>hk)).1
          have b6:T.cell? ⟨blk,i,none⟩=some u:=by simpa [sz_rows] using hcc 0 _ rfl
          have b7:T.frozen? ⟨blk,i,none⟩=false:=by simpa [sz_rows] using hfr 0
          clear hcl hcc hfr
          have b8:decide ((i:Int) < (B.length:Int))=true:=decide_eq_true (by omega)
          have b9:(i < B.length)=True:=eq_true (by omega)
          go_wp2
          go_roundw
          case rel=>exact ⟨i + 1,j + 1,xs.set i (rd_L1 B (j:Int)),congrArg _ HWI.1,congrArg _ HWJ.1,U,⟨by have h:=HPUT.1;simpa [sz_rows,World.setCells] using h⟩,⟨by simpa using below_set E.1 HBK.1⟩,⟨by simpa using HKS.1 _ _ _ a9.1⟩⟩
          case measure=>exact del_measureR _ _ hjl _ HWJ.1
      · have hj:j=B.length:=by have:=HD.1.2.2.1;omega
        have hi:i < B.length:=by have:=HD.1.2.1;omega
        have hfil:xs.take i=B.filter (fun x=>!p x):=by have:=HD.1.2.2.2.1;rwa [hj,List.take_length] at this
        have hfl:(B.filter fun x=>!p x).length=i:=by rw [← hfil,l1_];omega
        have hd:decide ((j:Int) < (B.length:Int))=false:=decide_eq_false hlt
        have a8:decide (j < B.length)=false:=decide_eq_false (by omega)
        have hcap:=HCAP.1
        obtain ⟨c2,hii,hiz⟩:=Option.map_eq_some_iff.1 info23
        simp only [Prod.mk.injEq] at hiz
        have R:=cut_from (P:=Try.prog) 58 23 .i64 Try.underlying58 hii 1 hiz.2.1 (some ⟨blk,0,none⟩) B.length J (i:Int) (by omega) (by omega)
        have V:=cut_to (P:=Try.prog) 58 23 .i64 Try.underlying58 hii (some ⟨blk,0,none⟩) B.length J (i:Int) (by omega) (by omega) hcap
        have hne:¬ (J=i):=by omega
        simp only [Int.toNat_natCast,if_neg hne,Option.map_some,Nat.mul_one] at R V
        have hadd:(⟨blk,0,none⟩:Addr).add i=⟨blk,i,none⟩:=by simp only [Addr.add,Nat.zero_add];split <;> simp_all
        rw [hadd] at R
        have a3:∀ w,(zeroValue 23).run Try.prog w=.ok (.slice none 0 0) w:=fun w=>by kernel_rfl
        have hc:∀ q,q < B.length → ∃ G I,wr.cell? ⟨blk,q,none⟩=some (.slice G (xs.getD q []).length I)∧wr.frozen? ⟨blk,q,none⟩=false∧(xs.getD q []).length ≤ I∧Kd.F (Kd.int .i64) wr (fun k=>True∧k ≠ blk) G (xs.getD q []).length (xs.getD q []):=fun q hq=>by obtain ⟨cs,hcl,hFK,hcc,hfr⟩:=Kd.N_elem HO.1 [] (q:Int) (by omega) (by omega);obtain ⟨G,I,rfl,O,Q⟩:=Kd.FK_slice_open hFK;exact ⟨G,I,by simpa [sz_rows] using hcc 0 _ rfl,by simpa [sz_rows] using hfr 0,by simpa using O,by simpa using Q⟩
        have hclr:∀ ty,(Builtin.clear_ #[58] ty #[.slice (some ⟨blk,i,none⟩) (B.length - i) (J - i)]).run Try.prog wr=.ok (.tuple #[]) (wr.setCells blk i (List.replicate (B.length - i) (.slice none 0 0))) :=
          fun ty=>Lib.run_clear_slice wr 58 23 ty (.slice none 0 0) Try.underlying58 a3 rfl rfl blk i (B.length - i) (J - i) (by omega) (fun q hq=>by obtain ⟨G,I,h,_⟩:=hc (i + q) (by omega);rw [h];rfl) (fun q hq=>by obtain ⟨G,I,_,h,_⟩:=hc (i + q) (by omega);exact h)
        have HKP:=mk0 (show ∀ k,(True∧k ≠ blk) → k < wr.heap.size → (wr.setCells blk i (List.replicate (B.length - i) (.slice none 0 0))).heap[k]?=wr.heap[k]? from fun k hk _=>setCellsR_heap blk k hk.2 _ _ _)
        have HFIN:=mk0 (show Kd.C (Kd.slice 3 (Kd.int .i64)) (wr.setCells blk i (List.replicate (B.length - i) (.slice none 0 0))) (some ⟨blk,0,none⟩) (B.filter fun x=>!p x).length (B.filter fun x=>!p x) from by
          rw [← hfil];refine ⟨rfl,by have hL:=HLEN.1;rw [l1_];omega,fun _=>⟨⟨blk,0,none⟩,rfl,fun q u hq=>?_⟩⟩;(have hql:q < i:=by have:=(List.getElem?_eq_some_iff.mp hq).1;rw [l1_] at this;omega);(have hu:u=xs.getD q []:=by rw [List.getElem?_take_of_lt hql] at hq;simp [List.getD_eq_getElem?_getD,hq]);obtain ⟨G,I,h1,_,h3,h4⟩:=hc q (by omega);rw [← hu] at h1 h3 h4;refine ⟨[.slice G u.length I],rfl,⟨G,I,rfl,h3,Kd.F_now (Kd.F_step h4 HKP.1)⟩,fun a b hab=>?_⟩
          have b4:a=0:=by
            cases a with
            | zero=>rfl
            | succ a=>simp at hab
          subst b4;(have hb:b=.slice G u.length I:=by simpa using hab.symm);subst hb;have e:(⟨blk,0,none⟩:Addr).add (q * (Kd.slice 3 (Kd.int .i64)).sz + 0)=⟨blk,q,none⟩:=by have hs:(Kd.slice 3 (Kd.int .i64)).sz=1:=rfl;rw [hs,Nat.mul_one,Nat.add_zero];simp only [Addr.add,Nat.zero_add];split <;> simp_all
          rw [e,World.cell?_setCells_out blk _ _ _ ⟨blk,q,none⟩ (fun _ _=>Or.inl hql),h1])
        have HBF:=mk0 (show Below w0.heap.size w0 (wr.setCells blk i (List.replicate (B.length - i) (.slice none 0 0))) from below_cellsR HBK.1 _ _ _ M.1)
        have HFL:=mk0 hfl
        clear hc a3 hadd hii hiz hfl hfil HKP
        go_wp2_with (simp only [hclr])
        go_ret
        refine ⟨?_,HFIN.1,HBF.1⟩
        rw [HFL.1]
        rfl
attribute [local go_sem] eqGuard_slices eqlnil58 in
set_option maxHeartbeats 1000000 in
set_option maxRecDepth 100000 in
theorem Clone_rows.calls (I:Option Addr) (M:Nat) (B:List (List Int)) (w:World) (D:Kd.C (Kd.slice 3 (Kd.int .i64)) w I B.length B) (E:B.length ≤ M) (hl:B.length ≤ 5000000) :
    Calls Try.prog 104 #[.slice I B.length M] w fun e w'=>∃ v,e=.returned v∧Kd.N (Kd.slice 3 (Kd.int .i64)) 23 w' w.heap.size (fun _=>True) v B∧Below w.heap.size w w':=by
  cases I with
  | none =>
    have T:B=[]:=by
      (rcases Nat.eq_zero_or_pos B.length with h|h);· exact List.eq_nil_of_length_eq_zero h
      · obtain ⟨ad,e,_⟩:=D.2.2 h
        cases e
    subst T;clear D E hl;go_enter Try.func104,Try.ntmps104;go_wp2;go_ret;exact ⟨_,rfl,Kd.N_nil _ _ _ _ _,Below.refl _ _⟩
  | some a0 =>
    have HF:=mk0 (Kd.C_F (Kd.heap_slice 3 (Kd.heap_int .i64)) D);have HL:=mk0 hl;clear D E hl;go_enter Try.func104,Try.ntmps104
    go_wp2_with (first
      | ((with_reducible refine gate_dst (N:=5) rfl ?_);refine Kd.N_lit (Kd.slice 3 (Kd.int .i64)) (w0:=w) w.heap.size 23 ?hg (N':=5) ?hd (xs:=([]:List (List Int))) (inner:=[]) (ok:=fun _=>True) (okp:=fun _=>True) ?hr ?hp (fun _ hk=>hk) trivial (Below.refl _ _) (Nat.le_refl _) (by simp) ?_;(case hd=>rfl);(case hg=>rfl);(case hr=>first|(go_simp;done)|(go_simp;rfl));(case hp=>exact Reps.none _ _);intro U V ho hb hg_ hn;clear hg_;have HO:=mk0 ho;have J:=mk0 hb;have HN:=mk0 hn;clear ho hb hn)
      | ((with_reducible refine gate_builtin (b:=.append) (xs:=#[.tmp 5,.tmp 6]) rfl ?_);at_builtin;refine Kd.N_append_rows (Kd.slice 3 (Kd.int .i64)) (w0:=w) w.heap.size rfl (.tmp 5) (.tmp 6) 58 23 (.slice none 0 0) 24 rfl Try.underlying58 info23 rfl (by decide) (by omega) U [] B _ _ _ (fun _=>True) (fun k=>k < w.heap.size) rfl rfl ?aO ?aR ?aK (fun _ _=>trivial) ?aB ?aS ?aL ?_;(case aO=>exact HO.1);(case aR=>exact Kd.F_below HF.1 J.1);(case aB=>exact J.1);(case aS=>exact below_size J.1);(case aK=>exact fun k hk=>⟨trivial,fun h=>by obtain ⟨b,e,hb⟩:=HN.1;rw [e] at h;injection h with h;omega⟩);(case aL=>have:=HL.1;simp only [List.length_nil];omega);intro X Y F G O L;clear O L;have Q:=mk0 F;have R:=mk0 G;clear F G))
    go_ret;exact ⟨_,rfl,Q.1,R.1⟩
def zeroV (l:List Int):Bool:=!(l.any (fun x=>decide (x ≠ 0)))
def count_in.f (k:Nat) (l0:List Int) (l1:List (List Int)) (l2:List Int):Option Bool :=
  if l1.length ≤ 5000000 then (count_less.f k l2 l0).bind fun t=>if t.2=true then count_made.f k t.1 (l1.filter fun x=>!zeroV x) else some false else none
theorem DeleteFunc_zero.calls (v:Value) (B:List (List Int)) (w0 w:World) (hO:Kd.N (Kd.slice 3 (Kd.int .i64)) 23 w w0.heap.size (fun _=>True) v B) (hB:Below w0.heap.size w0 w) :
    Calls Try.prog 103 #[v,.func (.func 105) #[] #[]] w fun e w'=>∃ A c,e=.returned (.slice A (B.filter fun x=>!zeroV x).length c)∧(B.filter fun x=>!zeroV x).length ≤ c∧Kd.C (Kd.slice 3 (Kd.int .i64)) w' A (B.filter fun x=>!zeroV x).length (B.filter fun x=>!zeroV x)∧Below w0.heap.size w0 w':=by
  have eg:∀ args w,(callFunc 105 args).run Try.prog w=.ok (.enter 105 args) w:=enters_of Try.func105 (by kernel_rfl) rfl;(have hT:TellsR 105 #[] zeroV (fun _=>True):=fun W A c l _ hC hc=>count_zero.calls A c l (zeroV l) W hC hc rfl);rcases Nat.eq_zero_or_pos B.length with F|hp
  · have hl:B=[]:=List.eq_nil_of_length_eq_zero F
    subst hl
    obtain ⟨A,c,rfl⟩:=Kd.N_slice hO
    have HI:=mk0 (IndexFunc_rows.calls 105 #[] zeroV (fun _=>True) A c [] w (Kd.N_reads' hO).2.2 (Kd.N_reads' hO).2.1 eg hT trivial (fun _ _ _ _=>trivial))
    have HN:=mk0 (Kd.N_reads' hO).2.2
    have G:=mk0 hB
    clear hO hB eg hT F
    rw [show idxR zeroV []=-1 from rfl] at HI
    simp only [List.length_nil] at HI ⊢
    go_enter Try.func103,Try.ntmps103
    go_wp2_with (go_at_call 111;(with_reducible refine HI.1.mono ?_);rintro e I ⟨rfl,D⟩;have E:=mk0 D;clear D)
    go_ret
    exact ⟨_,_,rfl,Nat.zero_le _,Kd.C_below HN.1 E.1,below_step G.1 E.1⟩
  · obtain ⟨blk,cap,rfl,_,_,_⟩:=Kd.N_form hO hp
    refine (DeleteFunc_rows.calls 105 #[] zeroV (fun _=>True) blk cap B w0 w hO hp hB eg hT trivial (fun _ _ _ _=>trivial) (fun _ _ _ _=>trivial)).mono ?_
    rintro e I ⟨rfl,hC,hb⟩
    exact ⟨_,_,rfl,Nat.le_trans (List.length_filter_le _ _) (Kd.N_reads' hO).2.1,hC,hb⟩
set_option maxHeartbeats 2000000 in
set_option maxRecDepth 100000 in
theorem count_in.calls (k:Nat) (L:Option Addr) (M:Nat) (F:List Int) (O:Option Addr) (Q:Nat) (B:List (List Int)) (R:Option Addr) (T:Nat) (G:List Int) (r:Bool) (w:World)
    (U:Kd.C (Kd.int .i64) w L F.length F) (V:F.length ≤ M) (X:Kd.C (Kd.slice 3 (Kd.int .i64)) w O B.length B) (Y:B.length ≤ Q) (Z:Kd.C (Kd.int .i64) w R G.length G) (a0:G.length ≤ T) (h:count_in.f k F B G=some r) :
    Calls Try.prog 90 #[.agg #[.slice L F.length M,.slice O B.length Q],.slice R G.length T] w fun e w'=>e=.returned (.bool r)∧Below w.heap.size w w':=by
  unfold count_in.f at h;split at h;(case isFalse=>cases h);rename_i hlen;obtain ⟨⟨r1,r2⟩,hless,h⟩:=Option.bind_eq_some_iff.mp h;have HL:=mk0 hless;have HN:=mk0 hlen;have a1:=mk0 U;have b7:=mk0 X;have a2:=mk0 Z;have a3:=mk0 V;have b8:=mk0 Y;have a4:=mk0 a0;clear hless hlen U X Z V Y a0
  cases r2 with
  | false =>
    simp only [Bool.false_eq_true,if_false] at h;obtain rfl:=Option.some.inj h;go_enter Try.func90,Try.ntmps90
    go_wp2_with (first
      | ((with_reducible refine gate_dst (N:=2) rfl ?_);refine box_event ?hg (N:=2) ?hd (cs:=#[.slice L F.length M,.slice O B.length Q]) (t:=60) ?hr ?_;(case hd=>rfl);(case hg=>rfl);(case hr=>first|(go_simp;done)|(go_simp;rfl));intro gb hg w3 D hb;have BK:=mk0 D;have I:=mk0 hb;clear hb D hg;have b5:=q0_ BK)
      | (go_at_call 101;(with_reducible refine (count_less.calls k R T G L M F r1 false _ (Kd.C_below a2.1 I.1) a4.1 (Kd.C_below a1.1 I.1) a3.1 HL.1).mono ?_);rintro e w4 ⟨v,rfl,hR,E⟩;have J:=mk0 (below_step I.1 E);clear hR E))
    go_ret;exact ⟨rfl,J.1⟩
  | true =>
    simp only [if_true] at h;have HM:=mk0 h;clear h;go_enter Try.func90,Try.ntmps90
    go_wp2_with (first
      | ((with_reducible refine gate_dst (N:=2) rfl ?_);refine box_event ?hg (N:=2) ?hd (cs:=#[.slice L F.length M,.slice O B.length Q]) (t:=60) ?hr ?_;(case hd=>rfl);(case hg=>rfl);(case hr=>first|(go_simp;done)|(go_simp;rfl));intro gb hg w3 D hb;have BK:=mk0 D;have I:=mk0 hb;clear hb D hg;have b5:=q0_ BK)
      | (go_at_call 101;(with_reducible refine (count_less.calls k R T G L M F r1 true _ (Kd.C_below a2.1 I.1) a4.1 (Kd.C_below a1.1 I.1) a3.1 HL.1).mono ?_);rintro e w4 ⟨v,rfl,hR,E⟩;obtain ⟨A4,c4,rfl,a5,a6⟩:=Kd.R_reads hR;have HLV:=mk0 a5;have HCV:=mk0 a6;clear hR a5 a6;have d4:w4.cell? ⟨gb,1,none⟩=some (.slice O B.length Q):=(E.cell (p:=⟨gb,1,none⟩) (World.block_lt_of_cell? _ _ (q1_ BK))).trans (q1_ BK);have J:=mk0 (below_step I.1 E);clear E)
      | (go_at_call 104;(with_reducible refine (Clone_rows.calls O Q B _ (Kd.C_below b7.1 J.1) b8.1 HN.1).mono ?_);rintro e w5 ⟨v5,rfl,a7,a8⟩;have b9:=mk0 a7;have c3:=mk0 a8;clear a7 a8)
      | (go_at_call 103;(with_reducible refine (DeleteFunc_zero.calls v5 B w4 w5 b9.1 c3.1).mono ?_);rintro e w6 ⟨A6,c6,rfl,a9,b0,b1⟩;have c7:=mk0 a9;have c8:=mk0 b0;have b2:=mk0 b1;clear a9 b0 b1)
      | (go_at_call 102;(with_reducible refine (count_made.calls k (fun q=>q < w6.heap.size) A4 c4 r1 A6 c6 (B.filter fun x=>!zeroV x) r w6 (Kd.V_mk HLV.1 (Kd.C_F (Kd.heap_int .i64) (Kd.C_below HCV.1 b2.1))) c8.1 c7.1 HM.1).mono ?_);rintro e w7 ⟨rfl,b3⟩;have c9:=mk0 (below_step (below_step J.1 b2.1) b3);clear b3))
    go_ret;exact ⟨rfl,c9.1⟩
-- NOT PRINTED: function 89 (count_has_1)
theorem count_in.mono (k:Nat) (l0:List Int) (l1:List (List Int)) (l2:List Int):LeO (count_in.f k l0 l1 l2) (count_in.f (k + 1) l0 l1 l2):=by unfold count_in.f;exact LeO.ite (LeO.bind (count_less.mono _ _ _) (fun _=>LeO.ite (count_made.mono _ _ _) (LeO.refl _))) (LeO.refl _)
def count_has.g (k:Nat) (v:List Int):List S60 → Option Bool
  | []=>some false
  | x :: xs=>(count_in.f k x.f0 x.f1 v).bind fun b=>(count_has.g k v xs).bind fun c=>some (b || c)
def count_has.f (k:Nat) (l0:List S60) (l1:List Int):Option (Bool):=count_has.g k l1 l0
theorem count_has.mono_g (k:Nat) (v:List Int):∀ l,LeO (count_has.g k v l) (count_has.g (k + 1) v l)
  | []=>LeO.refl _
  | x :: xs=>LeO.bind (count_in.mono k _ _ _) (fun _=>LeO.bind (count_has.mono_g k v xs) (fun _=>LeO.refl _))
theorem count_has.mono:∀ a0 a1 k,LeO (count_has.f k a0 a1) (count_has.f (k + 1) a0 a1):=fun a0 a1 k=>count_has.mono_g k a1 a0
theorem count_has.g_some (k:Nat) (v:List Int):∀ (l:List S60) (r:Bool),count_has.g k v l=some r → (∀ x ∈ l,(count_in.f k x.f0 x.f1 v).isSome=true)∧r=l.any (fun x=>(count_in.f k x.f0 x.f1 v).getD false)
  | [],r,h=>⟨fun x hx=>by simp at hx,by obtain rfl:=Option.some.inj h;rfl⟩
  | x :: xs,r,h=>by
    obtain ⟨b,hb,h⟩:=Option.bind_eq_some_iff.mp h;obtain ⟨c,hc,h⟩:=Option.bind_eq_some_iff.mp h;obtain rfl:=Option.some.inj h;obtain ⟨h1,h2⟩:=count_has.g_some k v xs c hc;refine ⟨fun y hy=>?_,?_⟩
    · rcases List.mem_cons.mp hy with rfl|hy
      · rw [hb];rfl
      · exact h1 y hy
    · rw [List.any_cons,hb,← h2];rfl
set_option maxHeartbeats 1000000 in
set_option maxRecDepth 100000 in
theorem count_has.tells (k:Nat) (G:Option Addr) (I:Nat) (D:List Int) (B:Nat) (w:World) (hB:B < w.heap.size) (hcell:w.cell? ⟨B,0,none⟩=some (.slice G D.length I)) (J:Kd.C (Kd.int .i64) w G D.length D) (L:D.length ≤ I) :
    TellsL 89 #[.pointer (some ⟨B,0,none⟩)] (fun x=>(count_in.f k x.f0 x.f1 D).getD false) (fun x=>(count_in.f k x.f0 x.f1 D).isSome=true) (fun W=>Below w.heap.size w W):=fun W U V X Y x hb hD M O Q R=>by
  obtain ⟨b,E⟩:=Option.isSome_iff_exists.mp hD;dsimp only;rw [show (count_in.f k x.f0 x.f1 D).getD false=b from by rw [E];rfl];show Calls Try.prog 89 #[.agg #[.slice U x.f0.length V,.slice X x.f1.length Y],.pointer (some ⟨B,0,none⟩)] W (fun e w'=>e=.returned (.bool b)∧Below W.heap.size W w');have HV:=mk0 ((hb.cell (p:=⟨B,0,none⟩) hB).trans hcell);have HI:=mk0 (fun Z (h:Below W.heap.size W Z)=>count_in.calls k U V x.f0 X Y x.f1 G I D b Z (Kd.C_below O h) M (Kd.C_below R h) Q (Kd.C_below (Kd.C_below J hb) h) L E);clear hb hD M O Q R E J L hcell hB;go_enter Try.func89,Try.ntmps89
  go_wp2_with (first
    | ((with_reducible refine gate_dst (N:=2) rfl ?_);refine box_event ?hg (N:=2) ?hd (cs:=#[.slice U x.f0.length V,.slice X x.f1.length Y]) (t:=60) ?hr ?_;(case hd=>rfl);(case hg=>rfl);(case hr=>first|(go_simp;done)|(go_simp;rfl));intro gb hg w3 F hb;have BK:=mk0 F;have HB:=mk0 hb;have hcv:w3.cell? ⟨B,0,none⟩=some (.slice G D.length I):=(hb.cell (p:=⟨B,0,none⟩) (World.block_lt_of_cell? _ _ HV.1)).trans HV.1;clear hb F hg;have a3:=q0_ BK;have a4:=q1_ BK)
    | (go_at_call 90;(with_reducible refine (HI.1 _ HB.1).mono ?_);rintro e w4 ⟨rfl,T⟩;have a1:=mk0 (below_step HB.1 T);clear T))
  go_ret;exact ⟨rfl,a1.1⟩
set_option maxHeartbeats 1000000 in
set_option maxRecDepth 100000 in
theorem count_has.calls (k:Nat) (A0:Option Addr) (c0:Nat) (l0:List (S60)) (A1:Option Addr) (c1:Nat) (l1:List Int) (r:Bool) (w:World) (hr0:Kd.C k60 w A0 l0.length l0) (hc0:l0.length ≤ c0) (hr1:Kd.C (Kd.int .i64) w A1 l1.length l1) (hc1:l1.length ≤ c1) (h:count_has.f k l0 l1=some r) :
    Calls Try.prog 53 #[.slice A0 l0.length c0,.slice A1 l1.length c1] w fun e w'=>e=.returned (.bool r)∧Below w.heap.size w w':=by
  obtain ⟨hD,hr⟩:=count_has.g_some k l1 l0 r h;have HR:=mk0 hr;have eg:∀ args w,(callFunc 89 args).run Try.prog w=.ok (.enter 89 args) w:=enters_of Try.func89 (by kernel_rfl) rfl
  have HC:=mk0 (ContainsFunc_lin.calls 89 #[.pointer (some ⟨w.heap.size,0,none⟩)] (fun x=>(count_in.f k x.f0 x.f1 l1).getD false) (fun x=>(count_in.f k x.f0 x.f1 l1).isSome=true) (fun W=>Below (w.alloc (.cells #[.slice A1 l1.length c1] 23)).heap.size (w.alloc (.cells #[.slice A1 l1.length c1] 23)) W) A0 c0 l0 (w.alloc (.cells #[.slice A1 l1.length c1] 23)) (Kd.C_alloc hr0 _) hc0 eg
    (count_has.tells k A1 c1 l1 w.heap.size _ (by simp) (by simp) (Kd.C_alloc hr1 _) hc1) hD (Below.refl _ _) (fun W W' h h2=>below_step h h2))
  clear eg hr0 hr1 hr hD h hc0 hc1;go_enter Try.func53,Try.ntmps53;go_wp2_with (go_at_call 88;(with_reducible refine HC.out.mono ?_);rintro e w1 ⟨rfl,hb1⟩;rw [← HR.out];have HB1:=mk0 hb1;clear hb1);go_ret;exact ⟨rfl,((Below.refl _ _).alloc (Nat.le_refl _) _).trans (HB1.out.mono (by simp))⟩
def count_Has.j0:Nat → Int → List (S60) → List Int → Int → Bool → Option (Bool × Int)
  | 0,_,_,_,_,_=>none
  | k + 1,x0,x1,x2,x8,x21=>if x21=true then (some (false,1)) else (if x8=0 then (if (x2.length:Int)=x0 then ((count_has.f k x1 x2).bind fun t131=>(some (t131,0))) else (some (false,2))) else (some (false,2)))
def count_Has.f (k:Nat) (a0:Int) (l1:List (S60)) (l2:List Int):Option (Bool × Int):=(count_check.f k a0 (([l1]:List (List (S60))))).bind fun t129=>(if t129=3 then (some (false,t129)) else (if t129=1 then (count_Has.j0 k a0 l1 l2 t129 true) else ((count_outside.f l2 60).bind fun t130=>(count_Has.j0 k a0 l1 l2 t129 t130))))
theorem count_Has.mono_l:∀ k,(∀ y0 y1 y2 y3 y4,LeO (count_Has.j0 k y0 y1 y2 y3 y4) (count_Has.j0 (k + 1) y0 y1 y2 y3 y4))
  | 0=>fun _ _ _ _ _ r h=>by simp [count_Has.j0] at h
  | k + 1=>by
    have ih0:=count_Has.mono_l k
    · intro y0 y1 y2 y3 y4
      unfold count_Has.j0
      with_reducible repeat' first|exact ih0 _ _ _ _ _|exact count_check.mono _ _ _|exact count_has.mono _ _ _|exact LeO.refl _|exact LeO.none _|refine LeO.ite ?_ ?_|refine LeO.bind ?_ (fun _=>?_)
theorem count_Has.mono:∀ a0 a1 a2 k,LeO (count_Has.f k a0 a1 a2) (count_Has.f (k + 1) a0 a1 a2):=by intro a0 a1 a2 k;have ih0:=count_Has.mono_l k;unfold count_Has.f;with_reducible repeat' first|exact ih0 _ _ _ _ _|exact count_check.mono _ _ _|exact count_has.mono _ _ _|exact LeO.refl _|exact LeO.none _|refine LeO.ite ?_ ?_|refine LeO.bind ?_ (fun _=>?_)
set_option maxHeartbeats 8000000 in
set_option maxRecDepth 100000 in
theorem count_Has.calls (k:Nat) (L:Int) (J:Nat → Prop) (Z:Option Addr) (Y:Nat) (F:List (S60)) (A2:Option Addr) (c2:Nat) (I:List Int) (r1:Bool) (r2:Int) (w:World) (c6:Kd.V k60 60 w w.heap.size (fun k_=>J k_) (.slice Z F.length Y) F) (b3:Kd.C (Kd.int .i64) w A2 I.length I) (b4:I.length ≤ c2) (h:count_Has.f k L F I=some (r1,r2)) :
    Calls Try.prog 23 #[.int .i64 L,.slice Z F.length Y,.slice A2 I.length c2] w fun e w'=>e=.returned (.tuple #[.bool r1,.int .i64 r2])∧Below w.heap.size w w':=by
 have G:=mk0 (show Kd.V k60 60 w w.heap.size (fun k_=>(J k_ ∨ w.heap.size ≤ k_)) (.slice Z F.length Y) F from Kd.V_mono c6 (fun k_ hk=>.inl hk));have b5:=mk0 b3;have b6:=mk0 b4;clear b3 b4;have E:=mk0 (Below.refl w.heap.size w);have H:((count_check.f k L (([F]:List (List (S60))))).bind fun B=>(if B=3 then (some (false,B)) else (if B=1 then (count_Has.j0 k L F I B true) else ((count_outside.f I 60).bind fun Q=>(count_Has.j0 k L F I B Q)))))=some (r1,r2):=h;clear h;obtain ⟨X,O⟩:∃ y_:List (List (S60)),y_=(([F]:List (List (S60)))):=⟨_,rfl⟩;(replace H:((count_check.f k L X).bind fun B=>(if B=3 then (some (false,B)) else (if B=1 then (count_Has.j0 k L F I B true) else ((count_outside.f I 60).bind fun Q=>(count_Has.j0 k L F I B Q)))))=some (r1,r2):=by first|(rw [O];with_reducible exact H)|(have a8:=(Option.bind_some _ _).symm.trans H;rw [O];with_reducible exact a8)|(have a8:=(Option.bind_some _ _).symm.trans H;with_reducible exact a8)|with_reducible exact H|(rw [O];exact H)|exact H);have T:=mk0 O;clear O;replace H:=Option.bind_eq_some_iff.mp H;obtain ⟨B,b7,H⟩:=H;(try dsimp only at H);have A4:=mk0 b7;clear b7;by_cases c5:B=3;· rw [if_pos c5] at H;have c5b0:(B == 3)=true:=beq_iff_eq.mpr c5;have c5b1:(B != 3)=false:=bne_eq_false_iff_eq.mpr c5;clear c5;simp only [Option.some.injEq,Prod.mk.injEq] at H;obtain ⟨rfl,rfl⟩:=H;go_enter Try.func23,Try.ntmps23;go_wp2_with (first|((with_reducible refine gate_dst (N:=11) rfl ?_);(try (refine gate_guard (by rfl) ?_;dsimp only));refine Kd.N_lit (Kd.slice 60 k60) _ 22 ?hg (N':=11) ?hd (xs:=([F]:List (List (S60)))) (inner:=[.slice Z F.length Y]) (ok:=(fun k_=>(J k_ ∨ w.heap.size ≤ k_))) (okp:=(fun k_=>(J k_ ∨ w.heap.size ≤ k_))) ?hr ?hp (fun _ hk=>hk) ((show ∀ k_,w.heap.size ≤ k_ → (fun k_=>(J k_ ∨ w.heap.size ≤ k_)) k_ from fun k_ hk=>(.inr (Nat.le_trans (below_size E.1) hk))) _ (Nat.le_refl _)) (Below.refl _ _) (Nat.le_refl _) (by simp) ?_;(case hd=>rfl);(case hg=>rfl);(case hr=>first|(go_simp;done)|(go_simp;rfl));(case hp=>exact (Reps.one (show Kd.FK (Kd.slice 60 k60) _ _ F [.slice Z F.length Y] from (Kd.FK_slice_mk (Kd.V_reads' (Kd.V_mono (e:=0) (base:=0) (ok':=(fun k_=>(J k_ ∨ w.heap.size ≤ k_))) (G.1) (fun k_ hk=>hk))).2.1 (Kd.V_F (Kd.V_mono (e:=0) (base:=0) (ok':=(fun k_=>(J k_ ∨ w.heap.size ≤ k_))) (G.1) (fun k_ hk=>hk))))) (Reps.none _ _)));intro b9 w6 R hb hg_ a1;clear hg_ a1;(first|rw [← T.1] at R|(simp only [Int.reduceToNat] at R;rw [← T.1] at R));have D:=mk0 (Kd.N_lower R (below_size E.1));replace G:=mk0 (Kd.V_elder' G.1 (by first|exact Kd.N_base R|exact Kd.S_base R|exact Kd.R_base R) hb);replace E:=bst E hb;clear hb R;obtain ⟨c8,c9,d0⟩:=Kd.N_slice D.1;subst d0)|((with_reducible refine gate_callee (f:=51) rfl ?_);refine goesL_ (some 12) rfl rfl Try.func51 (by kernel_rfl) rfl #[.int .i64 L,.slice c8 X.length c9] rfl (by (try simp only [m0_,m1_,m2_]);first|done|rfl|(simp only [l0_,l1_];rfl)) ?_;(with_reducible refine (count_check.calls k L _ _ X B _ ?side1 ?side2 A4.1).mono ?_);(case side1=>repeat (first|exact (Kd.N_reads' D.1).2.2|(with_reducible refine Kd.C_alloc ?_ _)|(with_reducible refine Kd.C_drewN ?_ _)|(with_reducible refine Kd.C_drew ?_)));(case side2=>exact (Kd.N_reads' D.1).2.1);rintro e w9 ⟨rfl,hb⟩;refine ⟨_,rfl,?_⟩;replace G:=mk0 (Kd.V_below G.1 hb);replace D:=mk0 (Kd.N_below D.1 hb);replace E:=bst E hb;(try clear hb);(try clear hk)));go_ret2;exact ⟨by first|rfl|(simp [errW_none,errW_some] <;> rfl)|(simp [*,errW_none,errW_some] <;> rfl),by exact E.1⟩
 ·
  rw [if_neg c5] at H;have c5b0:(B == 3)=false:=beq_eq_false_iff_ne.mpr c5;have c5b1:(B != 3)=true:=bne_iff_ne.mpr c5;have a5:=mk0 H;clear H;go_enter Try.func23,Try.ntmps23;go_upto_region 4 with (first|((with_reducible refine gate_dst (N:=11) rfl ?_);(try (refine gate_guard (by rfl) ?_;dsimp only));refine Kd.N_lit (Kd.slice 60 k60) _ 22 ?hg (N':=11) ?hd (xs:=([F]:List (List (S60)))) (inner:=[.slice Z F.length Y]) (ok:=(fun k_=>(J k_ ∨ w.heap.size ≤ k_))) (okp:=(fun k_=>(J k_ ∨ w.heap.size ≤ k_))) ?hr ?hp (fun _ hk=>hk) ((show ∀ k_,w.heap.size ≤ k_ → (fun k_=>(J k_ ∨ w.heap.size ≤ k_)) k_ from fun k_ hk=>(.inr (Nat.le_trans (below_size E.1) hk))) _ (Nat.le_refl _)) (Below.refl _ _) (Nat.le_refl _) (by simp) ?_;(case hd=>rfl);(case hg=>rfl);(case hr=>first|(go_simp;done)|(go_simp;rfl));(case hp=>exact (Reps.one (show Kd.FK (Kd.slice 60 k60) _ _ F [.slice Z F.length Y] from (Kd.FK_slice_mk (Kd.V_reads' (Kd.V_mono (e:=0) (base:=0) (ok':=(fun k_=>(J k_ ∨ w.heap.size ≤ k_))) (G.1) (fun k_ hk=>hk))).2.1 (Kd.V_F (Kd.V_mono (e:=0) (base:=0) (ok':=(fun k_=>(J k_ ∨ w.heap.size ≤ k_))) (G.1) (fun k_ hk=>hk))))) (Reps.none _ _)));intro b9 d4 M hb hg_ a1;clear hg_ a1;(first|rw [← T.1] at M|(simp only [Int.reduceToNat] at M;rw [← T.1] at M));have D:=mk0 (Kd.N_lower M (below_size E.1));replace G:=mk0 (Kd.V_elder' G.1 (by first|exact Kd.N_base M|exact Kd.S_base M|exact Kd.R_base M) hb);replace E:=bst E hb;clear hb M;obtain ⟨c0,c3,c4⟩:=Kd.N_slice D.1;subst c4)|((with_reducible refine gate_callee (f:=51) rfl ?_);refine goesL_ (some 12) rfl rfl Try.func51 (by kernel_rfl) rfl #[.int .i64 L,.slice c0 X.length c3] rfl (by (try simp only [m0_,m1_,m2_]);first|done|rfl|(simp only [l0_,l1_];rfl)) ?_;(with_reducible refine (count_check.calls k L _ _ X B _ ?side1 ?side2 A4.1).mono ?_);(case side1=>repeat (first|exact (Kd.N_reads' D.1).2.2|(with_reducible refine Kd.C_alloc ?_ _)|(with_reducible refine Kd.C_drewN ?_ _)|(with_reducible refine Kd.C_drew ?_)));(case side2=>exact (Kd.N_reads' D.1).2.1);rintro e d5 ⟨rfl,hb⟩;refine ⟨_,rfl,?_⟩;replace G:=mk0 (Kd.V_below G.1 hb);replace D:=mk0 (Kd.N_below D.1 hb);replace E:=bst E hb;(try clear hb);(try clear hk)));(try simp only [Act.put,s0_,s1_,s2_]);go_cut [21] (fun d1 wc=>∃ (kq:Nat) (U:Bool),d1=.bool U∧Aside0 (count_Has.j0 kq L F I B U=some (r1,r2))∧Aside0 (kq ≤ k)∧Aside0 (Kd.V k60 60 wc w.heap.size (fun k_=>(J k_ ∨ w.heap.size ≤ k_)) (.slice Z F.length Y) F)∧Aside0 (Below w.heap.size w wc));case first =>have H:=a5.1;clear a5;by_cases c15:B=1;(· rw [if_pos c15] at H;have c15b0:(B == 1)=true:=beq_iff_eq.mpr c15;have c15b1:(B != 1)=false:=bne_eq_false_iff_eq.mpr c15;clear c15;(first|rw [c15b0]|(simp only [i64_w,i32_w];rw [c15b0])|skip);have H':=mk0 H;clear H;go_wp2;go_meet;case rel=>exact ⟨_,(true),(by first|rfl|(simp;done)|(simp [*];done)),H',⟨by first|omega|exact Nat.le_refl _⟩,⟨by exact Kd.V_mono G.1 (fun _ hk=>hk.1)⟩,⟨by exact E.1⟩⟩);· rw [if_neg c15] at H;have c15b0:(B == 1)=false:=beq_eq_false_iff_ne.mpr c15;have c15b1:(B != 1)=true:=bne_iff_ne.mpr c15;(first|rw [c15b0]|(simp only [i64_w,i32_w];rw [c15b0])|skip);replace H:=Option.bind_eq_some_iff.mp H;obtain ⟨Q,a9,H⟩:=H;(try dsimp only at H);have d2:=mk0 a9;clear a9;have H':=mk0 H;clear H;go_wp2_with (first|(go_at_call 52;(with_reducible refine (count_outside.calls _ _ I 60 Q _ ?side1 ?side2 d2.1).mono ?_);(case side1=>repeat (first|exact (Kd.C_below b5.1 E.1)|(with_reducible refine Kd.C_alloc ?_ _)|(with_reducible refine Kd.C_drewN ?_ _)|(with_reducible refine Kd.C_drew ?_)));(case side2=>exact b6.1);rintro e d6 ⟨rfl,hb⟩;replace G:=mk0 (Kd.V_below G.1 hb);replace D:=mk0 (Kd.N_below D.1 hb);replace E:=bst E hb;(try clear hb)));go_meet;case rel=>exact ⟨_,(Q),(by first|rfl|(simp;done)|(simp [*];done)),H',⟨by first|omega|exact Nat.le_refl _⟩,⟨by exact Kd.V_mono G.1 (fun _ hk=>hk.1)⟩,⟨by exact E.1⟩⟩
  case rest =>
   (clear a5;try clear Y);(try clear c2);(try clear p2);(try clear c5);(try clear c5b0);(try clear c5b1);(try clear c15);(try clear c15b0);try clear c15b1
   obtain ⟨kq,U,rfl,HA,d7,a2,E⟩:=hcut;cases kq with
   | zero=>exact absurd HA.1 (by simp [count_Has.j0])
   | succ kj9 =>have H:=HA.1;clear HA;simp only [count_Has.j0] at H;by_cases a7:U=true;(· (subst a7;have H1:(some (false,1))=some (r1,r2):=by rw [if_pos rfl] at H;exact H);clear H;have H:=H1;clear H1;simp only [Option.some.injEq,Prod.mk.injEq] at H;obtain ⟨rfl,rfl⟩:=H;go_wp2;go_ret2;exact ⟨by first|rfl|(simp [errW_none,errW_some] <;> rfl)|(simp [*,errW_none,errW_some] <;> rfl),by exact E.1⟩);· (replace a7:=Bool.eq_false_iff.mpr a7;subst a7;have H1:(if B=0 then (if (I.length:Int)=L then ((count_has.f kj9 F I).bind fun a6=>(some (a6,0))) else (some (false,2))) else (some (false,2)))=some (r1,r2):=by rw [if_neg (show ¬ (false=true) by decide)] at H;exact H);clear H;have H:=H1;clear H1;by_cases c19:B=0;(· rw [if_pos c19] at H;have c19b0:(B == 0)=true:=beq_iff_eq.mpr c19;have c19b1:(B != 0)=false:=bne_eq_false_iff_eq.mpr c19;clear c19;by_cases c20:(I.length:Int)=L;(· rw [if_pos c20] at H;have c20b0:((I.length:Int) == L)=true:=beq_iff_eq.mpr c20;have c20b1:((I.length:Int) != L)=false:=bne_eq_false_iff_eq.mpr c20;clear c20;replace H:=Option.bind_eq_some_iff.mp H;obtain ⟨a6,b1,H⟩:=H;(try dsimp only at H);have d3:=mk0 b1;clear b1;simp only [Option.some.injEq,Prod.mk.injEq] at H;obtain ⟨rfl,rfl⟩:=H;go_wp2_with (first|((with_reducible refine gate_callee (f:=53) rfl ?_);refine goesL_ (some 32) rfl rfl Try.func53 (by kernel_rfl) rfl #[.slice Z F.length Y,.slice A2 I.length c2] rfl (by (try simp only [m0_,m1_,m2_]);first|done|rfl|(simp only [l0_,l1_];rfl)) ?_;(with_reducible refine (count_has.calls kj9 _ _ F _ _ I a6 _ ?side1 ?side2 ?side3 ?side4 d3.1).mono ?_);(case side1=>repeat (first|exact (Kd.V_reads' a2.1).2.2|(with_reducible refine Kd.C_alloc ?_ _)|(with_reducible refine Kd.C_drewN ?_ _)|(with_reducible refine Kd.C_drew ?_)));(case side2=>exact (Kd.V_reads' a2.1).2.1);(case side3=>repeat (first|exact (Kd.C_below b5.1 E.1)|(with_reducible refine Kd.C_alloc ?_ _)|(with_reducible refine Kd.C_drewN ?_ _)|(with_reducible refine Kd.C_drew ?_)));(case side4=>exact b6.1);rintro e d8 ⟨rfl,hb⟩;refine ⟨_,rfl,?_⟩;replace a2:=mk0 (Kd.V_below a2.1 hb);replace E:=bst E hb;(try clear hb)));go_ret2;exact ⟨by first|rfl|(simp [errW_none,errW_some] <;> rfl)|(simp [*,errW_none,errW_some] <;> rfl),by exact E.1⟩);· rw [if_neg c20] at H;have c20b0:((I.length:Int) == L)=false:=beq_eq_false_iff_ne.mpr c20;have c20b1:((I.length:Int) != L)=true:=bne_iff_ne.mpr c20;simp only [Option.some.injEq,Prod.mk.injEq] at H;obtain ⟨rfl,rfl⟩:=H;go_wp2;go_ret2;exact ⟨by first|rfl|(simp [errW_none,errW_some] <;> rfl)|(simp [*,errW_none,errW_some] <;> rfl),by exact E.1⟩);· rw [if_neg c19] at H;have c19b0:(B == 0)=false:=beq_eq_false_iff_ne.mpr c19;have c19b1:(B != 0)=true:=bne_iff_ne.mpr c19;simp only [Option.some.injEq,Prod.mk.injEq] at H;obtain ⟨rfl,rfl⟩:=H;go_wp2;go_ret2;exact ⟨by first|rfl|(simp [errW_none,errW_some] <;> rfl)|(simp [*,errW_none,errW_some] <;> rfl),by exact E.1⟩
open FoundW in
theorem okf:FoundW.KeyOK Try.prog 88 86 3 4 where
  A:=⟨Try.underlying86,by kernel_rfl,by kernel_rfl,by kernel_rfl⟩
  hi:=Try.underlying3
  he:=Try.underlying4
  hm:=Try.underlying88
  hsz:=⟨Try.prog.types.size - 1,by kernel_rfl⟩
  K:=Go.Maps.Keyed.of_law (deep_law_laid (m:=3) (by kernel_rfl) (by decide) (of_decide_eq_true (by kernel_rfl)) (by kernel_rfl) (by rw [Try.underlying86]))
def small3 (v:FoundW.V3):Prop:=(0 ≤ v.1∧v.1 ≤ 1000000)∧(0 ≤ v.2.1∧v.2.1 ≤ 1000000)∧(0 ≤ v.2.2∧v.2.2 ≤ 1000000)
theorem nodup_len3:∀ (T S:List FoundW.V3),T.Nodup → (∀ x ∈ T,x ∈ S) → T.length ≤ S.length
  | [],_,_,_=>Nat.zero_le _
  | t :: T,S,h,hs=>by obtain ⟨h1,h2⟩:=List.nodup_cons.1 h;have ht:=hs t (by simp);have:=nodup_len3 T (S.erase t) h2 (fun x hx=>(List.mem_erase_of_ne (fun e=>h1 (by rw [← e];exact hx))).2 (hs x (by simp [hx])));rw [List.length_erase_of_mem ht] at this;have:=List.length_pos_of_mem ht;simp only [List.length_cons];omega
def inBox (m s:FoundW.V3):Bool:=decide (s.1 ≤ m.1∧s.2.1 ≤ m.2.1∧s.2.2 ≤ m.2.2)
abbrev FoundT (w:World) (b:Nat) (S:List FoundW.V3):Prop:=FoundW.FoundOf Try.prog 86 4 w b S
abbrev RangeT (w:World) (b r:Nat) (S:List FoundW.V3) (L:FoundW.V3 → Bool):Prop:=FoundW.RangeOf Try.prog 86 4 w b r S L
def Stop (p:Prop):Prop:=p
theorem stop_ {p:Prop} (h:Stop p):p:=h
theorem filt_del (S:List FoundW.V3) (L:FoundW.V3 → Bool) (p:FoundW.V3 → Bool) (s:FoundW.V3) (hp:p s=false):(S.filter fun z=>L z || p z).filter (fun z=>!decide (z=s))=S.filter fun z=>(L z && !decide (z=s)) || p z:=by rw [List.filter_filter];congr 1;funext z;by_cases e:z=s;(· subst e;simp [hp]);· simp [e]
theorem filt_keep (S:List FoundW.V3) (L:FoundW.V3 → Bool) (p:FoundW.V3 → Bool) (s:FoundW.V3) (hp:p s=true):(S.filter fun z=>L z || p z)=S.filter fun z=>(L z && !decide (z=s)) || p z:=by congr 1;funext z;by_cases e:z=s;(· subst e;simp [hp]);· simp [e]
theorem below_grown' {a b:World} (g:Nat) (h:Below a.heap.size a b):a.grownBy b (some g):=⟨h.os,h.tape,h.output,h.size,fun i hi _=>h.block i hi⟩
theorem _root_.Go.World.grownBy.trans' {a b c:World} {g:Nat} (h:a.grownBy b (some g)) (k:b.grownBy c (some g)):a.grownBy c (some g) :=
  ⟨k.os.trans h.os,k.tape.trans h.tape,k.output.trans h.output,Nat.le_trans h.size k.size,fun i hi hn=>(k.block i (Nat.lt_of_lt_of_le hi h.size) hn).trans (h.block i hi hn)⟩
theorem heap_set3 (w:World) (g k:Nat) (h:k ≠ g) (x y z:Int):(((w.setCell ⟨g,0,none⟩ (.int .i64 x)).setCell ⟨g,1,none⟩ (.int .i64 y)).setCell ⟨g,2,none⟩ (.int .i64 z)).heap[k]?=w.heap[k]? :=
  (Below.heap_setCell _ _ _ _ h).trans ((Below.heap_setCell _ _ _ _ h).trans (Below.heap_setCell _ _ _ _ h))
theorem size_set3 (w:World) (g:Nat) (x y z:Int):(((w.setCell ⟨g,0,none⟩ (.int .i64 x)).setCell ⟨g,1,none⟩ (.int .i64 y)).setCell ⟨g,2,none⟩ (.int .i64 z)).heap.size=w.heap.size:=by simp [World.setCell]
theorem range_set3 {w w1:World} {b r g:Nat} {S:List FoundW.V3} {L:FoundW.V3 → Bool} (x y z:Int) (h:RangeT w b r S L) (hb:Below w.heap.size w w1) (hg:g=w.heap.size):RangeT (((w1.setCell ⟨g,0,none⟩ (.int .i64 x)).setCell ⟨g,1,none⟩ (.int .i64 y)).setCell ⟨g,2,none⟩ (.int .i64 z)) b r S L :=
  (h.below hb).heap (heap_set3 _ _ _ (by have:=h.lt;omega) _ _ _) (heap_set3 _ _ _ (by have:=h.lt;omega) _ _ _)
theorem found_set3 {w w1:World} {b g:Nat} {S:List FoundW.V3} (x y z:Int) (h:FoundT w b S) (hb:Below w.heap.size w w1) (hg:g=w.heap.size):FoundT (((w1.setCell ⟨g,0,none⟩ (.int .i64 x)).setCell ⟨g,1,none⟩ (.int .i64 y)).setCell ⟨g,2,none⟩ (.int .i64 z)) b S :=
  (h.below hb).heap (heap_set3 _ _ _ (by have:=h.lt;omega) _ _ _)
theorem left_set3 {w w1:World} {b r g:Nat} {S:List FoundW.V3} {L:FoundW.V3 → Bool} (x y z:Int) (h:RangeT w b r S L) (hb:Below w.heap.size w w1) (hg:g=w.heap.size):(((w1.setCell ⟨g,0,none⟩ (.int .i64 x)).setCell ⟨g,1,none⟩ (.int .i64 y)).setCell ⟨g,2,none⟩ (.int .i64 z)).rangeLeft b r=w.rangeLeft b r :=
  FoundW.left_heap ((heap_set3 _ _ _ (by have:=h.lt;omega) _ _ _).trans (hb.block b h.lt.1)) ((heap_set3 _ _ _ (by have:=h.lt;omega) _ _ _).trans (hb.block r h.lt.2))
theorem mem_set3 {w w1:World} {g k:Nat} {o:Obj} (x y z:Int) (h:w.heap[k]?=some o) (hb:Below w.heap.size w w1) (hg:g=w.heap.size):(((w1.setCell ⟨g,0,none⟩ (.int .i64 x)).setCell ⟨g,1,none⟩ (.int .i64 y)).setCell ⟨g,2,none⟩ (.int .i64 z)).heap[k]?=some o :=
  (heap_set3 _ _ _ (by have:=blk_lt h;omega) _ _ _).trans (blk_below h hb)
theorem grown_set3 {w0 w w1:World} {g b:Nat} (x y z:Int) (h:w0.grownBy w (some b)) (hb:Below w.heap.size w w1) (hg:g=w.heap.size):w0.grownBy (((w1.setCell ⟨g,0,none⟩ (.int .i64 x)).setCell ⟨g,1,none⟩ (.int .i64 y)).setCell ⟨g,2,none⟩ (.int .i64 z)) (some b) :=
  ⟨hb.os.trans h.os,hb.tape.trans h.tape,hb.output.trans h.output,by rw [size_set3];exact Nat.le_trans h.size hb.size,fun j hj hn=>(heap_set3 _ _ _ (by have:=h.size;omega) _ _ _).trans ((hb.block j (Nat.lt_of_lt_of_le hj h.size)).trans (h.block j hj hn))⟩
set_option maxHeartbeats 4000000 in
set_option maxRecDepth 100000 in
theorem found_within.calls (b:Nat) (S:List FoundW.V3) (E F G:Int) (w:World) (hS:FoundT w b S) :
    Calls Try.prog 56 #[.map (some b),.agg #[.int .i64 E,.int .i64 F,.int .i64 G]] w fun e w'=>e=.returned (.map (some b))∧FoundT w' b (S.filter (inBox (E,F,G)))∧w.grownBy w' (some b):=by
  have HS:=mk0 hS;have HLT:=mk0 hS.lt;have HOK:=mk0 hS.ok;clear hS;go_enter Try.func56,Try.ntmps56
  go_wp2_with (first
    | ((with_reducible refine gate_dst (N:=3) rfl ?_);refine box_event ?hg (N:=3) ?hd (cs:=#[.int .i64 E,.int .i64 F,.int .i64 G]) (t:=86) ?hr ?_;(case hd=>rfl);(case hg=>rfl);(case hr=>first|(go_simp;done)|(go_simp;rfl));intro gm hg w1 B hb;have BM:=mk0 B;have a7:=mk0 hb;have HG:=mk0 hg;clear hb B hg)
    | ((with_reducible refine gate_dst (N:=7) rfl ?_);refine FoundW.range_found okf _ rfl _ rfl b S rfl (HS.1.below a7.1) ?_;intro r w2 hr hrg b4;have HR:=mk0 hrg;have HRW:=mk0 hr;have a8:=mk0 b4;clear hr hrg b4)
    | go_in)
  go_frame;go_loopw [] (fun wr=>∃ L:FoundW.V3 → Bool,RangeT wr b r (S.filter fun z=>L z || inBox (E,F,G) z) L∧Aside0 (wr.heap[gm]?=some (.cells #[.int .i64 E,.int .i64 F,.int .i64 G] 86 (0,0)))∧Aside0 (w.grownBy wr (some b))∧Aside0 (w.heap.size ≤ gm∧gm < r∧r < wr.heap.size)) (fun wr=>wr.rangeLeft b r);case atStart =>refine ⟨fun s=>decide (s ∈ S),?_,⟨blk_below BM.1 a8.1⟩,⟨?_⟩,⟨?_⟩⟩;(· rw [List.filter_eq_self.2 (fun s hs=>by simp [hs])];exact HR.1);(· exact (below_grown' b a7.1).trans' (below_grown' b a8.1));· have:=HG.1;have:=HR.1.lt;have:=HRW.1;have:=blk_lt BM.1;omega
  case round =>
    clear HS a7 a8 HR BM HG;obtain ⟨L,hR,hM,hG,hX⟩:=hrel;have HR:=mk0 hR;clear hR
    go_wp2_with (first
      | (at_next;refine FoundW.next_found okf _ rfl (.tmp 7) rfl b r _ L rfl HR.1 (fun hall=>stop_ ?_) (fun s c w5 hok hsS hsL b5 b6 a9 b7 hen=>stop_ ?_))
      | go_in)
    · delta Stop
      have HA:=mk0 hall
      clear hall
      go_wp2
      go_ret
      refine ⟨rfl,?_,hG.1⟩
      have h:=HR.1.found
      rwa [List.filter_congr (q:=inBox (E,F,G)) (fun s hs=>by rw [HA.1 s (HOK.1 s hs)];rfl)] at h
    · delta Stop
      obtain ⟨x,y,z⟩:=s
      simp only [FoundW.vec3] at hen
      have I:=mk0 b5
      have a6:=mk0 b6
      have U:=mk0 a9
      have T:=mk0 b7
      have HSL:=mk0 hsL
      have HSS:=mk0 hsS
      have D:=mk0 ((a9.block gm (by have:=hX.1;omega) (fun e=>by have:=hX.1;injection e with e;omega)).trans hM.1)
      clear b5 b6 a9 b7 hsL hsS hok
      have HGW:=mk0 (show w.grownBy w5 (some b) from ⟨U.1.os.trans hG.1.os,U.1.tape.trans hG.1.tape,U.1.output.trans hG.1.output,Nat.le_trans hG.1.size U.1.size,fun j hj hn=>(U.1.block j (Nat.lt_of_lt_of_le hj hG.1.size) (fun e=>by injection e with e;have:=hX.1;omega)).trans (hG.1.block j hj hn)⟩)
      rcases Bool.eq_false_or_eq_true (inBox (E,F,G) (x,y,z)) with hin|hin
      · obtain ⟨i1,i2,i3⟩:=of_decide_eq_true hin
        have d1:decide (E < x)=false:=decide_eq_false (by simp only at i1;omega)
        have d2:decide (F < y)=false:=decide_eq_false (by simp only at i2;omega)
        have d3:decide (G < z)=false:=decide_eq_false (by simp only at i3;omega)
        have HIN:=mk0 hin
        clear i1 i2 i3 hin
        go_wp2_with (((with_reducible refine gate_dst (N:=5) rfl ?_);refine box_event ?hg (N:=5) ?hd (cs:=#[.int .i64 0,.int .i64 0,.int .i64 0]) (t:=86) ?hr ?_;(case hd=>rfl);(case hg=>rfl);(case hr=>first|(go_simp;done)|(go_simp;rfl));intro gv hg C B hb;have HRS:=mk0 (range_set3 x y z I.1 hb hg);have HMS:=mk0 (mem_set3 x y z D.1 hb hg);have HGS:=mk0 (grown_set3 x y z HGW.1 hb hg);have HZS:=mk0 (size_set3 C gv x y z);have HLS:=mk0 (left_set3 x y z I.1 hb hg);have a0:C.cell? ⟨gv,0,none⟩=some (.int .i64 0):=(blk_cell B 0).trans rfl;have a1:C.cell? ⟨gv,1,none⟩=some (.int .i64 0):=(blk_cell B 1).trans rfl;have a2:C.cell? ⟨gv,2,none⟩=some (.int .i64 0):=(blk_cell B 2).trans rfl;have a3:C.frozen? ⟨gv,0,none⟩=false:=blk_frozen B 0;have a4:C.frozen? ⟨gv,1,none⟩=false:=blk_frozen B 1;have a5:C.frozen? ⟨gv,2,none⟩=false:=blk_frozen B 2;have b0:C.cell? ⟨gm,0,none⟩=some (.int .i64 E):=(blk_cell (blk_below D.1 hb) 0).trans rfl;have b1:C.cell? ⟨gm,1,none⟩=some (.int .i64 F):=(blk_cell (blk_below D.1 hb) 1).trans rfl;have b2:C.cell? ⟨gm,2,none⟩=some (.int .i64 G):=(blk_cell (blk_below D.1 hb) 2).trans rfl;have hne:gm ≠ gv:=(by have:=blk_lt D.1;omega);have HSZ:=mk0 hb.size;clear hb B hg))
        have hin:=HIN.1
        go_roundw
        case rel=>exact ⟨_,by rw [← filt_keep S L _ _ hin];exact HRS.1,HMS,HGS,⟨hX.1.1,hX.1.2.1,by rw [HZS.1];have:=hX.1.2.2;have:=HSZ.1;have:=T.1;omega⟩⟩
        case measure=>rw [HLS.1];exact a6.1
      · have h3:E < x ∨ (¬ E < x∧F < y) ∨ (¬ E < x∧¬ F < y∧G < z):=by
          have:=of_decide_eq_false hin;simp only at this;omega
        have HIN:=mk0 hin
        clear hin
        rcases h3 with V|⟨V,h2⟩|⟨V,h2,h3⟩
        · have d1:decide (E < x)=true:=decide_eq_true V
          clear V
          go_wp2_with (first|((with_reducible refine gate_dst (N:=5) rfl ?_);refine box_event ?hg (N:=5) ?hd (cs:=#[.int .i64 0,.int .i64 0,.int .i64 0]) (t:=86) ?hr ?_;(case hd=>rfl);(case hg=>rfl);(case hr=>first|(go_simp;done)|(go_simp;rfl));intro gv hg C B hb;have HRS:=mk0 (range_set3 x y z I.1 hb hg);have HMS:=mk0 (mem_set3 x y z D.1 hb hg);have HGS:=mk0 (grown_set3 x y z HGW.1 hb hg);have HZS:=mk0 (size_set3 C gv x y z);have HLS:=mk0 (left_set3 x y z I.1 hb hg);have a0:C.cell? ⟨gv,0,none⟩=some (.int .i64 0):=(blk_cell B 0).trans rfl;have a1:C.cell? ⟨gv,1,none⟩=some (.int .i64 0):=(blk_cell B 1).trans rfl;have a2:C.cell? ⟨gv,2,none⟩=some (.int .i64 0):=(blk_cell B 2).trans rfl;have a3:C.frozen? ⟨gv,0,none⟩=false:=blk_frozen B 0;have a4:C.frozen? ⟨gv,1,none⟩=false:=blk_frozen B 1;have a5:C.frozen? ⟨gv,2,none⟩=false:=blk_frozen B 2;have b0:C.cell? ⟨gm,0,none⟩=some (.int .i64 E):=(blk_cell (blk_below D.1 hb) 0).trans rfl;have b1:C.cell? ⟨gm,1,none⟩=some (.int .i64 F):=(blk_cell (blk_below D.1 hb) 1).trans rfl;have b2:C.cell? ⟨gm,2,none⟩=some (.int .i64 G):=(blk_cell (blk_below D.1 hb) 2).trans rfl;have hne:gm ≠ gv:=(by have:=blk_lt D.1;omega);have HSZ:=mk0 hb.size;clear hb B hg)|((with_reducible refine gate_builtin (b:=.delete) (xs:=#[.tmp 31,.tmp 32]) rfl ?_);refine FoundW.delete_found okf _ rfl (.tmp 31) (.tmp 32) rfl b r _ _ rfl HRS.1 (x,y,z) rfl HSS.1 (by simp) ?_;intro w8 J M O Q;have X:=mk0 J;have Y:=mk0 M;have R:=mk0 O;have Z:=mk0 Q;clear J M O Q))
          go_frame
          have hin:=HIN.1
          go_roundw
          case rel=>exact ⟨_,by rw [← filt_del S L _ _ hin];exact X.1,⟨(R.1.block gm (by rw [HZS.1];have:=hX.1.2.1;have:=hX.1.2.2;have:=HSZ.1;have:=T.1;omega) (fun e=>by injection e with e;have:=hX.1.1;have:=HLT.1;omega)).trans HMS.1⟩,⟨HGS.1.trans' R.1⟩,⟨hX.1.1,hX.1.2.1,by rw [Z.1,HZS.1];have:=hX.1.2.2;have:=HSZ.1;have:=T.1;omega⟩⟩
          case measure=>exact Nat.lt_of_le_of_lt Y.1 (by rw [HLS.1];exact a6.1)
        · have d1:decide (E < x)=false:=decide_eq_false V
          have d2:decide (F < y)=true:=decide_eq_true h2
          clear V h2
          go_wp2_with (first|((with_reducible refine gate_dst (N:=5) rfl ?_);refine box_event ?hg (N:=5) ?hd (cs:=#[.int .i64 0,.int .i64 0,.int .i64 0]) (t:=86) ?hr ?_;(case hd=>rfl);(case hg=>rfl);(case hr=>first|(go_simp;done)|(go_simp;rfl));intro gv hg C B hb;have HRS:=mk0 (range_set3 x y z I.1 hb hg);have HMS:=mk0 (mem_set3 x y z D.1 hb hg);have HGS:=mk0 (grown_set3 x y z HGW.1 hb hg);have HZS:=mk0 (size_set3 C gv x y z);have HLS:=mk0 (left_set3 x y z I.1 hb hg);have a0:C.cell? ⟨gv,0,none⟩=some (.int .i64 0):=(blk_cell B 0).trans rfl;have a1:C.cell? ⟨gv,1,none⟩=some (.int .i64 0):=(blk_cell B 1).trans rfl;have a2:C.cell? ⟨gv,2,none⟩=some (.int .i64 0):=(blk_cell B 2).trans rfl;have a3:C.frozen? ⟨gv,0,none⟩=false:=blk_frozen B 0;have a4:C.frozen? ⟨gv,1,none⟩=false:=blk_frozen B 1;have a5:C.frozen? ⟨gv,2,none⟩=false:=blk_frozen B 2;have b0:C.cell? ⟨gm,0,none⟩=some (.int .i64 E):=(blk_cell (blk_below D.1 hb) 0).trans rfl;have b1:C.cell? ⟨gm,1,none⟩=some (.int .i64 F):=(blk_cell (blk_below D.1 hb) 1).trans rfl;have b2:C.cell? ⟨gm,2,none⟩=some (.int .i64 G):=(blk_cell (blk_below D.1 hb) 2).trans rfl;have hne:gm ≠ gv:=(by have:=blk_lt D.1;omega);have HSZ:=mk0 hb.size;clear hb B hg)|((with_reducible refine gate_builtin (b:=.delete) (xs:=#[.tmp 31,.tmp 32]) rfl ?_);refine FoundW.delete_found okf _ rfl (.tmp 31) (.tmp 32) rfl b r _ _ rfl HRS.1 (x,y,z) rfl HSS.1 (by simp) ?_;intro w8 J M O Q;have X:=mk0 J;have Y:=mk0 M;have R:=mk0 O;have Z:=mk0 Q;clear J M O Q))
          go_frame
          have hin:=HIN.1
          go_roundw
          case rel=>exact ⟨_,by rw [← filt_del S L _ _ hin];exact X.1,⟨(R.1.block gm (by rw [HZS.1];have:=hX.1.2.1;have:=hX.1.2.2;have:=HSZ.1;have:=T.1;omega) (fun e=>by injection e with e;have:=hX.1.1;have:=HLT.1;omega)).trans HMS.1⟩,⟨HGS.1.trans' R.1⟩,⟨hX.1.1,hX.1.2.1,by rw [Z.1,HZS.1];have:=hX.1.2.2;have:=HSZ.1;have:=T.1;omega⟩⟩
          case measure=>exact Nat.lt_of_le_of_lt Y.1 (by rw [HLS.1];exact a6.1)
        · have d1:decide (E < x)=false:=decide_eq_false V
          have d2:decide (F < y)=false:=decide_eq_false h2
          have d3:decide (G < z)=true:=decide_eq_true h3
          clear V h2 h3
          go_wp2_with (first|((with_reducible refine gate_dst (N:=5) rfl ?_);refine box_event ?hg (N:=5) ?hd (cs:=#[.int .i64 0,.int .i64 0,.int .i64 0]) (t:=86) ?hr ?_;(case hd=>rfl);(case hg=>rfl);(case hr=>first|(go_simp;done)|(go_simp;rfl));intro gv hg C B hb;have HRS:=mk0 (range_set3 x y z I.1 hb hg);have HMS:=mk0 (mem_set3 x y z D.1 hb hg);have HGS:=mk0 (grown_set3 x y z HGW.1 hb hg);have HZS:=mk0 (size_set3 C gv x y z);have HLS:=mk0 (left_set3 x y z I.1 hb hg);have a0:C.cell? ⟨gv,0,none⟩=some (.int .i64 0):=(blk_cell B 0).trans rfl;have a1:C.cell? ⟨gv,1,none⟩=some (.int .i64 0):=(blk_cell B 1).trans rfl;have a2:C.cell? ⟨gv,2,none⟩=some (.int .i64 0):=(blk_cell B 2).trans rfl;have a3:C.frozen? ⟨gv,0,none⟩=false:=blk_frozen B 0;have a4:C.frozen? ⟨gv,1,none⟩=false:=blk_frozen B 1;have a5:C.frozen? ⟨gv,2,none⟩=false:=blk_frozen B 2;have b0:C.cell? ⟨gm,0,none⟩=some (.int .i64 E):=(blk_cell (blk_below D.1 hb) 0).trans rfl;have b1:C.cell? ⟨gm,1,none⟩=some (.int .i64 F):=(blk_cell (blk_below D.1 hb) 1).trans rfl;have b2:C.cell? ⟨gm,2,none⟩=some (.int .i64 G):=(blk_cell (blk_below D.1 hb) 2).trans rfl;have hne:gm ≠ gv:=(by have:=blk_lt D.1;omega);have HSZ:=mk0 hb.size;clear hb B hg)|((with_reducible refine gate_builtin (b:=.delete) (xs:=#[.tmp 31,.tmp 32]) rfl ?_);refine FoundW.delete_found okf _ rfl (.tmp 31) (.tmp 32) rfl b r _ _ rfl HRS.1 (x,y,z) rfl HSS.1 (by simp) ?_;intro w8 J M O Q;have X:=mk0 J;have Y:=mk0 M;have R:=mk0 O;have Z:=mk0 Q;clear J M O Q))
          go_frame
          have hin:=HIN.1
          go_roundw
          case rel=>exact ⟨_,by rw [← filt_del S L _ _ hin];exact X.1,⟨(R.1.block gm (by rw [HZS.1];have:=hX.1.2.1;have:=hX.1.2.2;have:=HSZ.1;have:=T.1;omega) (fun e=>by injection e with e;have:=hX.1.1;have:=HLT.1;omega)).trans HMS.1⟩,⟨HGS.1.trans' R.1⟩,⟨hX.1.1,hX.1.2.1,by rw [Z.1,HZS.1];have:=hX.1.2.2;have:=HSZ.1;have:=T.1;omega⟩⟩
          case measure=>exact Nat.lt_of_le_of_lt Y.1 (by rw [HLS.1];exact a6.1)
end Go.Proofs.Ytkonljiembcdlaa.PC
