import Derived.Test.YtkonljiembcdlaaPCx0
namespace Go.Proofs.Ytkonljiembcdlaa.PC
open Go.Proofs.MyWords Go.RowKit Go.Proofs.YtkonljiembcdlaaW.PrintWords Go.Proofs.YtkonljiembcdlaaW.PrintLast Go.Proofs.YtkonljiembcdlaaW.PrintMore
attribute [local go_sem] max2_int min2_int max_two min_two max_three min_three max_four min_four   -- for this text's walks alone
set_option linter.unusedVariables false
set_option linter.unusedSimpArgs false
attribute [local go_sem] eqGuard_slices eqlnil23 neqnil23 eqlnil58 neqnil58
def Tells (g:Nat) (lb:Array Value) (p:Int → Bool) (w:World):Prop :=
  ∀ (W:World) (x:Int),Below w.heap.size w W → Calls Try.prog g (#[.int .i64 x] ++ lb) W fun e w'=>e=.returned (.bool (p x))∧Below W.heap.size W w'
def idxF (p:Int → Bool) (l:List Int):Int:=match l.findIdx? p with|some i=>(i:Int)|none=>-1
theorem idxF_some (p:Int → Bool) (l:List Int) (k:Nat) (hk:k < l.length) (h:p (rd l (k:Int))=true) (hb:∀ j,j < k → p (rd l (j:Int))=false):idxF p l=(k:Int):=by
  have:l.findIdx? p=some k:=by
    rw [List.findIdx?_eq_some_iff_getElem]
    refine ⟨hk,?_,fun j hj=>?_⟩
    · simpa [rd,List.getD_eq_getElem?_getD,List.getElem?_eq_getElem hk] using h
    · have hjl:j < l.length:=by omega
      have:=hb j hj
      simpa [rd,List.getD_eq_getElem?_getD,List.getElem?_eq_getElem hjl] using this
  simp [idxF,this]
theorem idxF_none (p:Int → Bool) (l:List Int) (hb:∀ j,j < l.length → p (rd l (j:Int))=false):idxF p l=-1:=by
  have:l.findIdx? p=none:=by
    rw [List.findIdx?_eq_none_iff]
    intro x hx
    obtain ⟨j,hj,rfl⟩:=List.getElem_of_mem hx
    have:=hb j hj
    simpa [rd,List.getD_eq_getElem?_getD,List.getElem?_eq_getElem hj] using this
  simp [idxF,this]
theorem idxF_some' (p:Int → Bool) (l:List Int) (i:Int) (h0:0 ≤ i) (h1:i < (l.length:Int)) (h:p (rd l i)=true) (hb:∀ j,j < i.toNat → p (rd l (j:Int))=false):idxF p l=i:=by
  obtain ⟨k,rfl⟩:=Int.eq_ofNat_of_zero_le h0
  exact idxF_some p l k (by omega) h (by simpa using hb)
theorem idxF_any (p:Int → Bool) (l:List Int):l.any p=decide (0 ≤ idxF p l):=by
  unfold idxF
  rcases h:l.findIdx? p with _|i
  · rw [List.findIdx?_eq_none_iff] at h
    rw [show l.any p=false from by rw [List.any_eq_false];exact fun x hx=>by simpa using h x hx]
    rfl
  · rw [List.findIdx?_eq_some_iff_getElem] at h
    obtain ⟨hi,hp,_⟩:=h
    rw [show l.any p=true from List.any_eq_true.mpr ⟨_,List.getElem_mem hi,hp⟩]
    simp
def Sofar (p:Int → Bool) (l:List Int) (k:Nat):Prop:=∀ j,j < k → p (rd l (j:Int))=false
theorem Sofar.zero (p:Int → Bool) (l:List Int):Sofar p l 0:=fun j hj=>absurd hj (by omega)
theorem Sofar.succ {p:Int → Bool} {l:List Int} {k:Nat} (h:Sofar p l k) (hk:p (rd l (k:Int))=false):Sofar p l (k + 1):=fun j hj=>by
  by_cases e:j=k
  · subst e;exact hk
  · exact h j (by omega)
set_option maxHeartbeats 1000000 in
set_option maxRecDepth 100000 in
theorem IndexFunc_int.calls (g:Nat) (lb:Array Value) (p:Int → Bool) (A0:Option Addr) (c0:Nat) (l0:List Int) (w:World) (hr0:Kd.C (Kd.int .i64) w A0 l0.length l0) (hc0:l0.length ≤ c0)
    (eg:∀ args w,(callFunc g args).run Try.prog w=.ok (.enter g args) w) (hp:Tells g lb p w) :
    Calls Try.prog 99 #[.slice A0 l0.length c0,.func (.func g) #[] lb] w fun e w'=>e=.returned (.int .i64 (idxF p l0))∧Below w.heap.size w w':=by
  have HR0:=Aside0.mk hr0
  have hlen:l0.length ≤ 9223372036854775807:=hr0.2.1
  clear hr0 hc0
  have HP:=Aside0.mk hp
  clear hp
  go_enter Try.func99,Try.ntmps99
  go_wp2
  go_loopw [8] (fun v8 w'=>∃ i:Int,v8=.int .i64 i∧Aside0 (0 ≤ i∧i ≤ l0.length)∧Aside0 (Sofar p l0 i.toNat)∧Aside0 (Below w.heap.size w w')) (fun v8 _=>l0.length - (intOf v8).toNat)
  case atStart=>exact ⟨0,rfl,⟨by omega,by omega⟩,⟨Sofar.zero _ _⟩,⟨Below.refl _ _⟩⟩
  case round =>
    obtain ⟨i,rfl,HI,HS,HB⟩:=hrel
    by_cases hlt:i < (l0.length:Int)
    · have p1:0 ≤ i:=HI.out.1
      obtain ⟨ad,e,hx⟩:=Kd.at_int HR0.out i p1 hlt
      cases e
      replace hx:=(HB.out.cell (World.block_lt_of_cell? w _ hx)).trans hx
      have hd:decide (i < (l0.length:Int))=true:=decide_eq_true hlt
      replace p1:=eq_true p1
      replace hlt:=eq_true hlt
      have hw:wrap64 (i + 1)=i + 1:=by have:=HI.out;have h:=of_eq_true hlt;unfold wrap64;omega
      have HW:=Aside0.mk hw
      clear hw
      by_cases hb:p (rd l0 i)=true
      · have HF:=Aside0.mk (idxF_some' p l0 i (of_eq_true p1) (of_eq_true hlt) hb HS.out)
        have HT:=Aside0.mk hb
        clear hb
        go_wp2_with (fail)
        refine (HP.out _ _ HB.out).mono ?_
        rintro e w1 ⟨rfl,hb1⟩
        rw [HT.out]
        have HB1:=Aside0.mk hb1
        clear hb1
        go_wp2
        go_ret
        exact ⟨by first|(rw [HF.out];done)|(rw [HF.out];rfl),HB.out.trans (HB1.out.mono HB.out.size)⟩
      · have HT:=Aside0.mk (Bool.eq_false_iff.mpr hb)
        clear hb
        go_wp2_with (fail)
        refine (HP.out _ _ HB.out).mono ?_
        rintro e w1 ⟨rfl,hb1⟩
        rw [HT.out]
        have HB1:=Aside0.mk hb1
        clear hb1
        go_wp2
        go_roundw
        case rel=>exact ⟨_,rfl,⟨by rw [HW.out];have:=HI.out;have:=of_eq_true hlt;omega⟩,⟨by rw [HW.out];have:=HI.out;rw [show (i + 1).toNat=i.toNat + 1 by omega];exact HS.out.succ (by rw [Int.toNat_of_nonneg this.1];exact HT.out)⟩,⟨HB.out.trans (HB1.out.mono HB.out.size)⟩⟩
        case measure=>simp only [intOf];have:=HW.out;have:=HI.out;have:=of_eq_true hlt;omega
    · have hd:decide (i < (l0.length:Int))=false:=decide_eq_false hlt
      have HF:=Aside0.mk (idxF_none p l0 (fun j hj=>HS.out j (by have:=HI.out;omega)))
      clear hlt
      go_wp2
      go_ret
      exact ⟨by first|(rw [HF.out];done)|(rw [HF.out];rfl),HB.out⟩
set_option maxHeartbeats 1000000 in
set_option maxRecDepth 100000 in
theorem ContainsFunc_int.calls (g:Nat) (lb:Array Value) (p:Int → Bool) (A0:Option Addr) (c0:Nat) (l0:List Int) (w:World) (hr0:Kd.C (Kd.int .i64) w A0 l0.length l0) (hc0:l0.length ≤ c0)
    (eg:∀ args w,(callFunc g args).run Try.prog w=.ok (.enter g args) w) (hp:Tells g lb p w) :
    Calls Try.prog 86 #[.slice A0 l0.length c0,.func (.func g) #[] lb] w fun e w'=>e=.returned (.bool (l0.any p))∧Below w.heap.size w w':=by
  have HC:=fun W hr hb=>IndexFunc_int.calls g lb p A0 c0 l0 W hr hc0 eg hb
  have HC1:=Aside0.mk (HC w hr0 hp)
  clear HC eg hp hr0 hc0
  have HA:=Aside0.mk (idxF_any p l0)
  go_enter Try.func86,Try.ntmps86
  go_wp2_with (go_at_call 99;refine HC1.out.mono ?_;rintro e w1 ⟨rfl,hb1⟩;have HB1:=Aside0.mk hb1;clear hb1)
  go_ret
  exact ⟨by first|(rw [HA.out];done)|(rw [HA.out];rfl),HB1.out⟩
-- NOT PRINTED: function 87 (count_outside_1)
def count_outside.f (l0:List Int) (a1:Int):Option (Bool):=some (l0.any (fun x=>decide (x < 0) || decide (a1 < x)))
theorem count_outside.tells (a1:Int) (B:Nat) (w:World) (hB:B < w.heap.size) (hcell:w.cell? ⟨B,0,none⟩=some (.int .i64 a1)) :
    Tells 87 #[.pointer (some ⟨B,0,none⟩)] (fun x=>decide (x < 0) || decide (a1 < x)) w:=fun W x hb=>by
  have hc:W.cell? ⟨B,0,none⟩=some (.int .i64 a1):=(hb.cell (p:=⟨B,0,none⟩) hB).trans hcell
  clear hcell hb
  show Calls Try.prog 87 #[.int .i64 x,.pointer (some ⟨B,0,none⟩)] W (fun e w'=>e=.returned (.bool (decide (x < 0) || decide (a1 < x)))∧Below W.heap.size W w')
  by_cases h1:x < 0
  · have hd:decide (x < 0)=true:=decide_eq_true h1
    rw [hd]
    go_enter Try.func87,Try.ntmps87
    go_wp2
    go_ret
    exact ⟨by simp,Below.refl _ _⟩
  · have hd:decide (x < 0)=false:=decide_eq_false h1
    rw [hd]
    go_enter Try.func87,Try.ntmps87
    go_wp2
    go_ret
    exact ⟨by simp,Below.refl _ _⟩
set_option maxHeartbeats 1000000 in
set_option maxRecDepth 100000 in
theorem count_outside.calls (A0:Option Addr) (c0:Nat) (l0:List Int) (a1:Int) (r:Bool) (w:World) (hr0:Kd.C (Kd.int .i64) w A0 l0.length l0) (hc0:l0.length ≤ c0) (h:count_outside.f l0 a1=some r) :
    Calls Try.prog 52 #[.slice A0 l0.length c0,.int .i64 a1] w fun e w'=>e=.returned (.bool r)∧Below w.heap.size w w':=by
  have hr:=Aside0.mk (Option.some.inj h)
  have eg:∀ args w,(callFunc 87 args).run Try.prog w=.ok (.enter 87 args) w:=enters_of Try.func87 (by kernel_rfl) rfl
  have HC:=Aside0.mk (ContainsFunc_int.calls 87 #[.pointer (some ⟨w.heap.size,0,none⟩)] (fun x=>decide (x < 0) || decide (a1 < x)) A0 c0 l0 (w.alloc (.cells #[.int .i64 a1] 3)) (Kd.C_alloc hr0 _) hc0 eg (count_outside.tells a1 w.heap.size _ (by simp) (by simp)))
  clear eg hr0 h
  go_enter Try.func52,Try.ntmps52
  go_wp2_with (go_at_call 86;(with_reducible refine HC.out.mono ?_);rintro e w1 ⟨rfl,hb1⟩;rw [hr.out];have HB1:=Aside0.mk hb1;clear hb1)
  go_ret
  exact ⟨rfl,((Below.refl _ _).alloc (Nat.le_refl _) _).trans (HB1.out.mono (by simp))⟩
mutual
def count_check.j0:Nat → Int → List (List (S60)) → Bool → Bool → Bool → Option (Int)
  | 0,_,_,_,_,_=>none
  | k + 1,x0,x1,x5,x6,x7=>count_check.l0 k x0 x5 x6 x7 x1 (x1.length:Int) 0
def count_check.l0:Nat → Int → Bool → Bool → Bool → List (List (S60)) → Int → Int → Option (Int)
  | 0,_,_,_,_,_,_,_=>none
  | k + 1,x0,x5,x6,x7,x20,x21,x22=>if x22 < x21 then (if 0 ≤ x22 then (if x22 < (x20.length:Int) then (if x5=true then (count_check.j2 k x0 true x6 x7 (rd_L4 x20 x22) x20 x21 x22) else (count_check.j2 k x0 (decide (((rd_L4 x20 x22).length:Int) > 8)) x6 x7 (rd_L4 x20 x22) x20 x21 x22)) else (none)) else (none)) else (if x5=true then (some 3) else (if x6=true then (some 1) else (if x7=true then (some 2) else (some 0))))
def count_check.j2:Nat → Int → Bool → Bool → Bool → List (S60) → List (List (S60)) → Int → Int → Option (Int)
  | 0,_,_,_,_,_,_,_,_=>none
  | k + 1,x0,x5,x6,x7,x9,x20,x21,x22=>count_check.l1 k x0 x5 x6 x7 x20 x21 x22 x9 (x9.length:Int) 0
def count_check.l1:Nat → Int → Bool → Bool → Bool → List (List (S60)) → Int → Int → List (S60) → Int → Int → Option (Int)
  | 0,_,_,_,_,_,_,_,_,_,_=>none
  | k + 1,x0,x5,x6,x7,x20,x21,x22,x32,x33,x34=>if x34 < x33 then (if 0 ≤ x34 then (if x34 < (x32.length:Int) then (if x5=true then (count_check.j4 k x0 true x6 x7 x20 x21 x22 x32 x33 x34 ((rd_T60 x32 x34).f0) ((rd_T60 x32 x34).f1)) else (count_check.j4 k x0 (decide ((((rd_T60 x32 x34).f1).length:Int) > 4)) x6 x7 x20 x21 x22 x32 x33 x34 ((rd_T60 x32 x34).f0) ((rd_T60 x32 x34).f1))) else (none)) else (none)) else (count_check.l0 k x0 x5 x6 x7 x20 x21 (wrap64 (x22 + 1)))
def count_check.j4:Nat → Int → Bool → Bool → Bool → List (List (S60)) → Int → Int → List (S60) → Int → Int → List Int → List (List Int) → Option (Int)
  | 0,_,_,_,_,_,_,_,_,_,_,_,_=>none
  | k + 1,x0,x5,x6,x7,x20,x21,x22,x32,x33,x34,x104000,x104001=>if x6=true then (count_check.j5 k x0 x5 true x7 x20 x21 x22 x32 x33 x34 x104000 x104001) else ((count_outside.f x104000 20).bind fun t104=>(count_check.j5 k x0 x5 t104 x7 x20 x21 x22 x32 x33 x34 x104000 x104001))
def count_check.j5:Nat → Int → Bool → Bool → Bool → List (List (S60)) → Int → Int → List (S60) → Int → Int → List Int → List (List Int) → Option (Int)
  | 0,_,_,_,_,_,_,_,_,_,_,_,_=>none
  | k + 1,x0,x5,x6,x7,x20,x21,x22,x32,x33,x34,x104000,x104001=>if x7=true then (count_check.j6 k x0 x5 x6 true x20 x21 x22 x32 x33 x34 x104000 x104001) else (count_check.j6 k x0 x5 x6 ((x104000.length:Int) != x0) x20 x21 x22 x32 x33 x34 x104000 x104001)
def count_check.j6:Nat → Int → Bool → Bool → Bool → List (List (S60)) → Int → Int → List (S60) → Int → Int → List Int → List (List Int) → Option (Int)
  | 0,_,_,_,_,_,_,_,_,_,_,_,_=>none
  | k + 1,x0,x5,x6,x7,x20,x21,x22,x32,x33,x34,x104000,x104001=>count_check.l2 k x0 x5 x6 x7 x20 x21 x22 x32 x33 x34 x104001 (x104001.length:Int) 0
def count_check.l2:Nat → Int → Bool → Bool → Bool → List (List (S60)) → Int → Int → List (S60) → Int → Int → List (List Int) → Int → Int → Option (Int)
  | 0,_,_,_,_,_,_,_,_,_,_,_,_,_=>none
  | k + 1,x0,x5,x6,x7,x20,x21,x22,x32,x33,x34,x60,x61,x62=>if x62 < x61 then (if 0 ≤ x62 then (if x62 < (x60.length:Int) then (if x6=true then (if x7=true then (count_check.l2 k x0 x5 true true x20 x21 x22 x32 x33 x34 x60 x61 (wrap64 (x62 + 1))) else (count_check.l2 k x0 x5 true (((rd_L1 x60 x62).length:Int) != x0) x20 x21 x22 x32 x33 x34 x60 x61 (wrap64 (x62 + 1)))) else ((count_outside.f (rd_L1 x60 x62) 20).bind fun t106=>(if x7=true then (count_check.l2 k x0 x5 t106 true x20 x21 x22 x32 x33 x34 x60 x61 (wrap64 (x62 + 1))) else (count_check.l2 k x0 x5 t106 (((rd_L1 x60 x62).length:Int) != x0) x20 x21 x22 x32 x33 x34 x60 x61 (wrap64 (x62 + 1)))))) else (none)) else (none)) else (count_check.l1 k x0 x5 x6 x7 x20 x21 x22 x32 x33 (wrap64 (x34 + 1)))
end
def count_check.f (k:Nat) (a0:Int) (l1:List (List (S60))):Option (Int):=if a0 < 1 then (count_check.j0 k a0 l1 false true false) else (count_check.j0 k a0 l1 false (decide (a0 > 3)) false)
theorem count_check.mono_l:∀ k,(∀ y0 y1 y2 y3 y4,LeO (count_check.j0 k y0 y1 y2 y3 y4) (count_check.j0 (k + 1) y0 y1 y2 y3 y4))∧(∀ y0 y1 y2 y3 y4 y5 y6,LeO (count_check.l0 k y0 y1 y2 y3 y4 y5 y6) (count_check.l0 (k + 1) y0 y1 y2 y3 y4 y5 y6))∧(∀ y0 y1 y2 y3 y4 y5 y6 y7,LeO (count_check.j2 k y0 y1 y2 y3 y4 y5 y6 y7) (count_check.j2 (k + 1) y0 y1 y2 y3 y4 y5 y6 y7))∧(∀ y0 y1 y2 y3 y4 y5 y6 y7 y8 y9,LeO (count_check.l1 k y0 y1 y2 y3 y4 y5 y6 y7 y8 y9) (count_check.l1 (k + 1) y0 y1 y2 y3 y4 y5 y6 y7 y8 y9))∧(∀ y0 y1 y2 y3 y4 y5 y6 y7 y8 y9 y10 y11,LeO (count_check.j4 k y0 y1 y2 y3 y4 y5 y6 y7 y8 y9 y10 y11) (count_check.j4 (k + 1) y0 y1 y2 y3 y4 y5 y6 y7 y8 y9 y10 y11))∧(∀ y0 y1 y2 y3 y4 y5 y6 y7 y8 y9 y10 y11,LeO (count_check.j5 k y0 y1 y2 y3 y4 y5 y6 y7 y8 y9 y10 y11) (count_check.j5 (k + 1) y0 y1 y2 y3 y4 y5 y6 y7 y8 y9 y10 y11))∧(∀ y0 y1 y2 y3 y4 y5 y6 y7 y8 y9 y10 y11,LeO (count_check.j6 k y0 y1 y2 y3 y4 y5 y6 y7 y8 y9 y10 y11) (count_check.j6 (k + 1) y0 y1 y2 y3 y4 y5 y6 y7 y8 y9 y10 y11))∧(∀ y0 y1 y2 y3 y4 y5 y6 y7 y8 y9 y10 y11 y12,LeO (count_check.l2 k y0 y1 y2 y3 y4 y5 y6 y7 y8 y9 y10 y11 y12) (count_check.l2 (k + 1) y0 y1 y2 y3 y4 y5 y6 y7 y8 y9 y10 y11 y12))
  | 0=>⟨fun _ _ _ _ _ r h=>by simp [count_check.j0] at h,fun _ _ _ _ _ _ _ r h=>by simp [count_check.l0] at h,fun _ _ _ _ _ _ _ _ r h=>by simp [count_check.j2] at h,fun _ _ _ _ _ _ _ _ _ _ r h=>by simp [count_check.l1] at h,fun _ _ _ _ _ _ _ _ _ _ _ _ r h=>by simp [count_check.j4] at h,fun _ _ _ _ _ _ _ _ _ _ _ _ r h=>by simp [count_check.j5] at h,fun _ _ _ _ _ _ _ _ _ _ _ _ r h=>by simp [count_check.j6] at h,fun _ _ _ _ _ _ _ _ _ _ _ _ _ r h=>by simp [count_check.l2] at h⟩
  | k + 1=>by
    obtain ⟨ih0,ih1,ih2,ih3,ih4,ih5,ih6,ih7⟩:=count_check.mono_l k
    refine ⟨?_,?_,?_,?_,?_,?_,?_,?_⟩
    · intro y0 y1 y2 y3 y4
      unfold count_check.j0
      with_reducible repeat' first|exact ih0 _ _ _ _ _|exact ih1 _ _ _ _ _ _ _|exact ih2 _ _ _ _ _ _ _ _|exact ih3 _ _ _ _ _ _ _ _ _ _|exact ih4 _ _ _ _ _ _ _ _ _ _ _ _|exact ih5 _ _ _ _ _ _ _ _ _ _ _ _|exact ih6 _ _ _ _ _ _ _ _ _ _ _ _|exact ih7 _ _ _ _ _ _ _ _ _ _ _ _ _|exact LeO.refl _|exact LeO.none _|refine LeO.ite ?_ ?_|refine LeO.bind ?_ (fun _=>?_)
    · intro y0 y1 y2 y3 y4 y5 y6
      unfold count_check.l0
      with_reducible repeat' first|exact ih0 _ _ _ _ _|exact ih1 _ _ _ _ _ _ _|exact ih2 _ _ _ _ _ _ _ _|exact ih3 _ _ _ _ _ _ _ _ _ _|exact ih4 _ _ _ _ _ _ _ _ _ _ _ _|exact ih5 _ _ _ _ _ _ _ _ _ _ _ _|exact ih6 _ _ _ _ _ _ _ _ _ _ _ _|exact ih7 _ _ _ _ _ _ _ _ _ _ _ _ _|exact LeO.refl _|exact LeO.none _|refine LeO.ite ?_ ?_|refine LeO.bind ?_ (fun _=>?_)
    · intro y0 y1 y2 y3 y4 y5 y6 y7
      unfold count_check.j2
      with_reducible repeat' first|exact ih0 _ _ _ _ _|exact ih1 _ _ _ _ _ _ _|exact ih2 _ _ _ _ _ _ _ _|exact ih3 _ _ _ _ _ _ _ _ _ _|exact ih4 _ _ _ _ _ _ _ _ _ _ _ _|exact ih5 _ _ _ _ _ _ _ _ _ _ _ _|exact ih6 _ _ _ _ _ _ _ _ _ _ _ _|exact ih7 _ _ _ _ _ _ _ _ _ _ _ _ _|exact LeO.refl _|exact LeO.none _|refine LeO.ite ?_ ?_|refine LeO.bind ?_ (fun _=>?_)
    · intro y0 y1 y2 y3 y4 y5 y6 y7 y8 y9
      unfold count_check.l1
      with_reducible repeat' first|exact ih0 _ _ _ _ _|exact ih1 _ _ _ _ _ _ _|exact ih2 _ _ _ _ _ _ _ _|exact ih3 _ _ _ _ _ _ _ _ _ _|exact ih4 _ _ _ _ _ _ _ _ _ _ _ _|exact ih5 _ _ _ _ _ _ _ _ _ _ _ _|exact ih6 _ _ _ _ _ _ _ _ _ _ _ _|exact ih7 _ _ _ _ _ _ _ _ _ _ _ _ _|exact LeO.refl _|exact LeO.none _|refine LeO.ite ?_ ?_|refine LeO.bind ?_ (fun _=>?_)
    · intro y0 y1 y2 y3 y4 y5 y6 y7 y8 y9 y10 y11
      unfold count_check.j4
      with_reducible repeat' first|exact ih0 _ _ _ _ _|exact ih1 _ _ _ _ _ _ _|exact ih2 _ _ _ _ _ _ _ _|exact ih3 _ _ _ _ _ _ _ _ _ _|exact ih4 _ _ _ _ _ _ _ _ _ _ _ _|exact ih5 _ _ _ _ _ _ _ _ _ _ _ _|exact ih6 _ _ _ _ _ _ _ _ _ _ _ _|exact ih7 _ _ _ _ _ _ _ _ _ _ _ _ _|exact LeO.refl _|exact LeO.none _|refine LeO.ite ?_ ?_|refine LeO.bind ?_ (fun _=>?_)
    · intro y0 y1 y2 y3 y4 y5 y6 y7 y8 y9 y10 y11
      unfold count_check.j5
      with_reducible repeat' first|exact ih0 _ _ _ _ _|exact ih1 _ _ _ _ _ _ _|exact ih2 _ _ _ _ _ _ _ _|exact ih3 _ _ _ _ _ _ _ _ _ _|exact ih4 _ _ _ _ _ _ _ _ _ _ _ _|exact ih5 _ _ _ _ _ _ _ _ _ _ _ _|exact ih6 _ _ _ _ _ _ _ _ _ _ _ _|exact ih7 _ _ _ _ _ _ _ _ _ _ _ _ _|exact LeO.refl _|exact LeO.none _|refine LeO.ite ?_ ?_|refine LeO.bind ?_ (fun _=>?_)
    · intro y0 y1 y2 y3 y4 y5 y6 y7 y8 y9 y10 y11
      unfold count_check.j6
      with_reducible repeat' first|exact ih0 _ _ _ _ _|exact ih1 _ _ _ _ _ _ _|exact ih2 _ _ _ _ _ _ _ _|exact ih3 _ _ _ _ _ _ _ _ _ _|exact ih4 _ _ _ _ _ _ _ _ _ _ _ _|exact ih5 _ _ _ _ _ _ _ _ _ _ _ _|exact ih6 _ _ _ _ _ _ _ _ _ _ _ _|exact ih7 _ _ _ _ _ _ _ _ _ _ _ _ _|exact LeO.refl _|exact LeO.none _|refine LeO.ite ?_ ?_|refine LeO.bind ?_ (fun _=>?_)
    · intro y0 y1 y2 y3 y4 y5 y6 y7 y8 y9 y10 y11 y12
      unfold count_check.l2
      with_reducible repeat' first|exact ih0 _ _ _ _ _|exact ih1 _ _ _ _ _ _ _|exact ih2 _ _ _ _ _ _ _ _|exact ih3 _ _ _ _ _ _ _ _ _ _|exact ih4 _ _ _ _ _ _ _ _ _ _ _ _|exact ih5 _ _ _ _ _ _ _ _ _ _ _ _|exact ih6 _ _ _ _ _ _ _ _ _ _ _ _|exact ih7 _ _ _ _ _ _ _ _ _ _ _ _ _|exact LeO.refl _|exact LeO.none _|refine LeO.ite ?_ ?_|refine LeO.bind ?_ (fun _=>?_)
theorem count_check.mono:∀ a0 a1 k,LeO (count_check.f k a0 a1) (count_check.f (k + 1) a0 a1):=by
  intro a0 a1 k
  obtain ⟨ih0,ih1,ih2,ih3,ih4,ih5,ih6,ih7⟩:=count_check.mono_l k
  unfold count_check.f
  with_reducible repeat' first|exact ih0 _ _ _ _ _|exact ih1 _ _ _ _ _ _ _|exact ih2 _ _ _ _ _ _ _ _|exact ih3 _ _ _ _ _ _ _ _ _ _|exact ih4 _ _ _ _ _ _ _ _ _ _ _ _|exact ih5 _ _ _ _ _ _ _ _ _ _ _ _|exact ih6 _ _ _ _ _ _ _ _ _ _ _ _|exact ih7 _ _ _ _ _ _ _ _ _ _ _ _ _|exact LeO.refl _|exact LeO.none _|refine LeO.ite ?_ ?_|refine LeO.bind ?_ (fun _=>?_)
set_option maxHeartbeats 8000000 in
set_option maxRecDepth 100000 in
theorem count_check.calls (k:Nat) (a0:Int) (A1:Option Addr) (c1:Nat) (l1:List (List (S60))) (r:Int) (w:World) (hr1:Kd.C (Kd.slice 60 k60) w A1 l1.length l1) (hc1:l1.length ≤ c1) (h:count_check.f k a0 l1=some r) :
    Calls Try.prog 51 #[.int .i64 a0,.slice A1 l1.length c1] w fun e w'=>e=.returned (.int .i64 r)∧Below w.heap.size w w':=by
 have hu60:=Try.underlying60;have HR1:=mk0 hr1;have HC1:=mk0 hc1;clear hr1 hc1;have HB:=mk0 (Below.refl w.heap.size w);have H:(if a0 < 1 then (count_check.j0 k a0 l1 false true false) else (count_check.j0 k a0 l1 false (decide (a0 > 3)) false))=some r:=h;clear h;have HC3:=mk0 H;clear H;go_enter Try.func51,Try.ntmps51;go_upto_region 1 with (fail)
 go_cut [5,6,7] (fun v5 v6 v7 wc=>∃ (kq:Nat) (x5_2:Bool) (x6_2:Bool) (x7_2:Bool),v5=.bool x5_2∧v6=.bool x6_2∧v7=.bool x7_2∧Aside0 (count_check.j0 kq a0 l1 x5_2 x6_2 x7_2=some r)∧Aside0 (kq ≤ k)∧Aside0 (Below w.heap.size w wc))
 case first =>
  have H:=HC3.out;clear HC3
  by_cases c4:a0 < 1
  ·
   rw [if_pos c4] at H;have c4b0:decide (a0 < 1)=true:=decide_eq_true c4;clear c4;(first|rw [c4b0]|(simp only [i64_w,i32_w];rw [c4b0])|skip);have H':=mk0 H;clear H;go_wp2;go_meet
   case rel=>exact ⟨_,(false),(true),(false),(by first|rfl|(simp;done)|(simp [*];done)),(by first|rfl|(simp;done)|(simp [*];done)),(by first|rfl|(simp;done)|(simp [*];done)),H',⟨by first|omega|exact Nat.le_refl _⟩,⟨by repeat (first|(with_reducible first|exact HB.out|apply below_alloc|apply pw_below_drewN|apply below_drew1)|exact HB.out)⟩⟩
  ·
   rw [if_neg c4] at H;have c4b0:decide (a0 < 1)=false:=decide_eq_false c4;clear c4;(first|rw [c4b0]|(simp only [i64_w,i32_w];rw [c4b0])|skip);have H':=mk0 H;clear H;go_wp2;go_meet
   case rel=>exact ⟨_,(false),(decide (a0 > 3)),(false),(by first|rfl|(simp;done)|(simp [*];done)),(by first|rfl|(simp;done)|(simp [*];done)),(by first|rfl|(simp;done)|(simp [*];done)),H',⟨by first|omega|exact Nat.le_refl _⟩,⟨by repeat (first|(with_reducible first|exact HB.out|apply below_alloc|apply pw_below_drewN|apply below_drew1)|exact HB.out)⟩⟩
 case rest =>
  clear HC3;try clear c1
  try clear p2
  try clear c4
  try clear c4b0
  obtain ⟨kq,x5_2,x6_2,x7_2,rfl,rfl,rfl,HA,HJ2,HB⟩:=hcut;cases kq with
  | zero=>exact absurd HA.out (by simp [count_check.j0])
  | succ kj2 =>
   have H:=HA.out;clear HA;simp only [count_check.j0] at H;have H':=mk0 H;clear H;go_wp2
   go_loopg [5,6,7,22] kj2 (fun kq v5 v6 v7 v22 w'=>∃ (x5_2:Bool) (x6_2:Bool) (x7_2:Bool) (x22_2:Int),v5=.bool x5_2∧v6=.bool x6_2∧v7=.bool x7_2∧v22=.int .i64 x22_2∧Aside0 (count_check.l0 kq a0 x5_2 x6_2 x7_2 l1 (l1.length:Int) x22_2=some r)∧Aside0 (kq ≤ kj2)∧Aside0 (Below w.heap.size w w'))
   case atStart=>exact ⟨(x5_2),(x6_2),(x7_2),(0),(by first|rfl|(simp;done)|(simp [*];done)),(by first|rfl|(simp;done)|(simp [*];done)),(by first|rfl|(simp;done)|(simp [*];done)),(by first|rfl|(simp;done)|(simp [*];done)),H',⟨Nat.le_refl _⟩,⟨by repeat (first|(with_reducible first|exact HB.out|apply below_alloc|apply pw_below_drewN|apply below_drew1)|exact HB.out)⟩⟩
   case round =>
    clear H';try clear c1
    try clear p2
    try clear c4
    try clear c4b0
    try clear p2
    obtain ⟨x5_2,x6_2,x7_2,x22_2,rfl,rfl,rfl,rfl,HA,HK2,HB⟩:=hrel;cases gk with
    | zero=>exact absurd HA.out (by simp [count_check.l0])
    | succ k2 =>
     have H:=HA.out;clear HA;simp only [count_check.l0] at H
     by_cases c5:x22_2 < (l1.length:Int)
     ·
      rw [if_pos c5] at H;have c5b0:decide (x22_2 < (l1.length:Int))=true:=decide_eq_true c5;clear c5
      by_cases c6:0 ≤ x22_2
      ·
       rw [if_pos c6] at H;have c6b0:decide (0 ≤ x22_2)=true:=decide_eq_true c6;clear c6
       by_cases c7:x22_2 < (l1.length:Int)
       ·
        rw [if_pos c7] at H;have c7b0:decide (x22_2 < (l1.length:Int))=true:=decide_eq_true c7;clear c7;have HC8:=mk0 H;clear H;have p101:0 ≤ (x22_2:Int):=of_decide_eq_true (by first|(with_reducible assumption)|assumption);have q101:x22_2 < (l1.length:Int):=of_decide_eq_true (by first|(with_reducible assumption)|assumption);obtain ⟨ad101,A101_0,c101_0,e101,hx101_0,hl101_0,hi101_0⟩:=at_L4 HR1.out x22_2 p101 q101;cases e101;replace hx101_0:=(HB.out.cell (World.block_lt_of_cell? w _ hx101_0)).trans hx101_0;have HR101_0:=mk0 hi101_0;have HC101_0:=mk0 hl101_0;clear hi101_0 hl101_0;replace p101:=eq_true p101;replace q101:=eq_true q101;go_upto_region 5 with (fail)
        go_cut [5] (fun v5 wc=>∃ (kq:Nat) (x5_7:Bool),v5=.bool x5_7∧Aside0 (count_check.j2 kq a0 x5_7 x6_2 x7_2 (rd_L4 l1 x22_2) l1 (l1.length:Int) x22_2=some r)∧Aside0 (kq ≤ k2)∧Aside0 (Below w.heap.size w wc))
        case first =>
         have H:=HC8.out;clear HC8
         by_cases c9:x5_2=true
         ·
          subst c9;have H1:(count_check.j2 k2 a0 true x6_2 x7_2 (rd_L4 l1 x22_2) l1 (l1.length:Int) x22_2)=some r:=by rw [if_pos rfl] at H;exact H
          clear H;have H:=H1;clear H1;have H':=mk0 H;clear H;go_wp2;go_meet
          case rel=>exact ⟨_,(true),(by first|rfl|(simp;done)|(simp [*];done)),H',⟨by have:=HJ2.out;have:=HK2.out;first|omega|exact Nat.le_refl _⟩,⟨by repeat (first|(with_reducible first|exact HB.out|apply below_alloc|apply pw_below_drewN|apply below_drew1)|exact HB.out)⟩⟩
         ·
          replace c9:=Bool.eq_false_iff.mpr c9;subst c9;have H1:(count_check.j2 k2 a0 (decide (((rd_L4 l1 x22_2).length:Int) > 8)) x6_2 x7_2 (rd_L4 l1 x22_2) l1 (l1.length:Int) x22_2)=some r:=by rw [if_neg (show ¬ (false=true) by decide)] at H;exact H
          clear H;have H:=H1;clear H1;have H':=mk0 H;clear H;go_wp2;go_meet
          case rel=>exact ⟨_,(decide (((rd_L4 l1 x22_2).length:Int) > 8)),(by first|rfl|(simp;done)|(simp [*];done)),H',⟨by have:=HJ2.out;have:=HK2.out;first|omega|exact Nat.le_refl _⟩,⟨by repeat (first|(with_reducible first|exact HB.out|apply below_alloc|apply pw_below_drewN|apply below_drew1)|exact HB.out)⟩⟩
        case rest =>
         clear HC8;try clear c1
         try clear p1
         try clear q1
         try clear hx1
         try clear p2
         try clear c4
         try clear c4b0
         try clear c5
         try clear c5b0
         try clear c6
         try clear c6b0
         try clear c7
         try clear c7b0
         try clear c9
         try clear hx101_0
         try clear p101
         try clear p2
         try clear q101
         obtain ⟨kq,x5_7,rfl,HA,HJ7,HB⟩:=hcut;cases kq with
         | zero=>exact absurd HA.out (by simp [count_check.j2])
         | succ kj7 =>
          have H:=HA.out;clear HA;simp only [count_check.j2] at H;have H':=mk0 H;clear H;go_wp2
          go_loopg [5,6,7,34] kj7 (fun kq v5 v6 v7 v34 w'=>∃ (x5_4:Bool) (x6_4:Bool) (x7_4:Bool) (x34_4:Int),v5=.bool x5_4∧v6=.bool x6_4∧v7=.bool x7_4∧v34=.int .i64 x34_4∧Aside0 (count_check.l1 kq a0 x5_4 x6_4 x7_4 l1 (l1.length:Int) x22_2 (rd_L4 l1 x22_2) ((rd_L4 l1 x22_2).length:Int) x34_4=some r)∧Aside0 (kq ≤ kj7)∧Aside0 (Below w.heap.size w w'))
          case atStart=>exact ⟨(x5_7),(x6_2),(x7_2),(0),(by first|rfl|(simp;done)|(simp [*];done)),(by first|rfl|(simp;done)|(simp [*];done)),(by first|rfl|(simp;done)|(simp [*];done)),(by first|rfl|(simp;done)|(simp [*];done)),H',⟨Nat.le_refl _⟩,⟨by repeat (first|(with_reducible first|exact HB.out|apply below_alloc|apply pw_below_drewN|apply below_drew1)|exact HB.out)⟩⟩
          case round =>
           clear H';try clear c1
           try clear p1
           try clear q1
           try clear hx1
           try clear p2
           try clear c4
           try clear c4b0
           try clear c5
           try clear c5b0
           try clear c6
           try clear c6b0
           try clear c7
           try clear c7b0
           try clear c9
           try clear hx101_0
           try clear p1
           try clear p101
           try clear p2
           try clear q1
           try clear q101
           obtain ⟨x5_4,x6_4,x7_4,x34_4,rfl,rfl,rfl,rfl,HA,HK4,HB⟩:=hrel;cases gk with
           | zero=>exact absurd HA.out (by simp [count_check.l1])
           | succ k4 =>
            have H:=HA.out;clear HA;simp only [count_check.l1] at H
            by_cases c10:x34_4 < ((rd_L4 l1 x22_2).length:Int)
            ·
             rw [if_pos c10] at H;have c10b0:decide (x34_4 < ((rd_L4 l1 x22_2).length:Int))=true:=decide_eq_true c10;clear c10
             by_cases c11:0 ≤ x34_4
             ·
              rw [if_pos c11] at H;have c11b0:decide (0 ≤ x34_4)=true:=decide_eq_true c11;clear c11
              by_cases c12:x34_4 < ((rd_L4 l1 x22_2).length:Int)
              ·
               rw [if_pos c12] at H;have c12b0:decide (x34_4 < ((rd_L4 l1 x22_2).length:Int))=true:=decide_eq_true c12;clear c12;have HC13:=mk0 H;clear H;have p102:0 ≤ (x34_4:Int):=of_decide_eq_true (by first|(with_reducible assumption)|assumption);have q102:x34_4 < ((rd_L4 l1 x22_2).length:Int):=of_decide_eq_true (by first|(with_reducible assumption)|assumption);obtain ⟨ad102,A102_0,c102_0,A102_1,c102_1,e102,hx102_0,hx102_1,hl102_0,hi102_0,hl102_1,hi102_1⟩:=at_T60 HR101_0.out x34_4 p102 q102;cases e102;replace hx102_0:=(HB.out.cell (World.block_lt_of_cell? w _ hx102_0)).trans hx102_0;replace hx102_1:=(HB.out.cell (World.block_lt_of_cell? w _ hx102_1)).trans hx102_1;have HR102_0:=mk0 hi102_0;have HC102_0:=mk0 hl102_0;clear hi102_0 hl102_0;have HR102_1:=mk0 hi102_1;have HC102_1:=mk0 hl102_1;clear hi102_1 hl102_1;replace p102:=eq_true p102;replace q102:=eq_true q102;go_upto_region 9 with (first|((with_reducible refine gate_dst (N:=11) rfl ?_);(try (refine gate_guard (by rfl) ?_;dsimp only));refine box_event ?hg (N:=11) ?hd (cs:=#[.slice none 0 0,.slice none 0 0]) (t:=60) ?hr ?_;(case hd=>rfl);(case hg=>rfl);(case hr=>first|(go_simp;done)|(go_simp;rfl));intro gb103 hg w14 hbox hb;have BK103:=mk0 (hbox);have GW103:=szw hg HB;have GE103:=GW103;replace HB:=bst HB hb;clear hb hbox hg;have hcz15_0:w14.cell? ⟨gb103,0,none⟩=some (.slice none 0 0):=(blk_cell BK103.out 0).trans rfl;have hcz15_1:w14.cell? ⟨gb103,1,none⟩=some (.slice none 0 0):=(blk_cell BK103.out 1).trans rfl;have hfz15_0:=blk_frozen BK103.out 0;have hfz15_1:=blk_frozen BK103.out 1));(try simp only [Act.put,List.setIfInBounds_toArray,List.set_cons_zero,List.set_cons_succ])
               go_cut [5] (fun v5 wc=>∃ (kq:Nat) (x5_12:Bool),v5=.bool x5_12∧Aside0 (count_check.j4 kq a0 x5_12 x6_4 x7_4 l1 (l1.length:Int) x22_2 (rd_L4 l1 x22_2) ((rd_L4 l1 x22_2).length:Int) x34_4 ((rd_T60 (rd_L4 l1 x22_2) x34_4).f0) ((rd_T60 (rd_L4 l1 x22_2) x34_4).f1)=some r)∧Aside0 (kq ≤ k4)∧Aside0 (wc.heap[gb103]?=some (.cells #[(.slice A102_0 ((rd_T60 (rd_L4 l1 x22_2) x34_4).f0).length c102_0),(.slice A102_1 ((rd_T60 (rd_L4 l1 x22_2) x34_4).f1).length c102_1)] 60 (0,0)))∧Aside0 (Below w.heap.size w wc))
               case first =>
                have H:=HC13.out;clear HC13
                by_cases c16:x5_4=true
                ·
                 subst c16;have H1:(count_check.j4 k4 a0 true x6_4 x7_4 l1 (l1.length:Int) x22_2 (rd_L4 l1 x22_2) ((rd_L4 l1 x22_2).length:Int) x34_4 ((rd_T60 (rd_L4 l1 x22_2) x34_4).f0) ((rd_T60 (rd_L4 l1 x22_2) x34_4).f1))=some r:=by rw [if_pos rfl] at H;exact H
                 clear H;have H:=H1;clear H1;have H':=mk0 H;clear H;go_wp2;go_meet
                 case rel=>exact ⟨_,(true),(by first|rfl|(simp;done)|(simp [*];done)),H',⟨by have:=HJ2.out;have:=HK2.out;have:=HJ7.out;have:=HK4.out;first|omega|exact Nat.le_refl _⟩,⟨by refine blk_put (cs:=#[.slice A102_0 ((rd_T60 (rd_L4 l1 x22_2) x34_4).f0).length c102_0,.slice none 0 0]) ?_ 1 _ rfl;refine blk_put (cs:=#[.slice none 0 0,.slice none 0 0]) ?_ 0 _ rfl;exact BK103.out⟩,⟨by repeat (first|(with_reducible first|exact HB.out|apply below_alloc|apply pw_below_drewN|apply below_drew1|refine below_set ?_ GE103.out)|exact HB.out)⟩⟩
                ·
                 replace c16:=Bool.eq_false_iff.mpr c16;subst c16;have H1:(count_check.j4 k4 a0 (decide ((((rd_T60 (rd_L4 l1 x22_2) x34_4).f1).length:Int) > 4)) x6_4 x7_4 l1 (l1.length:Int) x22_2 (rd_L4 l1 x22_2) ((rd_L4 l1 x22_2).length:Int) x34_4 ((rd_T60 (rd_L4 l1 x22_2) x34_4).f0) ((rd_T60 (rd_L4 l1 x22_2) x34_4).f1))=some r:=by rw [if_neg (show ¬ (false=true) by decide)] at H;exact H
                 clear H;have H:=H1;clear H1;have H':=mk0 H;clear H;have hcz17_0:w14.cell? ⟨gb103,0,none⟩=some (.slice none 0 0):=(blk_cell BK103.out 0).trans rfl;have hcz17_1:w14.cell? ⟨gb103,1,none⟩=some (.slice none 0 0):=(blk_cell BK103.out 1).trans rfl;have hfz17_0:=blk_frozen BK103.out 0;have hfz17_1:=blk_frozen BK103.out 1;go_wp2;go_meet
                 case rel=>exact ⟨_,(decide ((((rd_T60 (rd_L4 l1 x22_2) x34_4).f1).length:Int) > 4)),(by first|rfl|(simp;done)|(simp [*];done)),H',⟨by have:=HJ2.out;have:=HK2.out;have:=HJ7.out;have:=HK4.out;first|omega|exact Nat.le_refl _⟩,⟨by refine blk_put (cs:=#[.slice A102_0 ((rd_T60 (rd_L4 l1 x22_2) x34_4).f0).length c102_0,.slice none 0 0]) ?_ 1 _ rfl;refine blk_put (cs:=#[.slice none 0 0,.slice none 0 0]) ?_ 0 _ rfl;exact BK103.out⟩,⟨by repeat (first|(with_reducible first|exact HB.out|apply below_alloc|apply pw_below_drewN|apply below_drew1|refine below_set ?_ GE103.out)|exact HB.out)⟩⟩
               case rest =>
                clear HC13;try clear c1
                try clear p1
                try clear q1
                try clear hx1
                try clear p2
                try clear c4
                try clear c4b0
                try clear c5
                try clear c5b0
                try clear c6
                try clear c6b0
                try clear c7
                try clear c7b0
                try clear c9
                try clear c10
                try clear c10b0
                try clear p10
                try clear q10
                try clear hx10
                try clear c11
                try clear c11b0
                try clear c12
                try clear c12b0
                try clear c16
                try clear hcz15_0
                try clear hcz15_1
                try clear hcz17_0
                try clear hcz17_1
                try clear hfz15_0
                try clear hfz15_1
                try clear hfz17_0
                try clear hfz17_1
                try clear hx101_0
                try clear hx102_0
                try clear hx102_1
                try clear p1
                try clear p101
                try clear p102
                try clear p2
                try clear q1
                try clear q101
                try clear q102
                obtain ⟨kq,x5_12,rfl,HA,HJ12,BK103,HB⟩:=hcut;cases kq with
                | zero=>exact absurd HA.out (by simp [count_check.j4])
                | succ kj12 =>
                 have H:=HA.out;clear HA;simp only [count_check.j4] at H;have HC18:=mk0 H;clear H;go_upto_region 10 with (fail)
                 go_cut [6] (fun v6 wc=>∃ (kq:Nat) (x6_17:Bool),v6=.bool x6_17∧Aside0 (count_check.j5 kq a0 x5_12 x6_17 x7_4 l1 (l1.length:Int) x22_2 (rd_L4 l1 x22_2) ((rd_L4 l1 x22_2).length:Int) x34_4 ((rd_T60 (rd_L4 l1 x22_2) x34_4).f0) ((rd_T60 (rd_L4 l1 x22_2) x34_4).f1)=some r)∧Aside0 (kq ≤ kj12)∧Aside0 (wc.heap[gb103]?=some (.cells #[(.slice A102_0 ((rd_T60 (rd_L4 l1 x22_2) x34_4).f0).length c102_0),(.slice A102_1 ((rd_T60 (rd_L4 l1 x22_2) x34_4).f1).length c102_1)] 60 (0,0)))∧Aside0 (Below w.heap.size w wc))
                 case first =>
                  have H:=HC18.out;clear HC18
                  by_cases c19:x6_4=true
                  ·
                   subst c19;have H1:(count_check.j5 kj12 a0 x5_12 true x7_4 l1 (l1.length:Int) x22_2 (rd_L4 l1 x22_2) ((rd_L4 l1 x22_2).length:Int) x34_4 ((rd_T60 (rd_L4 l1 x22_2) x34_4).f0) ((rd_T60 (rd_L4 l1 x22_2) x34_4).f1))=some r:=by rw [if_pos rfl] at H;exact H
                   clear H;have H:=H1;clear H1;have H':=mk0 H;clear H;go_wp2;go_meet
                   case rel=>exact ⟨_,(true),(by first|rfl|(simp;done)|(simp [*];done)),H',⟨by have:=HJ2.out;have:=HK2.out;have:=HJ7.out;have:=HK4.out;have:=HJ12.out;first|omega|exact Nat.le_refl _⟩,⟨by exact BK103.out⟩,⟨by repeat (first|(with_reducible first|exact HB.out|apply below_alloc|apply pw_below_drewN|apply below_drew1|refine below_set ?_ GE103.out)|exact HB.out)⟩⟩
                  ·
                   replace c19:=Bool.eq_false_iff.mpr c19;subst c19;have H1:((count_outside.f ((rd_T60 (rd_L4 l1 x22_2) x34_4).f0) 20).bind fun t104=>(count_check.j5 kj12 a0 x5_12 t104 x7_4 l1 (l1.length:Int) x22_2 (rd_L4 l1 x22_2) ((rd_L4 l1 x22_2).length:Int) x34_4 ((rd_T60 (rd_L4 l1 x22_2) x34_4).f0) ((rd_T60 (rd_L4 l1 x22_2) x34_4).f1)))=some r:=by rw [if_neg (show ¬ (false=true) by decide)] at H;exact H
                   clear H;have H:=H1;clear H1;replace H:=Option.bind_eq_some_iff.mp H;obtain ⟨t104,A200,H⟩:=H;(try dsimp only at H);have A20:=mk0 A200;clear A200;have H':=mk0 H;clear H;have hcz21_0:wc.cell? ⟨gb103,0,none⟩=some (.slice A102_0 ((rd_T60 (rd_L4 l1 x22_2) x34_4).f0).length c102_0):=(blk_cell BK103.out 0).trans rfl;have hcz21_1:wc.cell? ⟨gb103,1,none⟩=some (.slice A102_1 ((rd_T60 (rd_L4 l1 x22_2) x34_4).f1).length c102_1):=(blk_cell BK103.out 1).trans rfl;have hfz21_0:=blk_frozen BK103.out 0;have hfz21_1:=blk_frozen BK103.out 1;go_wp2_with (first|(go_at_call 52;(with_reducible refine (count_outside.calls _ _ ((rd_T60 (rd_L4 l1 x22_2) x34_4).f0) 20 t104 _ ?side1 ?side2 A20.out).mono ?_);(case side1=>repeat (first|exact (Kd.C_below HR102_0.out HB.out)|(with_reducible refine Kd.C_alloc ?_ _)|(with_reducible refine Kd.C_drewN ?_ _)|(with_reducible refine Kd.C_drew ?_)));(case side2=>exact HC102_0.out);rintro e w22 ⟨rfl,hb⟩;replace BK103:=bkb BK103 hb;replace HB:=bst HB hb;(try clear hb)));go_meet
                   case rel=>exact ⟨_,(t104),(by first|rfl|(simp;done)|(simp [*];done)),H',⟨by have:=HJ2.out;have:=HK2.out;have:=HJ7.out;have:=HK4.out;have:=HJ12.out;first|omega|exact Nat.le_refl _⟩,⟨by exact BK103.out⟩,⟨by repeat (first|(with_reducible first|exact HB.out|apply below_alloc|apply pw_below_drewN|apply below_drew1|refine below_set ?_ GE103.out)|exact HB.out)⟩⟩
                 case rest =>
                  clear HC18;try clear c1
                  try clear p1
                  try clear q1
                  try clear hx1
                  try clear p2
                  try clear c4
                  try clear c4b0
                  try clear c5
                  try clear c5b0
                  try clear c6
                  try clear c6b0
                  try clear c7
                  try clear c7b0
                  try clear c9
                  try clear c10
                  try clear c10b0
                  try clear p10
                  try clear q10
                  try clear hx10
                  try clear c11
                  try clear c11b0
                  try clear c12
                  try clear c12b0
                  try clear c16
                  try clear c19
                  try clear hcz15_0
                  try clear hcz15_1
                  try clear hcz17_0
                  try clear hcz17_1
                  try clear hcz21_0
                  try clear hcz21_1
                  try clear hfz15_0
                  try clear hfz15_1
                  try clear hfz17_0
                  try clear hfz17_1
                  try clear hfz21_0
                  try clear hfz21_1
                  try clear hx101_0
                  try clear hx102_0
                  try clear hx102_1
                  try clear p1
                  try clear p10
                  try clear p101
                  try clear p102
                  try clear p2
                  try clear q1
                  try clear q10
                  try clear q101
                  try clear q102
                  obtain ⟨kq,x6_17,rfl,HA,HJ17,BK103,HB⟩:=hcut;cases kq with
                  | zero=>exact absurd HA.out (by simp [count_check.j5])
                  | succ kj17 =>
                   have H:=HA.out;clear HA;simp only [count_check.j5] at H;have HC23:=mk0 H;clear H;go_upto_region 11 with (fail)
                   go_cut [7] (fun v7 wc=>∃ (kq:Nat) (x7_22:Bool),v7=.bool x7_22∧Aside0 (count_check.j6 kq a0 x5_12 x6_17 x7_22 l1 (l1.length:Int) x22_2 (rd_L4 l1 x22_2) ((rd_L4 l1 x22_2).length:Int) x34_4 ((rd_T60 (rd_L4 l1 x22_2) x34_4).f0) ((rd_T60 (rd_L4 l1 x22_2) x34_4).f1)=some r)∧Aside0 (kq ≤ kj17)∧Aside0 (wc.heap[gb103]?=some (.cells #[(.slice A102_0 ((rd_T60 (rd_L4 l1 x22_2) x34_4).f0).length c102_0),(.slice A102_1 ((rd_T60 (rd_L4 l1 x22_2) x34_4).f1).length c102_1)] 60 (0,0)))∧Aside0 (Below w.heap.size w wc))
                   case first =>
                    have H:=HC23.out;clear HC23
                    by_cases c24:x7_4=true
                    ·
                     subst c24;have H1:(count_check.j6 kj17 a0 x5_12 x6_17 true l1 (l1.length:Int) x22_2 (rd_L4 l1 x22_2) ((rd_L4 l1 x22_2).length:Int) x34_4 ((rd_T60 (rd_L4 l1 x22_2) x34_4).f0) ((rd_T60 (rd_L4 l1 x22_2) x34_4).f1))=some r:=by rw [if_pos rfl] at H;exact H
                     clear H;have H:=H1;clear H1;have H':=mk0 H;clear H;go_wp2;go_meet
                     case rel=>exact ⟨_,(true),(by first|rfl|(simp;done)|(simp [*];done)),H',⟨by have:=HJ2.out;have:=HK2.out;have:=HJ7.out;have:=HK4.out;have:=HJ12.out;have:=HJ17.out;first|omega|exact Nat.le_refl _⟩,⟨by exact BK103.out⟩,⟨by repeat (first|(with_reducible first|exact HB.out|apply below_alloc|apply pw_below_drewN|apply below_drew1|refine below_set ?_ GE103.out)|exact HB.out)⟩⟩
                    ·
                     replace c24:=Bool.eq_false_iff.mpr c24;subst c24;have H1:(count_check.j6 kj17 a0 x5_12 x6_17 ((((rd_T60 (rd_L4 l1 x22_2) x34_4).f0).length:Int) != a0) l1 (l1.length:Int) x22_2 (rd_L4 l1 x22_2) ((rd_L4 l1 x22_2).length:Int) x34_4 ((rd_T60 (rd_L4 l1 x22_2) x34_4).f0) ((rd_T60 (rd_L4 l1 x22_2) x34_4).f1))=some r:=by rw [if_neg (show ¬ (false=true) by decide)] at H;exact H
                     clear H;have H:=H1;clear H1;have H':=mk0 H;clear H;have hcz25_0:wc.cell? ⟨gb103,0,none⟩=some (.slice A102_0 ((rd_T60 (rd_L4 l1 x22_2) x34_4).f0).length c102_0):=(blk_cell BK103.out 0).trans rfl;have hcz25_1:wc.cell? ⟨gb103,1,none⟩=some (.slice A102_1 ((rd_T60 (rd_L4 l1 x22_2) x34_4).f1).length c102_1):=(blk_cell BK103.out 1).trans rfl;have hfz25_0:=blk_frozen BK103.out 0;have hfz25_1:=blk_frozen BK103.out 1;go_wp2;go_meet
                     case rel=>exact ⟨_,(((((rd_T60 (rd_L4 l1 x22_2) x34_4).f0).length:Int) != a0)),(by first|rfl|(simp;done)|(simp [*];done)),H',⟨by have:=HJ2.out;have:=HK2.out;have:=HJ7.out;have:=HK4.out;have:=HJ12.out;have:=HJ17.out;first|omega|exact Nat.le_refl _⟩,⟨by exact BK103.out⟩,⟨by repeat (first|(with_reducible first|exact HB.out|apply below_alloc|apply pw_below_drewN|apply below_drew1|refine below_set ?_ GE103.out)|exact HB.out)⟩⟩
                   case rest =>
                    clear HC23;try clear c1
                    try clear p1
                    try clear q1
                    try clear hx1
                    try clear c2
                    try clear p2
                    try clear c4
                    try clear c4b0
                    try clear c5
                    try clear c5b0
                    try clear c6
                    try clear c6b0
                    try clear c7
                    try clear c7b0
                    try clear c9
                    try clear c10
                    try clear c10b0
                    try clear p10
                    try clear q10
                    try clear hx10
                    try clear c11
                    try clear c11b0
                    try clear c12
                    try clear c12b0
                    try clear c16
                    try clear c19
                    try clear c24
                    try clear hcz15_0
                    try clear hcz15_1
                    try clear hcz17_0
                    try clear hcz17_1
                    try clear hcz21_0
                    try clear hcz21_1
                    try clear hcz25_0
                    try clear hcz25_1
                    try clear hfz15_0
                    try clear hfz15_1
                    try clear hfz17_0
                    try clear hfz17_1
                    try clear hfz21_0
                    try clear hfz21_1
                    try clear hfz25_0
                    try clear hfz25_1
                    try clear hx101_0
                    try clear hx102_0
                    try clear hx102_1
                    try clear p1
                    try clear p10
                    try clear p101
                    try clear p102
                    try clear p2
                    try clear q1
                    try clear q10
                    try clear q101
                    try clear q102
                    obtain ⟨kq,x7_22,rfl,HA,HJ22,BK103,HB⟩:=hcut;cases kq with
                    | zero=>exact absurd HA.out (by simp [count_check.j6])
                    | succ kj22 =>
                     have H:=HA.out;clear HA;simp only [count_check.j6] at H;have H':=mk0 H;clear H;have hcz26_0:wc.cell? ⟨gb103,0,none⟩=some (.slice A102_0 ((rd_T60 (rd_L4 l1 x22_2) x34_4).f0).length c102_0):=(blk_cell BK103.out 0).trans rfl;have hcz26_1:wc.cell? ⟨gb103,1,none⟩=some (.slice A102_1 ((rd_T60 (rd_L4 l1 x22_2) x34_4).f1).length c102_1):=(blk_cell BK103.out 1).trans rfl;have hfz26_0:=blk_frozen BK103.out 0;have hfz26_1:=blk_frozen BK103.out 1;go_wp2
                     go_loopg [6,7,62] kj22 (fun kq v6 v7 v62 w'=>∃ (x6_8:Bool) (x7_8:Bool) (x62_8:Int),v6=.bool x6_8∧v7=.bool x7_8∧v62=.int .i64 x62_8∧Aside0 (count_check.l2 kq a0 x5_12 x6_8 x7_8 l1 (l1.length:Int) x22_2 (rd_L4 l1 x22_2) ((rd_L4 l1 x22_2).length:Int) x34_4 ((rd_T60 (rd_L4 l1 x22_2) x34_4).f1) (((rd_T60 (rd_L4 l1 x22_2) x34_4).f1).length:Int) x62_8=some r)∧Aside0 (kq ≤ kj22)∧Aside0 (w'.heap[gb103]?=some (.cells #[(.slice A102_0 ((rd_T60 (rd_L4 l1 x22_2) x34_4).f0).length c102_0),(.slice A102_1 ((rd_T60 (rd_L4 l1 x22_2) x34_4).f1).length c102_1)] 60 (0,0)))∧Aside0 (Below w.heap.size w w'))
                     case atStart=>exact ⟨(x6_17),(x7_22),(0),(by first|rfl|(simp;done)|(simp [*];done)),(by first|rfl|(simp;done)|(simp [*];done)),(by first|rfl|(simp;done)|(simp [*];done)),H',⟨Nat.le_refl _⟩,⟨by exact BK103.out⟩,⟨by repeat (first|(with_reducible first|exact HB.out|apply below_alloc|apply pw_below_drewN|apply below_drew1|refine below_set ?_ GE103.out)|exact HB.out)⟩⟩
                     case round =>
                      clear H';try clear c1
                      try clear p1
                      try clear q1
                      try clear hx1
                      try clear c2
                      try clear p2
                      try clear c4
                      try clear c4b0
                      try clear c5
                      try clear c5b0
                      try clear c6
                      try clear c6b0
                      try clear c7
                      try clear c7b0
                      try clear c9
                      try clear c10
                      try clear c10b0
                      try clear p10
                      try clear q10
                      try clear hx10
                      try clear c11
                      try clear c11b0
                      try clear c12
                      try clear c12b0
                      try clear c16
                      try clear c19
                      try clear c24
                      try clear hcz15_0
                      try clear hcz15_1
                      try clear hcz17_0
                      try clear hcz17_1
                      try clear hcz21_0
                      try clear hcz21_1
                      try clear hcz25_0
                      try clear hcz25_1
                      try clear hcz26_0
                      try clear hcz26_1
                      try clear hfz15_0
                      try clear hfz15_1
                      try clear hfz17_0
                      try clear hfz17_1
                      try clear hfz21_0
                      try clear hfz21_1
                      try clear hfz25_0
                      try clear hfz25_1
                      try clear hfz26_0
                      try clear hfz26_1
                      try clear hx101_0
                      try clear hx102_0
                      try clear hx102_1
                      try clear p1
                      try clear p10
                      try clear p101
                      try clear p102
                      try clear p2
                      try clear q1
                      try clear q10
                      try clear q101
                      try clear q102
                      obtain ⟨x6_8,x7_8,x62_8,rfl,rfl,rfl,HA,HK8,BK103,HB⟩:=hrel;cases gk with
                      | zero=>exact absurd HA.out (by simp [count_check.l2])
                      | succ k8 =>
                       have H:=HA.out;clear HA;simp only [count_check.l2] at H
                       by_cases c27:x62_8 < (((rd_T60 (rd_L4 l1 x22_2) x34_4).f1).length:Int)
                       ·
                        rw [if_pos c27] at H;have c27b0:decide (x62_8 < (((rd_T60 (rd_L4 l1 x22_2) x34_4).f1).length:Int))=true:=decide_eq_true c27;clear c27
                        by_cases c28:0 ≤ x62_8
                        ·
                         rw [if_pos c28] at H;have c28b0:decide (0 ≤ x62_8)=true:=decide_eq_true c28;clear c28
                         by_cases c29:x62_8 < (((rd_T60 (rd_L4 l1 x22_2) x34_4).f1).length:Int)
                         ·
                          rw [if_pos c29] at H;have c29b0:decide (x62_8 < (((rd_T60 (rd_L4 l1 x22_2) x34_4).f1).length:Int))=true:=decide_eq_true c29;clear c29
                          by_cases c30:x6_8=true
                          ·
                           subst c30;have H1:(if x7_8=true then (count_check.l2 k8 a0 x5_12 true true l1 (l1.length:Int) x22_2 (rd_L4 l1 x22_2) ((rd_L4 l1 x22_2).length:Int) x34_4 ((rd_T60 (rd_L4 l1 x22_2) x34_4).f1) (((rd_T60 (rd_L4 l1 x22_2) x34_4).f1).length:Int) (wrap64 (x62_8 + 1))) else (count_check.l2 k8 a0 x5_12 true (((rd_L1 ((rd_T60 (rd_L4 l1 x22_2) x34_4).f1) x62_8).length:Int) != a0) l1 (l1.length:Int) x22_2 (rd_L4 l1 x22_2) ((rd_L4 l1 x22_2).length:Int) x34_4 ((rd_T60 (rd_L4 l1 x22_2) x34_4).f1) (((rd_T60 (rd_L4 l1 x22_2) x34_4).f1).length:Int) (wrap64 (x62_8 + 1))))=some r:=by rw [if_pos rfl] at H;exact H
                           clear H;have H:=H1;clear H1
                           by_cases c31:x7_8=true
                           ·
                            subst c31;have H1:(count_check.l2 k8 a0 x5_12 true true l1 (l1.length:Int) x22_2 (rd_L4 l1 x22_2) ((rd_L4 l1 x22_2).length:Int) x34_4 ((rd_T60 (rd_L4 l1 x22_2) x34_4).f1) (((rd_T60 (rd_L4 l1 x22_2) x34_4).f1).length:Int) (wrap64 (x62_8 + 1)))=some r:=by rw [if_pos rfl] at H;exact H
                            clear H;have H:=H1;clear H1;have H':=mk0 H;clear H;have p105:0 ≤ (x62_8:Int):=of_decide_eq_true (by first|(with_reducible assumption)|assumption);have q105:x62_8 < (((rd_T60 (rd_L4 l1 x22_2) x34_4).f1).length:Int):=of_decide_eq_true (by first|(with_reducible assumption)|assumption);obtain ⟨ad105,A105_0,c105_0,e105,hx105_0,hl105_0,hi105_0⟩:=at_L1 HR102_1.out x62_8 p105 q105;cases e105;replace hx105_0:=(HB.out.cell (World.block_lt_of_cell? w _ hx105_0)).trans hx105_0;have HR105_0:=mk0 hi105_0;have HC105_0:=mk0 hl105_0;clear hi105_0 hl105_0;replace p105:=eq_true p105;replace q105:=eq_true q105;go_wp2;go_roundg k8
                            case measure=>have:=HJ2.out;have:=HK2.out;have:=HJ7.out;have:=HK4.out;have:=HJ12.out;have:=HJ17.out;have:=HJ22.out;have:=HK8.out;omega
                            case rel=>exact ⟨(true),(true),(wrap64 (x62_8 + 1)),(by first|rfl|(simp;done)|(simp [*];done)),(by first|rfl|(simp;done)|(simp [*];done)),(by first|rfl|(simp;done)|(simp [*];done)),H',⟨by have:=HJ2.out;have:=HK2.out;have:=HJ7.out;have:=HK4.out;have:=HJ12.out;have:=HJ17.out;have:=HJ22.out;have:=HK8.out;omega⟩,⟨by exact BK103.out⟩,⟨by repeat (first|(with_reducible first|exact HB.out|apply below_alloc|apply pw_below_drewN|apply below_drew1|refine below_set ?_ GE103.out)|exact HB.out)⟩⟩
                           ·
                            replace c31:=Bool.eq_false_iff.mpr c31;subst c31;have H1:(count_check.l2 k8 a0 x5_12 true (((rd_L1 ((rd_T60 (rd_L4 l1 x22_2) x34_4).f1) x62_8).length:Int) != a0) l1 (l1.length:Int) x22_2 (rd_L4 l1 x22_2) ((rd_L4 l1 x22_2).length:Int) x34_4 ((rd_T60 (rd_L4 l1 x22_2) x34_4).f1) (((rd_T60 (rd_L4 l1 x22_2) x34_4).f1).length:Int) (wrap64 (x62_8 + 1)))=some r:=by rw [if_neg (show ¬ (false=true) by decide)] at H;exact H
                            clear H;have H:=H1;clear H1;have H':=mk0 H;clear H;have p105:0 ≤ (x62_8:Int):=of_decide_eq_true (by first|(with_reducible assumption)|assumption);have q105:x62_8 < (((rd_T60 (rd_L4 l1 x22_2) x34_4).f1).length:Int):=of_decide_eq_true (by first|(with_reducible assumption)|assumption);obtain ⟨ad105,A105_0,c105_0,e105,hx105_0,hl105_0,hi105_0⟩:=at_L1 HR102_1.out x62_8 p105 q105;cases e105;replace hx105_0:=(HB.out.cell (World.block_lt_of_cell? w _ hx105_0)).trans hx105_0;have HR105_0:=mk0 hi105_0;have HC105_0:=mk0 hl105_0;clear hi105_0 hl105_0;replace p105:=eq_true p105;replace q105:=eq_true q105;go_wp2;go_roundg k8
                            case measure=>have:=HJ2.out;have:=HK2.out;have:=HJ7.out;have:=HK4.out;have:=HJ12.out;have:=HJ17.out;have:=HJ22.out;have:=HK8.out;omega
                            case rel=>exact ⟨(true),((((rd_L1 ((rd_T60 (rd_L4 l1 x22_2) x34_4).f1) x62_8).length:Int) != a0)),(wrap64 (x62_8 + 1)),(by first|rfl|(simp;done)|(simp [*];done)),(by first|rfl|(simp;done)|(simp [*];done)),(by first|rfl|(simp;done)|(simp [*];done)),H',⟨by have:=HJ2.out;have:=HK2.out;have:=HJ7.out;have:=HK4.out;have:=HJ12.out;have:=HJ17.out;have:=HJ22.out;have:=HK8.out;omega⟩,⟨by exact BK103.out⟩,⟨by repeat (first|(with_reducible first|exact HB.out|apply below_alloc|apply pw_below_drewN|apply below_drew1|refine below_set ?_ GE103.out)|exact HB.out)⟩⟩
                          ·
                           replace c30:=Bool.eq_false_iff.mpr c30;subst c30;have H1:((count_outside.f (rd_L1 ((rd_T60 (rd_L4 l1 x22_2) x34_4).f1) x62_8) 20).bind fun t106=>(if x7_8=true then (count_check.l2 k8 a0 x5_12 t106 true l1 (l1.length:Int) x22_2 (rd_L4 l1 x22_2) ((rd_L4 l1 x22_2).length:Int) x34_4 ((rd_T60 (rd_L4 l1 x22_2) x34_4).f1) (((rd_T60 (rd_L4 l1 x22_2) x34_4).f1).length:Int) (wrap64 (x62_8 + 1))) else (count_check.l2 k8 a0 x5_12 t106 (((rd_L1 ((rd_T60 (rd_L4 l1 x22_2) x34_4).f1) x62_8).length:Int) != a0) l1 (l1.length:Int) x22_2 (rd_L4 l1 x22_2) ((rd_L4 l1 x22_2).length:Int) x34_4 ((rd_T60 (rd_L4 l1 x22_2) x34_4).f1) (((rd_T60 (rd_L4 l1 x22_2) x34_4).f1).length:Int) (wrap64 (x62_8 + 1)))))=some r:=by rw [if_neg (show ¬ (false=true) by decide)] at H;exact H
                           clear H;have H:=H1;clear H1;replace H:=Option.bind_eq_some_iff.mp H;obtain ⟨t106,A320,H⟩:=H;(try dsimp only at H);have A32:=mk0 A320;clear A320
                           by_cases c33:x7_8=true
                           ·
                            subst c33;have H1:(count_check.l2 k8 a0 x5_12 t106 true l1 (l1.length:Int) x22_2 (rd_L4 l1 x22_2) ((rd_L4 l1 x22_2).length:Int) x34_4 ((rd_T60 (rd_L4 l1 x22_2) x34_4).f1) (((rd_T60 (rd_L4 l1 x22_2) x34_4).f1).length:Int) (wrap64 (x62_8 + 1)))=some r:=by rw [if_pos rfl] at H;exact H
                            clear H;have H:=H1;clear H1;have H':=mk0 H;clear H;have p105:0 ≤ (x62_8:Int):=of_decide_eq_true (by first|(with_reducible assumption)|assumption);have q105:x62_8 < (((rd_T60 (rd_L4 l1 x22_2) x34_4).f1).length:Int):=of_decide_eq_true (by first|(with_reducible assumption)|assumption);obtain ⟨ad105,A105_0,c105_0,e105,hx105_0,hl105_0,hi105_0⟩:=at_L1 HR102_1.out x62_8 p105 q105;cases e105;replace hx105_0:=(HB.out.cell (World.block_lt_of_cell? w _ hx105_0)).trans hx105_0;have HR105_0:=mk0 hi105_0;have HC105_0:=mk0 hl105_0;clear hi105_0 hl105_0;replace p105:=eq_true p105;replace q105:=eq_true q105;go_wp2_with (first|(go_at_call 52;(with_reducible refine (count_outside.calls _ _ (rd_L1 ((rd_T60 (rd_L4 l1 x22_2) x34_4).f1) x62_8) 20 t106 _ ?side1 ?side2 A32.out).mono ?_);(case side1=>repeat (first|exact (Kd.C_below HR105_0.out HB.out)|(with_reducible refine Kd.C_alloc ?_ _)|(with_reducible refine Kd.C_drewN ?_ _)|(with_reducible refine Kd.C_drew ?_)));(case side2=>exact HC105_0.out);rintro e w34 ⟨rfl,hb⟩;replace BK103:=bkb BK103 hb;replace HB:=bst HB hb;(try clear hb)));go_roundg k8
                            case measure=>have:=HJ2.out;have:=HK2.out;have:=HJ7.out;have:=HK4.out;have:=HJ12.out;have:=HJ17.out;have:=HJ22.out;have:=HK8.out;omega
                            case rel=>exact ⟨(t106),(true),(wrap64 (x62_8 + 1)),(by first|rfl|(simp;done)|(simp [*];done)),(by first|rfl|(simp;done)|(simp [*];done)),(by first|rfl|(simp;done)|(simp [*];done)),H',⟨by have:=HJ2.out;have:=HK2.out;have:=HJ7.out;have:=HK4.out;have:=HJ12.out;have:=HJ17.out;have:=HJ22.out;have:=HK8.out;omega⟩,⟨by exact BK103.out⟩,⟨by repeat (first|(with_reducible first|exact HB.out|apply below_alloc|apply pw_below_drewN|apply below_drew1|refine below_set ?_ GE103.out)|exact HB.out)⟩⟩
                           ·
                            replace c33:=Bool.eq_false_iff.mpr c33;subst c33;have H1:(count_check.l2 k8 a0 x5_12 t106 (((rd_L1 ((rd_T60 (rd_L4 l1 x22_2) x34_4).f1) x62_8).length:Int) != a0) l1 (l1.length:Int) x22_2 (rd_L4 l1 x22_2) ((rd_L4 l1 x22_2).length:Int) x34_4 ((rd_T60 (rd_L4 l1 x22_2) x34_4).f1) (((rd_T60 (rd_L4 l1 x22_2) x34_4).f1).length:Int) (wrap64 (x62_8 + 1)))=some r:=by rw [if_neg (show ¬ (false=true) by decide)] at H;exact H
                            clear H;have H:=H1;clear H1;have H':=mk0 H;clear H;have p105:0 ≤ (x62_8:Int):=of_decide_eq_true (by first|(with_reducible assumption)|assumption);have q105:x62_8 < (((rd_T60 (rd_L4 l1 x22_2) x34_4).f1).length:Int):=of_decide_eq_true (by first|(with_reducible assumption)|assumption);obtain ⟨ad105,A105_0,c105_0,e105,hx105_0,hl105_0,hi105_0⟩:=at_L1 HR102_1.out x62_8 p105 q105;cases e105;replace hx105_0:=(HB.out.cell (World.block_lt_of_cell? w _ hx105_0)).trans hx105_0;have HR105_0:=mk0 hi105_0;have HC105_0:=mk0 hl105_0;clear hi105_0 hl105_0;replace p105:=eq_true p105;replace q105:=eq_true q105;go_wp2_with (first|(go_at_call 52;(with_reducible refine (count_outside.calls _ _ (rd_L1 ((rd_T60 (rd_L4 l1 x22_2) x34_4).f1) x62_8) 20 t106 _ ?side1 ?side2 A32.out).mono ?_);(case side1=>repeat (first|exact (Kd.C_below HR105_0.out HB.out)|(with_reducible refine Kd.C_alloc ?_ _)|(with_reducible refine Kd.C_drewN ?_ _)|(with_reducible refine Kd.C_drew ?_)));(case side2=>exact HC105_0.out);rintro e w35 ⟨rfl,hb⟩;replace BK103:=bkb BK103 hb;replace HB:=bst HB hb;(try clear hb)));go_roundg k8
                            case measure=>have:=HJ2.out;have:=HK2.out;have:=HJ7.out;have:=HK4.out;have:=HJ12.out;have:=HJ17.out;have:=HJ22.out;have:=HK8.out;omega
                            case rel=>exact ⟨(t106),((((rd_L1 ((rd_T60 (rd_L4 l1 x22_2) x34_4).f1) x62_8).length:Int) != a0)),(wrap64 (x62_8 + 1)),(by first|rfl|(simp;done)|(simp [*];done)),(by first|rfl|(simp;done)|(simp [*];done)),(by first|rfl|(simp;done)|(simp [*];done)),H',⟨by have:=HJ2.out;have:=HK2.out;have:=HJ7.out;have:=HK4.out;have:=HJ12.out;have:=HJ17.out;have:=HJ22.out;have:=HK8.out;omega⟩,⟨by exact BK103.out⟩,⟨by repeat (first|(with_reducible first|exact HB.out|apply below_alloc|apply pw_below_drewN|apply below_drew1|refine below_set ?_ GE103.out)|exact HB.out)⟩⟩
                         ·
                          rw [if_neg c29] at H;exact absurd H (by simp)
                        ·
                         rw [if_neg c28] at H;exact absurd H (by simp)
                       ·
                        rw [if_neg c27] at H;have c27b0:decide (x62_8 < (((rd_T60 (rd_L4 l1 x22_2) x34_4).f1).length:Int))=false:=decide_eq_false c27;clear c27;have H':=mk0 H;clear H;go_wp2;go_roundg k8
                        case measure=>have:=HJ2.out;have:=HK2.out;have:=HJ7.out;have:=HK4.out;have:=HJ12.out;have:=HJ17.out;have:=HJ22.out;have:=HK8.out;omega
                        case rel=>exact ⟨(x5_12),(x6_8),(x7_8),(wrap64 (x34_4 + 1)),(by first|rfl|(simp;done)|(simp [*];done)),(by first|rfl|(simp;done)|(simp [*];done)),(by first|rfl|(simp;done)|(simp [*];done)),(by first|rfl|(simp;done)|(simp [*];done)),H',⟨by have:=HJ2.out;have:=HK2.out;have:=HJ7.out;have:=HK4.out;have:=HJ12.out;have:=HJ17.out;have:=HJ22.out;have:=HK8.out;omega⟩,⟨by repeat (first|(with_reducible first|exact HB.out|apply below_alloc|apply pw_below_drewN|apply below_drew1|refine below_set ?_ GE103.out)|exact HB.out)⟩⟩
              ·
               rw [if_neg c12] at H;exact absurd H (by simp)
             ·
              rw [if_neg c11] at H;exact absurd H (by simp)
            ·
             rw [if_neg c10] at H;have c10b0:decide (x34_4 < ((rd_L4 l1 x22_2).length:Int))=false:=decide_eq_false c10;clear c10;have H':=mk0 H;clear H;go_wp2;go_roundg k4
             case measure=>have:=HJ2.out;have:=HK2.out;have:=HJ7.out;have:=HK4.out;omega
             case rel=>exact ⟨(x5_4),(x6_4),(x7_4),(wrap64 (x22_2 + 1)),(by first|rfl|(simp;done)|(simp [*];done)),(by first|rfl|(simp;done)|(simp [*];done)),(by first|rfl|(simp;done)|(simp [*];done)),(by first|rfl|(simp;done)|(simp [*];done)),H',⟨by have:=HJ2.out;have:=HK2.out;have:=HJ7.out;have:=HK4.out;omega⟩,⟨by repeat (first|(with_reducible first|exact HB.out|apply below_alloc|apply pw_below_drewN|apply below_drew1)|exact HB.out)⟩⟩
       ·
        rw [if_neg c7] at H;exact absurd H (by simp)
      ·
       rw [if_neg c6] at H;exact absurd H (by simp)
     ·
      rw [if_neg c5] at H;have c5b0:decide (x22_2 < (l1.length:Int))=false:=decide_eq_false c5;clear c5
      by_cases c36:x5_2=true
      ·
       subst c36;have H1:(some 3)=some r:=by rw [if_pos rfl] at H;exact H
       clear H;have H:=H1;clear H1;obtain rfl:=Option.some.inj H;go_wp2;go_ret;exact ⟨by first|rfl|(simp [errW_none,errW_some] <;> rfl)|(simp [*,errW_none,errW_some] <;> rfl),by repeat (first|(with_reducible first|exact HB.out|apply below_alloc|apply pw_below_drewN|apply below_drew1)|exact HB.out)⟩
      ·
       replace c36:=Bool.eq_false_iff.mpr c36;subst c36;have H1:(if x6_2=true then (some 1) else (if x7_2=true then (some 2) else (some 0)))=some r:=by rw [if_neg (show ¬ (false=true) by decide)] at H;exact H
       clear H;have H:=H1;clear H1
       by_cases c37:x6_2=true
       ·
        subst c37;have H1:(some 1)=some r:=by rw [if_pos rfl] at H;exact H
        clear H;have H:=H1;clear H1;obtain rfl:=Option.some.inj H;go_wp2;go_ret;exact ⟨by first|rfl|(simp [errW_none,errW_some] <;> rfl)|(simp [*,errW_none,errW_some] <;> rfl),by repeat (first|(with_reducible first|exact HB.out|apply below_alloc|apply pw_below_drewN|apply below_drew1)|exact HB.out)⟩
       ·
        replace c37:=Bool.eq_false_iff.mpr c37;subst c37;have H1:(if x7_2=true then (some 2) else (some 0))=some r:=by rw [if_neg (show ¬ (false=true) by decide)] at H;exact H
        clear H;have H:=H1;clear H1
        by_cases c38:x7_2=true
        ·
         subst c38;have H1:(some 2)=some r:=by rw [if_pos rfl] at H;exact H
         clear H;have H:=H1;clear H1;obtain rfl:=Option.some.inj H;go_wp2;go_ret;exact ⟨by first|rfl|(simp [errW_none,errW_some] <;> rfl)|(simp [*,errW_none,errW_some] <;> rfl),by repeat (first|(with_reducible first|exact HB.out|apply below_alloc|apply pw_below_drewN|apply below_drew1)|exact HB.out)⟩
        ·
         replace c38:=Bool.eq_false_iff.mpr c38;subst c38;have H1:(some 0)=some r:=by rw [if_neg (show ¬ (false=true) by decide)] at H;exact H
         clear H;have H:=H1;clear H1;obtain rfl:=Option.some.inj H;go_wp2;go_ret;exact ⟨by first|rfl|(simp [errW_none,errW_some] <;> rfl)|(simp [*,errW_none,errW_some] <;> rfl),by repeat (first|(with_reducible first|exact HB.out|apply below_alloc|apply pw_below_drewN|apply below_drew1)|exact HB.out)⟩
def TellsL (g:Nat) (lb:Array Value) (p:S60 → Bool) (D:S60 → Prop) (K:World → Prop):Prop :=
  ∀ (W:World) (A0:Option Addr) (c0:Nat) (A1:Option Addr) (c1:Nat) (x:S60),K W → D x → x.f0.length ≤ c0 → Kd.C (Kd.int .i64) W A0 x.f0.length x.f0 → x.f1.length ≤ c1 → Kd.C (Kd.slice 3 (Kd.int .i64)) W A1 x.f1.length x.f1 →
    Calls Try.prog g (#[.agg #[.slice A0 x.f0.length c0,.slice A1 x.f1.length c1]] ++ lb) W fun e w'=>e=.returned (.bool (p x))∧Below W.heap.size W w'
def idxL (p:S60 → Bool) (l:List S60):Int:=match l.findIdx? p with|some i=>(i:Int)|none=>-1
theorem idxL_some (p:S60 → Bool) (l:List S60) (k:Nat) (hk:k < l.length) (h:p (rd_T60 l (k:Int))=true) (hb:∀ j,j < k → p (rd_T60 l (j:Int))=false):idxL p l=(k:Int):=by
  have:l.findIdx? p=some k:=by
    rw [List.findIdx?_eq_some_iff_getElem]
    refine ⟨hk,?_,fun j hj=>?_⟩
    · simpa [rd_T60,List.getD_eq_getElem?_getD,List.getElem?_eq_getElem hk] using h
    · have hjl:j < l.length:=by omega
      have:=hb j hj
      simpa [rd_T60,List.getD_eq_getElem?_getD,List.getElem?_eq_getElem hjl] using this
  simp [idxL,this]
theorem idxL_none (p:S60 → Bool) (l:List S60) (hb:∀ j,j < l.length → p (rd_T60 l (j:Int))=false):idxL p l=-1:=by
  have:l.findIdx? p=none:=by
    rw [List.findIdx?_eq_none_iff]
    intro x hx
    obtain ⟨j,hj,rfl⟩:=List.getElem_of_mem hx
    have:=hb j hj
    simpa [rd_T60,List.getD_eq_getElem?_getD,List.getElem?_eq_getElem hj] using this
  simp [idxL,this]
theorem idxL_some' (p:S60 → Bool) (l:List S60) (i:Int) (h0:0 ≤ i) (h1:i < (l.length:Int)) (h:p (rd_T60 l i)=true) (hb:∀ j,j < i.toNat → p (rd_T60 l (j:Int))=false):idxL p l=i:=by
  obtain ⟨k,rfl⟩:=Int.eq_ofNat_of_zero_le h0
  exact idxL_some p l k (by omega) h (by simpa using hb)
def SofarL (p:S60 → Bool) (l:List S60) (k:Nat):Prop:=∀ j,j < k → p (rd_T60 l (j:Int))=false
theorem SofarL.zero (p:S60 → Bool) (l:List S60):SofarL p l 0:=fun j hj=>absurd hj (by omega)
theorem SofarL.succ {p:S60 → Bool} {l:List S60} {k:Nat} (h:SofarL p l k) (hk:p (rd_T60 l (k:Int))=false):SofarL p l (k + 1):=fun j hj=>by
  by_cases e:j=k
  · subst e;exact hk
  · exact h j (by omega)
set_option maxHeartbeats 1000000 in
set_option maxRecDepth 100000 in
theorem IndexFunc_lin.calls (g:Nat) (lb:Array Value) (p:S60 → Bool) (D:S60 → Prop) (K:World → Prop) (A0:Option Addr) (c0:Nat) (l0:List S60) (w:World) (hr0:Kd.C k60 w A0 l0.length l0) (hc0:l0.length ≤ c0)
    (eg:∀ args w,(callFunc g args).run Try.prog w=.ok (.enter g args) w) (hp:TellsL g lb p D K) (hD:∀ x ∈ l0,D x) (hK:K w) (hKB:∀ W W',K W → Below W.heap.size W W' → K W') :
    Calls Try.prog 100 #[.slice A0 l0.length c0,.func (.func g) #[] lb] w fun e w'=>e=.returned (.int .i64 (idxL p l0))∧Below w.heap.size w w':=by
  have HR0:=Aside0.mk hr0
  have hlen:l0.length ≤ 9223372036854775807:=hr0.2.1
  clear hr0 hc0
  have HP:=Aside0.mk hp
  have HD:=Aside0.mk hD
  have HK:=Aside0.mk (fun W=>hKB w W hK)
  clear hp hK hKB hD
  go_enter Try.func100,Try.ntmps100
  go_wp2
  go_loopw [8] (fun v8 w'=>∃ i:Int,v8=.int .i64 i∧Aside0 (0 ≤ i∧i ≤ l0.length)∧Aside0 (SofarL p l0 i.toNat)∧Aside0 (Below w.heap.size w w')) (fun v8 _=>l0.length - (intOf v8).toNat)
  case atStart=>exact ⟨0,rfl,⟨by omega,by omega⟩,⟨SofarL.zero _ _⟩,⟨Below.refl _ _⟩⟩
  case round =>
    obtain ⟨i,rfl,HI,HS,HB⟩:=hrel
    by_cases hlt:i < (l0.length:Int)
    · have p1:0 ≤ i:=HI.out.1
      obtain ⟨ad,A1,c1,A2,c2,e,hx,hy,hl,hi,hl2,hi2⟩:=at_T60 HR0.out i p1 hlt
      cases e
      replace hx:=(HB.out.cell (World.block_lt_of_cell? w _ hx)).trans hx
      replace hy:=(HB.out.cell (World.block_lt_of_cell? w _ hy)).trans hy
      have hmem:rd_T60 l0 i ∈ l0:=by
        have hj:i.toNat < l0.length:=by omega
        simp only [rd_T60,List.getD_eq_getElem?_getD,List.getElem?_eq_getElem hj,Option.getD_some]
        exact List.getElem_mem hj
      have HQ:=Aside0.mk (HP.out _ A1 c1 A2 c2 (rd_T60 l0 i) (HK.out _ HB.out) (HD.out _ hmem) hl (Kd.C_below hi HB.out) hl2 (Kd.C_below hi2 HB.out))
      clear hmem
      clear hi hl hi2 hl2
      have hd:decide (i < (l0.length:Int))=true:=decide_eq_true hlt
      replace p1:=eq_true p1
      replace hlt:=eq_true hlt
      have hw:wrap64 (i + 1)=i + 1:=by have:=HI.out;have h:=of_eq_true hlt;unfold wrap64;omega
      have HW:=Aside0.mk hw
      clear hw
      by_cases hb:p (rd_T60 l0 i)=true
      · have HF:=Aside0.mk (idxL_some' p l0 i (of_eq_true p1) (of_eq_true hlt) hb HS.out)
        have HT:=Aside0.mk hb
        clear hb
        go_wp2_with (fail)
        refine HQ.out.mono ?_
        rintro e w1 ⟨rfl,hb1⟩
        rw [HT.out]
        have HB1:=Aside0.mk hb1
        clear hb1
        go_wp2
        go_ret
        exact ⟨by first|(rw [HF.out];done)|(rw [HF.out];rfl),HB.out.trans (HB1.out.mono HB.out.size)⟩
      · have HT:=Aside0.mk (Bool.eq_false_iff.mpr hb)
        clear hb
        go_wp2_with (fail)
        refine HQ.out.mono ?_
        rintro e w1 ⟨rfl,hb1⟩
        rw [HT.out]
        have HB1:=Aside0.mk hb1
        clear hb1
        go_wp2
        go_roundw
        case rel=>exact ⟨_,rfl,⟨by rw [HW.out];have:=HI.out;have:=of_eq_true hlt;omega⟩,⟨by rw [HW.out];have:=HI.out;rw [show (i + 1).toNat=i.toNat + 1 by omega];exact HS.out.succ (by rw [Int.toNat_of_nonneg this.1];exact HT.out)⟩,⟨HB.out.trans (HB1.out.mono HB.out.size)⟩⟩
        case measure=>simp only [intOf];have:=HW.out;have:=HI.out;have:=of_eq_true hlt;omega
    · have hd:decide (i < (l0.length:Int))=false:=decide_eq_false hlt
      have HF:=Aside0.mk (idxL_none p l0 (fun j hj=>HS.out j (by have:=HI.out;omega)))
      clear hlt
      go_wp2
      go_ret
      exact ⟨by first|(rw [HF.out];done)|(rw [HF.out];rfl),HB.out⟩
theorem idxL_any (p:S60 → Bool) (l:List S60):l.any p=decide (0 ≤ idxL p l):=by
  unfold idxL
  rcases h:l.findIdx? p with _|i
  · rw [List.findIdx?_eq_none_iff] at h
    rw [show l.any p=false from by rw [List.any_eq_false];exact fun x hx=>by simpa using h x hx]
    rfl
  · rw [List.findIdx?_eq_some_iff_getElem] at h
    obtain ⟨hi,hp,_⟩:=h
    rw [show l.any p=true from List.any_eq_true.mpr ⟨_,List.getElem_mem hi,hp⟩]
    simp
set_option maxHeartbeats 1000000 in
set_option maxRecDepth 100000 in
theorem ContainsFunc_lin.calls (g:Nat) (lb:Array Value) (p:S60 → Bool) (D:S60 → Prop) (K:World → Prop) (A0:Option Addr) (c0:Nat) (l0:List S60) (w:World) (hr0:Kd.C k60 w A0 l0.length l0) (hc0:l0.length ≤ c0)
    (eg:∀ args w,(callFunc g args).run Try.prog w=.ok (.enter g args) w) (hp:TellsL g lb p D K) (hD:∀ x ∈ l0,D x) (hK:K w) (hKB:∀ W W',K W → Below W.heap.size W W' → K W') :
    Calls Try.prog 88 #[.slice A0 l0.length c0,.func (.func g) #[] lb] w fun e w'=>e=.returned (.bool (l0.any p))∧Below w.heap.size w w':=by
  have HC1:=Aside0.mk (IndexFunc_lin.calls g lb p D K A0 c0 l0 w hr0 hc0 eg hp hD hK hKB)
  clear eg hp hr0 hc0 hD hK hKB
  have HA:=Aside0.mk (idxL_any p l0)
  go_enter Try.func88,Try.ntmps88
  go_wp2_with (go_at_call 100;(with_reducible refine HC1.out.mono ?_);rintro e w1 ⟨rfl,hb1⟩;have HB1:=Aside0.mk hb1;clear hb1)
  go_ret
  exact ⟨by first|(rw [HA.out];done)|(rw [HA.out];rfl),HB1.out⟩
def count_less.l0:Nat → List Int → List Int → List Int → Int → Int → Option (List Int × Bool)
  | 0,_,_,_,_,_=>none
  | k + 1,x0,x1,x6,x12,x13=>if x13 < x12 then (if 0 ≤ x13 then (if x13 < (x0.length:Int) then (if x13 < (x1.length:Int) then (if x13 < (x6.length:Int) then (count_less.l0 k x0 x1 (x6.set (x13:Int).toNat (wrap64 ((rd x0 x13) - (rd x1 x13)))) x12 (wrap64 (x13 + 1))) else (none)) else (none)) else (none)) else (none)) else ((count_outside.f x6 60).bind fun t113=>(some (x6,!t113)))
def count_less.f (k:Nat) (l0:List Int) (l1:List Int):Option (List Int × Bool):=if 0 ≤ (l0.length:Int) then (if ((l0.length:Int):Int).toNat ≤ 35184372088832 then (count_less.l0 k l0 l1 (List.replicate ((l0.length:Int):Int).toNat 0) (l0.length:Int) 0) else (none)) else (none)
theorem count_less.mono_l:∀ k,(∀ y0 y1 y2 y3 y4,LeO (count_less.l0 k y0 y1 y2 y3 y4) (count_less.l0 (k + 1) y0 y1 y2 y3 y4))
  | 0=>fun _ _ _ _ _ r h=>by simp [count_less.l0] at h
  | k + 1=>by
    have ih0:=count_less.mono_l k
    · intro y0 y1 y2 y3 y4
      unfold count_less.l0
      with_reducible repeat' first|exact ih0 _ _ _ _ _|exact LeO.refl _|exact LeO.none _|refine LeO.ite ?_ ?_|refine LeO.bind ?_ (fun _=>?_)
theorem count_less.mono:∀ a0 a1 k,LeO (count_less.f k a0 a1) (count_less.f (k + 1) a0 a1):=by
  intro a0 a1 k
  have ih0:=count_less.mono_l k
  unfold count_less.f
  with_reducible repeat' first|exact ih0 _ _ _ _ _|exact LeO.refl _|exact LeO.none _|refine LeO.ite ?_ ?_|refine LeO.bind ?_ (fun _=>?_)
def count_less.T5:Bool × List (List Nat × List Nat):=(true,[([],[]),([],[]),([],[]),([],[]),([2,3],[2,3]),([4],[4]),([],[]),([],[]),([6,7],[6,7]),([8],[8]),([5,9],[5,9]),([0,1,0,1,2,3,4,5,6,7,8,9,10],[0,1]),([11,10,0,1,2,3,4,5,6,7,8,9,10],[10,11])])
def count_less.B5:List Nat:=[0,0,0,0,12,28,0,0,192,448,1020,2047,4095]
theorem count_less.tab5:rtab .any (opsOf Try.f101 5)=count_less.T5:=by kernel_rfl
theorem count_less.bits5:waitsOk count_less.T5.2 count_less.B5=true:=by kernel_rfl
set_option maxHeartbeats 8000000 in
set_option maxRecDepth 100000 in
theorem count_less.calls (k:Nat) (A0:Option Addr) (c0:Nat) (l0:List Int) (A1:Option Addr) (c1:Nat) (l1:List Int) (r1:List Int) (r2:Bool) (w:World) (hr0:Kd.C (Kd.int .i64) w A0 l0.length l0) (hc0:l0.length ≤ c0) (hr1:Kd.C (Kd.int .i64) w A1 l1.length l1) (hc1:l1.length ≤ c1) (h:count_less.f k l0 l1=some (r1,r2)) :
    Calls Try.prog 101 #[.slice A0 l0.length c0,.slice A1 l1.length c1] w fun e w'=>∃ v0_:Value,e=.returned (.tuple #[v0_,.bool r2])∧Kd.R (Kd.int .i64) 3 w' w.heap.size (fun _=>True) v0_ r1∧Below w.heap.size w w':=by
 have HR0:=mk0 hr0;have HC0:=mk0 hc0;clear hr0 hc0;have HR1:=mk0 hr1;have HC1:=mk0 hc1;clear hr1 hc1;have HB:=mk0 (Below.refl w.heap.size w);have H:(if 0 ≤ (l0.length:Int) then (if ((l0.length:Int):Int).toNat ≤ 35184372088832 then (count_less.l0 k l0 l1 (List.replicate ((l0.length:Int):Int).toNat 0) (l0.length:Int) 0) else (none)) else (none))=some (r1,r2):=h;clear h
 by_cases c3:0 ≤ (l0.length:Int)
 ·
  rw [if_pos c3] at H;have c3b0:=eq_true c3;have c3b1:decide (0 ≤ (l0.length:Int))=true:=decide_eq_true c3;clear c3
  by_cases c4:((l0.length:Int):Int).toNat ≤ 35184372088832
  ·
   rw [if_pos c4] at H;have c4b0:=eq_true c4;have c4b1:decide (((l0.length:Int):Int).toNat ≤ 35184372088832)=true:=decide_eq_true c4;clear c4;obtain ⟨y107,hy107⟩:∃ y_:List Int,y_=(List.replicate ((l0.length:Int):Int).toNat 0):=⟨_,rfl⟩
   replace H:(count_less.l0 k l0 l1 y107 (l0.length:Int) 0)=some (r1,r2):=by first|(rw [hy107];with_reducible exact H)|(have H2_:=(Option.bind_some _ _).symm.trans H;rw [hy107];with_reducible exact H2_)|(have H2_:=(Option.bind_some _ _).symm.trans H;with_reducible exact H2_)|with_reducible exact H|(rw [hy107];exact H)|exact H
   have Ny107:=mk0 hy107;clear hy107;have H':=mk0 H;clear H;go_enter Try.func101,Try.ntmps101;go_wp2_with (first|((with_reducible refine gate_dst (N:=10) rfl ?_);refine Kd.R_make (Kd.int .i64) _ 3 rfl (N:=10) rfl 23 _ _ rfl (l0.length:Int) rfl rfl Try.underlying23 (.int .i64 0) 8 info3 rfl (by decide) (by omega) 0 (ok:=fun _=>True) (okp:=fun _=>True) rfl (fun _ hk=>hk) trivial (of_decide_eq_true (by first|(with_reducible assumption)|assumption)) (Nat.le_trans (Nat.mul_le_mul_right _ (of_decide_eq_true (by first|(with_reducible assumption)|assumption):(l0.length:Int).toNat ≤ 35184372088832)) (by omega)) (Below.refl _ _) (Nat.le_refl _) ?_;intro v108 w5 ho6 hb hg_ hnew_;clear hg_ hnew_;(first|rw [← Ny107.out] at ho6|(simp only [Int.reduceToNat] at ho6;rw [← Ny107.out] at ho6));have HO109:=mk0 (Kd.R_lower ho6 (below_size HB.out));replace HB:=bst HB hb;clear hb ho6))
   go_loopg [13] k (fun kq v13 w'=>∃ (x6_1:List Int) (x13_1:Int),v13=.int .i64 x13_1∧Aside0 (count_less.l0 kq l0 l1 x6_1 (l0.length:Int) x13_1=some (r1,r2))∧Aside0 (kq ≤ k)∧Aside0 (Kd.R (Kd.int .i64) 3 w' w.heap.size (fun _=>True) v108 x6_1)∧Aside0 (Below w.heap.size w w'))
   case atStart=>exact ⟨(y107),(0),(by first|rfl|(simp;done)|(simp [*];done)),H',⟨Nat.le_refl _⟩,⟨by (with_reducible repeat (first|apply Kd.R_alloc|apply Kd.R_drewN|apply Kd.R_drew));exact HO109.out⟩,⟨by repeat (first|(with_reducible first|exact HB.out|apply below_alloc|apply pw_below_drewN|apply below_drew1)|exact HB.out)⟩⟩
   case round =>
    clear H';try clear c1
    try clear p2
    try clear c3
    try clear c3b0
    try clear c3b1
    try clear c4
    try clear c4b0
    try clear c4b1
    obtain ⟨x6_1,x13_1,rfl,HA,HK1,HO_6,HB⟩:=hrel;cases gk with
    | zero=>exact absurd HA.out (by simp [count_less.l0])
    | succ k1 =>
     have H:=HA.out;clear HA;simp only [count_less.l0] at H
     by_cases c7:x13_1 < (l0.length:Int)
     ·
      rw [if_pos c7] at H;have c7b0:decide (x13_1 < (l0.length:Int))=true:=decide_eq_true c7;clear c7
      by_cases c8:0 ≤ x13_1
      ·
       rw [if_pos c8] at H;have c8b0:decide (0 ≤ x13_1)=true:=decide_eq_true c8;clear c8
       by_cases c9:x13_1 < (l0.length:Int)
       ·
        rw [if_pos c9] at H;have c9b0:decide (x13_1 < (l0.length:Int))=true:=decide_eq_true c9;clear c9
        by_cases c10:x13_1 < (l1.length:Int)
        ·
         rw [if_pos c10] at H;have c10b0:decide (x13_1 < (l1.length:Int))=true:=decide_eq_true c10;clear c10
         by_cases c11:x13_1 < (x6_1.length:Int)
         ·
          rw [if_pos c11] at H;have c11b0:decide (x13_1 < (x6_1.length:Int))=true:=decide_eq_true c11;clear c11;obtain ⟨y112,hy112⟩:∃ y_:List Int,y_=(x6_1.set (x13_1:Int).toNat (wrap64 ((rd l0 x13_1) - (rd l1 x13_1)))):=⟨_,rfl⟩
          replace H:(count_less.l0 k1 l0 l1 y112 (l0.length:Int) (wrap64 (x13_1 + 1)))=some (r1,r2):=by first|(rw [hy112];with_reducible exact H)|(have H2_:=(Option.bind_some _ _).symm.trans H;rw [hy112];with_reducible exact H2_)|(have H2_:=(Option.bind_some _ _).symm.trans H;with_reducible exact H2_)|with_reducible exact H|(rw [hy112];exact H)|exact H
          have Ny112:=mk0 hy112;clear hy112;have H':=mk0 H;clear H;try go_wp2
          replace HO_6:=rdr HO_6;replace HB:=hdr HB;have p110:0 ≤ (x13_1:Int):=of_decide_eq_true (by first|(with_reducible assumption)|assumption);have q110:x13_1 < (l0.length:Int):=of_decide_eq_true (by first|(with_reducible assumption)|assumption);obtain ⟨ad110,e110,hx110_0⟩:=Kd.at_int HR0.out x13_1 p110 q110;have hw110_0:=hx110_0;cases e110;replace hx110_0:=(HB.out.cell (World.block_lt_of_cell? w _ hx110_0)).trans hx110_0;replace p110:=eq_true p110;replace q110:=eq_true q110;have p111:0 ≤ (x13_1:Int):=of_decide_eq_true (by first|(with_reducible assumption)|assumption);have q111:x13_1 < (l1.length:Int):=of_decide_eq_true (by first|(with_reducible assumption)|assumption);obtain ⟨ad111,e111,hx111_0⟩:=Kd.at_int HR1.out x13_1 p111 q111;have hw111_0:=hx111_0;cases e111;replace hx111_0:=(HB.out.cell (World.block_lt_of_cell? w _ hx111_0)).trans hx111_0;replace p111:=eq_true p111;replace q111:=eq_true q111;have p12:0 ≤ (x13_1:Int):=of_decide_eq_true (by first|(with_reducible assumption)|assumption);have q12:(x13_1:Int) < ((x6_1.length:Int):Int):=of_decide_eq_true (by first|(with_reducible assumption)|assumption);obtain ⟨go12,co12,eo12,gb12,gl12,cl12,HG12⟩:=Kd.R_form HO_6.out (by omega);(first|cases eo12|(injection eo12 with ea_ en_ ec_;(first|subst ea_|(injection ea_ with ea_;subst ea_));subst ec_;clear en_));have GB12:=mk0 gb12;have GG12:=mk0 HG12;clear gb12 gl12 HG12;obtain ⟨hx12_0,hf12_0⟩:=Kd.R_celln 0 HO_6.out (x13_1:Int) p12 q12;replace p12:=eq_true p12;replace q12:=eq_true q12;have HP14:=Kd.R_putn HO_6.out (x13_1:Int) (wrap64 ((rd l0 x13_1) - (rd l1 x13_1)));rw [← Ny112.out] at HP14;have HQ14:=mk0 HP14;clear HP14;refine start_ (n:=13) (S:=fun w'=>w'.cell? (ad110.add (x13_1).toNat)=some (.int .i64 (rd l0 x13_1))∧w'.cell? (ad111.add (x13_1).toNat)=some (.int .i64 (rd l1 x13_1))) (ds:=[12]) #[false,false,false,false,false,false,false,false,false,false,false,false,false] (by kernel_rfl) rfl rfl ⟨((HB.out.cell (World.block_lt_of_cell? w _ hw110_0)).trans hw110_0),((HB.out.cell (World.block_lt_of_cell? w _ hw111_0)).trans hw111_0)⟩ (fun hHeld=>?_);refine with_tabW count_less.tab5 count_less.bits5 (fun HT_ HW_=>?_);generalize wr.drew=w13 at HO_6 HB GG12 HQ14 hf12_0 hx110_0 hx111_0 hx12_0 hHeld ⊢;refine pure_ (i:=0) (N:=some 16) (v:=?_) (a':=?_) #[true,false,false,false,false,false,false,false,false,false,false,false,false] rfl rfl (any_of HT_.out (by kernel_rfl)) (fun _ _ _ h=>h) (Or.inl ⟨by rfl,?_⟩) ?_ ?_;rotate_left
          ·
           intro w';go_simp;with_reducible rfl
          rotate_left
          ·
           simp only [Act.put,List.setIfInBounds_toArray,List.set_cons_zero,List.set_cons_succ,i64_w,i32_w];rfl
          refine pure_ (i:=1) (N:=some 17) (v:=?_) (a':=?_) #[true,true,false,false,false,false,false,false,false,false,false,false,false] rfl rfl (any_of HT_.out (by kernel_rfl)) (fun _ _ _ h=>h) (Or.inl ⟨by rfl,?_⟩) ?_ ?_;rotate_left
          ·
           intro w';go_simp;with_reducible rfl
          rotate_left
          ·
           simp only [Act.put,List.setIfInBounds_toArray,List.set_cons_zero,List.set_cons_succ,i64_w,i32_w];rfl
          refine pure_ (i:=2) (N:=some 18) (v:=?_) (a':=?_) #[true,true,true,false,false,false,false,false,false,false,false,false,false] rfl rfl (any_of HT_.out (by kernel_rfl)) (fun _ _ _ h=>h) (Or.inl ⟨by rfl,?_⟩) ?_ ?_;rotate_left
          ·
           intro w';go_simp;with_reducible rfl
          rotate_left
          ·
           simp only [Act.put,List.setIfInBounds_toArray,List.set_cons_zero,List.set_cons_succ,i64_w,i32_w];rfl
          refine pure_ (i:=3) (N:=some 19) (v:=?_) (a':=?_) #[true,true,true,true,false,false,false,false,false,false,false,false,false] rfl rfl (any_of HT_.out (by kernel_rfl)) (fun _ _ _ h=>h) (Or.inl ⟨by rfl,?_⟩) ?_ ?_;rotate_left
          ·
           intro w';go_simp;with_reducible rfl
          rotate_left
          ·
           simp only [Act.put,List.setIfInBounds_toArray,List.set_cons_zero,List.set_cons_succ,i64_w,i32_w];rfl
          refine pure_ (i:=4) (N:=some 20) (v:=?_) (a':=?_) #[true,true,true,true,true,false,false,false,false,false,false,false,false] rfl rfl (any_of HT_.out (by kernel_rfl)) (fun _ _ _ h=>h) (Or.inl ⟨by rfl,?_⟩) ?_ ?_;rotate_left
          ·
           intro w';go_simp;with_reducible rfl
          rotate_left
          ·
           simp only [Act.put,List.setIfInBounds_toArray,List.set_cons_zero,List.set_cons_succ,i64_w,i32_w];rfl
          refine pure_ (i:=6) (N:=some 22) (v:=?_) (a':=?_) #[true,true,true,true,true,false,true,false,false,false,false,false,false] rfl rfl (any_of HT_.out (by kernel_rfl)) (fun _ _ _ h=>h) (Or.inl ⟨by rfl,?_⟩) ?_ ?_;rotate_left
          ·
           intro w';go_simp;with_reducible rfl
          rotate_left
          ·
           simp only [Act.put,List.setIfInBounds_toArray,List.set_cons_zero,List.set_cons_succ,i64_w,i32_w];rfl
          refine pure_ (i:=7) (N:=some 23) (v:=?_) (a':=?_) #[true,true,true,true,true,false,true,true,false,false,false,false,false] rfl rfl (any_of HT_.out (by kernel_rfl)) (fun _ _ _ h=>h) (Or.inl ⟨by rfl,?_⟩) ?_ ?_;rotate_left
          ·
           intro w';go_simp;with_reducible rfl
          rotate_left
          ·
           simp only [Act.put,List.setIfInBounds_toArray,List.set_cons_zero,List.set_cons_succ,i64_w,i32_w];rfl
          refine pure_ (i:=8) (N:=some 24) (v:=?_) (a':=?_) #[true,true,true,true,true,false,true,true,true,false,false,false,false] rfl rfl (any_of HT_.out (by kernel_rfl)) (fun _ _ _ h=>h) (Or.inl ⟨by rfl,?_⟩) ?_ ?_;rotate_left
          ·
           intro w';go_simp;with_reducible rfl
          rotate_left
          ·
           simp only [Act.put,List.setIfInBounds_toArray,List.set_cons_zero,List.set_cons_succ,i64_w,i32_w];rfl
          refine take_ (i:=5) (N:=some 21) (v:=?_) (a':=?_) #[true,true,true,true,true,true,true,true,true,false,false,false,false] rfl rfl (take_ofW HT_.out HW_.out (by kernel_rfl)) (fun _ _ _ h=>h) (Or.inl ⟨by rfl,?_⟩) hHeld ?_ ?_;rotate_left
          ·
           rintro w' ⟨s0,s1⟩;go_simp;with_reducible rfl
          rotate_left
          ·
           simp only [Act.put,List.setIfInBounds_toArray,List.set_cons_zero,List.set_cons_succ,i64_w,i32_w];rfl
          refine take_ (i:=9) (N:=some 25) (v:=?_) (a':=?_) #[true,true,true,true,true,true,true,true,true,true,false,false,false] rfl rfl (take_ofW HT_.out HW_.out (by kernel_rfl)) (fun _ _ _ h=>h) (Or.inl ⟨by rfl,?_⟩) hHeld ?_ ?_;rotate_left
          ·
           rintro w' ⟨s0,s1⟩;go_simp;with_reducible rfl
          rotate_left
          ·
           simp only [Act.put,List.setIfInBounds_toArray,List.set_cons_zero,List.set_cons_succ,i64_w,i32_w];rfl
          refine pure_ (i:=10) (N:=some 26) (v:=?_) (a':=?_) #[true,true,true,true,true,true,true,true,true,true,true,false,false] rfl rfl (any_of HT_.out (by kernel_rfl)) (fun _ _ _ h=>h) (Or.inl ⟨by rfl,?_⟩) ?_ ?_;rotate_left
          ·
           intro w';go_simp;with_reducible rfl
          rotate_left
          ·
           simp only [Act.put,List.setIfInBounds_toArray,List.set_cons_zero,List.set_cons_succ,i64_w,i32_w];rfl
          refine pure_ (i:=11) (N:=some 27) (v:=?_) (a':=?_) #[true,true,true,true,true,true,true,true,true,true,true,true,false] rfl rfl (any_of HT_.out (by kernel_rfl)) (fun _ _ _ h=>h) (Or.inl ⟨by rfl,?_⟩) ?_ ?_;rotate_left
          ·
           intro w';go_simp;with_reducible rfl
          rotate_left
          ·
           simp only [Act.put,List.setIfInBounds_toArray,List.set_cons_zero,List.set_cons_succ,i64_w,i32_w];rfl
          refine last_ (i:=12) (N:=none) #[true,true,true,true,true,true,true,true,true,true,true,true,true] rfl rfl (one_of HT_.out (by kernel_rfl)) (by decide) (fun K hK=>?_);refine skip_ (w1:=?_) (by rfl) rfl ?_ ?_;rotate_left
          ·
           go_simp;rfl
          refine hK.out _ _ ?_;clear hK K;refine done_ (done_of HT_.out (by kernel_rfl)) ?_;try go_wp2
          go_roundg k1
          case measure=>have:=HK1.out;omega
          case rel=>exact ⟨(y112),(wrap64 (x13_1 + 1)),(by first|rfl|(simp;done)|(simp [*];done)),H',⟨by have:=HK1.out;omega⟩,⟨by (with_reducible repeat (first|apply Kd.R_alloc|apply Kd.R_drewN|apply Kd.R_drew));exact HQ14.out⟩,⟨by repeat (first|(with_reducible first|exact HB.out|apply below_alloc|apply pw_below_drewN|apply below_drew1|refine below_set ?_ GB12.out)|exact HB.out)⟩⟩
         ·
          rw [if_neg c11] at H;exact absurd H (by simp)
        ·
         rw [if_neg c10] at H;exact absurd H (by simp)
       ·
        rw [if_neg c9] at H;exact absurd H (by simp)
      ·
       rw [if_neg c8] at H;exact absurd H (by simp)
     ·
      rw [if_neg c7] at H;have c7b0:decide (x13_1 < (l0.length:Int))=false:=decide_eq_false c7;clear c7;replace H:=Option.bind_eq_some_iff.mp H;obtain ⟨t113,A150,H⟩:=H;(try dsimp only at H);have A15:=mk0 A150;clear A150;simp only [Option.some.injEq,Prod.mk.injEq] at H;obtain ⟨rfl,rfl⟩:=H;obtain ⟨Ao16,co16,eo16⟩:=Kd.R_slice HO_6.out;subst eo16;go_wp2_with (first|((with_reducible refine gate_callee (f:=52) rfl ?_);refine goesL_ (some 31) rfl rfl Try.func52 (by kernel_rfl) rfl #[.slice Ao16 x6_1.length co16,.int .i64 60] rfl (by (try simp only [List.map_toArray,List.map_cons,List.map_nil]);first|done|rfl|(simp only [List.length_drop,List.length_take];rfl)) ?_;(with_reducible refine (count_outside.calls _ _ x6_1 60 t113 _ ?side1 ?side2 A15.out).mono ?_);(case side1=>repeat (first|exact (Kd.R_reads' HO_6.out).2.2|(with_reducible refine Kd.C_alloc ?_ _)|(with_reducible refine Kd.C_drewN ?_ _)|(with_reducible refine Kd.C_drew ?_)));(case side2=>exact (Kd.R_reads' HO_6.out).2.1);rintro e w17 ⟨rfl,hb⟩;refine ⟨_,rfl,?_⟩;replace HO_6:=rbl HO_6 hb;replace HB:=bst HB hb;(try clear hb)));go_ret2;exact ⟨_,by first|rfl|(simp [errW_none,errW_some] <;> rfl)|(simp [*,errW_none,errW_some] <;> rfl),by (with_reducible repeat (first|apply Kd.R_alloc|apply Kd.R_drewN|apply Kd.R_drew));exact HO_6.out,by repeat (first|(with_reducible first|exact HB.out|apply below_alloc|apply pw_below_drewN|apply below_drew1)|exact HB.out)⟩
  ·
   rw [if_neg c4] at H;exact absurd H (by simp)
 ·
  rw [if_neg c3] at H;exact absurd H (by simp)
-- NOT PRINTED: function 112 (count_zero_1)
def ContainsFunc_zero1.f (l0:List Int):Option (Bool):=some (l0.any (fun x=>decide (x ≠ 0)))
set_option maxHeartbeats 1000000 in
theorem ContainsFunc_zero1.calls (A0:Option Addr) (c0:Nat) (l0:List Int) (r:Bool) (w:World) (hr0:Kd.C (Kd.int .i64) w A0 l0.length l0) (hc0:l0.length ≤ c0) (h:ContainsFunc_zero1.f l0=some r) :
    Calls Try.prog 86 #[.slice A0 l0.length c0,.func (.func 112) #[] #[]] w fun e w'=>e=.returned (.bool r)∧Below w.heap.size w w':=by
  obtain rfl:=Option.some.inj h
  have eg:∀ args w,(callFunc 112 args).run Try.prog w=.ok (.enter 112 args) w:=enters_of Try.func112 (by kernel_rfl) rfl
  refine ContainsFunc_int.calls 112 #[] (fun x=>decide (x ≠ 0)) A0 c0 l0 w hr0 hc0 eg (fun W x hb=>?_)
  clear eg hr0
  show Calls Try.prog 112 #[.int .i64 x] W (fun e w'=>e=.returned (.bool (decide (x ≠ 0)))∧Below W.heap.size W w')
  go_enter Try.func112,Try.ntmps112
  go_wp2
  go_ret
  exact ⟨by first|rfl|(by_cases hx:x=0 <;> simp [hx]),Below.refl _ _⟩
def count_zero.f (l0:List Int):Option (Bool):=(ContainsFunc_zero1.f l0).bind fun t114=>(some (!t114))
set_option maxHeartbeats 8000000 in
set_option maxRecDepth 100000 in
theorem count_zero.calls (A0:Option Addr) (c0:Nat) (l0:List Int) (r:Bool) (w:World) (hr0:Kd.C (Kd.int .i64) w A0 l0.length l0) (hc0:l0.length ≤ c0) (h:count_zero.f l0=some r) :
    Calls Try.prog 105 #[.slice A0 l0.length c0] w fun e w'=>e=.returned (.bool r)∧Below w.heap.size w w':=by
 have HR0:=mk0 hr0;have HC0:=mk0 hc0;clear hr0 hc0;have HB:=mk0 (Below.refl w.heap.size w);have H:((ContainsFunc_zero1.f l0).bind fun t114=>(some (!t114)))=some r:=h;clear h;replace H:=Option.bind_eq_some_iff.mp H;obtain ⟨t114,A20,H⟩:=H;(try dsimp only at H);have A2:=mk0 A20;clear A20;obtain rfl:=Option.some.inj H;go_enter Try.func105,Try.ntmps105;go_wp2_with (first|((with_reducible refine gate_callee (f:=86) rfl ?_);refine goesL_ (some 4) rfl rfl Try.func86 (by kernel_rfl) rfl #[.slice A0 l0.length c0,.func (.func 112) #[] #[]] rfl (by (try simp only [List.map_toArray,List.map_cons,List.map_nil]);first|done|rfl|(simp only [List.length_drop,List.length_take];rfl)) ?_;(with_reducible refine (ContainsFunc_zero1.calls _ _ l0 t114 _ ?side1 ?side2 A2.out).mono ?_);(case side1=>repeat (first|exact HR0.out|(with_reducible refine Kd.C_alloc ?_ _)|(with_reducible refine Kd.C_drewN ?_ _)|(with_reducible refine Kd.C_drew ?_)));(case side2=>exact HC0.out);rintro e w3 ⟨rfl,hb⟩;refine ⟨_,rfl,?_⟩;replace HB:=bst HB hb;(try clear hb)));go_ret;exact ⟨by first|rfl|(simp [errW_none,errW_some] <;> rfl)|(simp [*,errW_none,errW_some] <;> rfl),by repeat (first|(with_reducible first|exact HB.out|apply below_alloc|apply pw_below_drewN|apply below_drew1)|exact HB.out)⟩
mutual
def count_made.l0:Nat → List Int → List (List Int) → Bool → Option (Bool)
  | 0,_,_,_=>none
  | k + 1,x0,x1,x5=>if x5=true then (if 1 ≤ (x1.length:Int) then ((count_made.f k x0 (x1.drop 1)).bind fun t120=>(if t120=true then (some true) else (if 0 < (x1.length:Int) then ((count_less.f k x0 (rd_L1 x1 0)).bind fun bt122=>(count_made.l0 k bt122.1 x1 bt122.2)) else (none)))) else (none)) else (some false)
def count_made.f:Nat → List Int → List (List Int) → Option (Bool)
  | 0,_,_=>none
  | k + 1,l0,l1=>(count_zero.f l0).bind fun t115=>(if t115=true then (some true) else (if (l1.length:Int)=0 then (some false) else (count_made.l0 k l0 l1 true)))
end
theorem count_made.mono_l:∀ k,(∀ y0 y1,LeO (count_made.f k y0 y1) (count_made.f (k + 1) y0 y1))∧(∀ y0 y1 y2,LeO (count_made.l0 k y0 y1 y2) (count_made.l0 (k + 1) y0 y1 y2))
  | 0=>⟨fun _ _ r h=>by simp [count_made.f] at h,fun _ _ _ r h=>by simp [count_made.l0] at h⟩
  | k + 1=>by
    obtain ⟨ih0,ih1⟩:=count_made.mono_l k
    refine ⟨?_,?_⟩
    · intro y0 y1
      unfold count_made.f
      with_reducible repeat' first|exact ih0 _ _|exact ih1 _ _ _|exact count_less.mono _ _ _|exact LeO.refl _|exact LeO.none _|refine LeO.ite ?_ ?_|refine LeO.bind ?_ (fun _=>?_)
    · intro y0 y1 y2
      unfold count_made.l0
      with_reducible repeat' first|exact ih0 _ _|exact ih1 _ _ _|exact count_less.mono _ _ _|exact LeO.refl _|exact LeO.none _|refine LeO.ite ?_ ?_|refine LeO.bind ?_ (fun _=>?_)
theorem count_made.mono:∀ a0 a1 k,LeO (count_made.f k a0 a1) (count_made.f (k + 1) a0 a1):=by
  intro a0 a1 k
  obtain ⟨ih0,ih1⟩:=count_made.mono_l k
  exact ih0 a0 a1
set_option maxHeartbeats 8000000 in
set_option maxRecDepth 100000 in
theorem count_made.calls (k:Nat):∀ (P0_:Nat → Prop) (A0:Option Addr) (c0:Nat) (l0:List Int) (A1:Option Addr) (c1:Nat) (l1:List (List Int)) (r:Bool) (w:World) (hs0:Kd.V (Kd.int .i64) 3 w w.heap.size (fun k_=>P0_ k_) (.slice A0 l0.length c0) l0) (hr1:Kd.C (Kd.slice 3 (Kd.int .i64)) w A1 l1.length l1) (hc1:l1.length ≤ c1) (h:count_made.f k l0 l1=some r),
    Calls Try.prog 102 #[.slice A0 l0.length c0,.slice A1 l1.length c1] w fun e w'=>e=.returned (.bool r)∧Below w.heap.size w w':=by
 induction k using Nat.strongRecOn with
 | _ k ih =>
 intro P0_ A0 c0 l0 A1 c1 l1 r w hs0 hr1 hc1 h;cases k with
 | zero=>exact absurd h (by simp [count_made.f])
 | succ k =>
 simp only [count_made.f] at h;have HO0:=mk0 (show Kd.V (Kd.int .i64) 3 w w.heap.size (fun k_=>(P0_ k_ ∨ w.heap.size ≤ k_)) (.slice A0 l0.length c0) l0 from Kd.V_mono hs0 (fun k_ hk=>.inl hk));have HR1:=mk0 hr1;have HC1:=mk0 hc1;clear hr1 hc1;have HB:=mk0 (Below.refl w.heap.size w);have H:((count_zero.f l0).bind fun t115=>(if t115=true then (some true) else (if (l1.length:Int)=0 then (some false) else (count_made.l0 k l0 l1 true))))=some r:=h;clear h;replace H:=Option.bind_eq_some_iff.mp H;obtain ⟨t115,A30,H⟩:=H;(try dsimp only at H);have A3:=mk0 A30;clear A30
 by_cases c4:t115=true
 ·
  subst c4;have H1:(some true)=some r:=by rw [if_pos rfl] at H;exact H
  clear H;have H:=H1;clear H1;obtain rfl:=Option.some.inj H;go_enter Try.func102,Try.ntmps102;go_wp2_with (first|((with_reducible refine gate_callee (f:=105) rfl ?_);refine goesL_ (some 7) rfl rfl Try.func105 (by kernel_rfl) rfl #[.slice A0 l0.length c0] rfl (by (try simp only [List.map_toArray,List.map_cons,List.map_nil]);first|done|rfl|(simp only [List.length_drop,List.length_take];rfl)) ?_;(with_reducible refine (count_zero.calls _ _ l0 true _ ?side1 ?side2 A3.out).mono ?_);(case side1=>repeat (first|exact (Kd.V_reads' HO0.out).2.2|(with_reducible refine Kd.C_alloc ?_ _)|(with_reducible refine Kd.C_drewN ?_ _)|(with_reducible refine Kd.C_drew ?_)));(case side2=>exact (Kd.V_reads' HO0.out).2.1);rintro e w5 ⟨rfl,hb⟩;refine ⟨_,rfl,?_⟩;replace HO0:=mk0 (Kd.V_below HO0.out hb);replace HB:=bst HB hb;(try clear hb)));go_ret;exact ⟨by first|rfl|(simp [errW_none,errW_some] <;> rfl)|(simp [*,errW_none,errW_some] <;> rfl),by repeat (first|(with_reducible first|exact HB.out|apply below_alloc|apply pw_below_drewN|apply below_drew1)|exact HB.out)⟩
 ·
  replace c4:=Bool.eq_false_iff.mpr c4;subst c4;have H1:(if (l1.length:Int)=0 then (some false) else (count_made.l0 k l0 l1 true))=some r:=by rw [if_neg (show ¬ (false=true) by decide)] at H;exact H
  clear H;have H:=H1;clear H1
  by_cases c6:(l1.length:Int)=0
  ·
   rw [if_pos c6] at H;have c6b0:((l1.length:Int) == 0)=true:=beq_iff_eq.mpr c6;have c6b1:((l1.length:Int) != 0)=false:=bne_eq_false_iff_eq.mpr c6;clear c6;obtain rfl:=Option.some.inj H;go_enter Try.func102,Try.ntmps102;go_wp2_with (first|((with_reducible refine gate_callee (f:=105) rfl ?_);refine goesL_ (some 7) rfl rfl Try.func105 (by kernel_rfl) rfl #[.slice A0 l0.length c0] rfl (by (try simp only [List.map_toArray,List.map_cons,List.map_nil]);first|done|rfl|(simp only [List.length_drop,List.length_take];rfl)) ?_;(with_reducible refine (count_zero.calls _ _ l0 false _ ?side1 ?side2 A3.out).mono ?_);(case side1=>repeat (first|exact (Kd.V_reads' HO0.out).2.2|(with_reducible refine Kd.C_alloc ?_ _)|(with_reducible refine Kd.C_drewN ?_ _)|(with_reducible refine Kd.C_drew ?_)));(case side2=>exact (Kd.V_reads' HO0.out).2.1);rintro e w7 ⟨rfl,hb⟩;refine ⟨_,rfl,?_⟩;replace HO0:=mk0 (Kd.V_below HO0.out hb);replace HB:=bst HB hb;(try clear hb)));go_ret;exact ⟨by first|rfl|(simp [errW_none,errW_some] <;> rfl)|(simp [*,errW_none,errW_some] <;> rfl),by repeat (first|(with_reducible first|exact HB.out|apply below_alloc|apply pw_below_drewN|apply below_drew1)|exact HB.out)⟩
  ·
   rw [if_neg c6] at H;have c6b0:((l1.length:Int) == 0)=false:=beq_eq_false_iff_ne.mpr c6;have c6b1:((l1.length:Int) != 0)=true:=bne_iff_ne.mpr c6;have c6b2:¬ (l1=[]):=fun h_=>c6 (by rw [h_];rfl);have H':=mk0 H;clear H;go_enter Try.func102,Try.ntmps102;go_wp2_with (first|((with_reducible refine gate_callee (f:=105) rfl ?_);refine goesL_ (some 7) rfl rfl Try.func105 (by kernel_rfl) rfl #[.slice A0 l0.length c0] rfl (by (try simp only [List.map_toArray,List.map_cons,List.map_nil]);first|done|rfl|(simp only [List.length_drop,List.length_take];rfl)) ?_;(with_reducible refine (count_zero.calls _ _ l0 false _ ?side1 ?side2 A3.out).mono ?_);(case side1=>repeat (first|exact (Kd.V_reads' HO0.out).2.2|(with_reducible refine Kd.C_alloc ?_ _)|(with_reducible refine Kd.C_drewN ?_ _)|(with_reducible refine Kd.C_drew ?_)));(case side2=>exact (Kd.V_reads' HO0.out).2.1);rintro e w8 ⟨rfl,hb⟩;refine ⟨_,rfl,?_⟩;replace HO0:=mk0 (Kd.V_below HO0.out hb);replace HB:=bst HB hb;(try clear hb)))
   go_loopg [0,5] k (fun kq v0 v5 w'=>∃ (x0_1:List Int) (x5_1:Bool),v5=.bool x5_1∧Aside0 (count_made.l0 kq x0_1 l1 x5_1=some r)∧Aside0 (kq ≤ k)∧Aside0 (Kd.V (Kd.int .i64) 3 w' w.heap.size (fun k_=>(P0_ k_ ∨ w.heap.size ≤ k_)) v0 x0_1)∧Aside0 (Below w.heap.size w w'))
   case atStart=>exact ⟨(l0),(true),(by first|rfl|(simp;done)|(simp [*];done)),H',⟨Nat.le_refl _⟩,⟨by (with_reducible repeat (first|apply Kd.V_alloc|apply Kd.V_drewN|apply Kd.V_drew));exact HO0.out⟩,⟨by repeat (first|(with_reducible first|exact HB.out|apply below_alloc|apply pw_below_drewN|apply below_drew1)|exact HB.out)⟩⟩
   case round =>
    clear H';try clear c1
    try clear p2
    try clear c4
    try clear c6
    try clear c6b0
    try clear c6b1
    try clear c6b2
    obtain ⟨x0_1,x5_1,rfl,HA,HK1,HO_0,HB⟩:=hrel;cases gk with
    | zero=>exact absurd HA.out (by simp [count_made.l0])
    | succ k1 =>
     have H:=HA.out;clear HA;simp only [count_made.l0] at H
     by_cases c9:x5_1=true
     ·
      subst c9;have H1:(if 1 ≤ (l1.length:Int) then ((count_made.f k1 x0_1 (l1.drop 1)).bind fun t120=>(if t120=true then (some true) else (if 0 < (l1.length:Int) then ((count_less.f k1 x0_1 (rd_L1 l1 0)).bind fun bt122=>(count_made.l0 k1 bt122.1 l1 bt122.2)) else (none)))) else (none))=some r:=by rw [if_pos rfl] at H;exact H
      clear H;have H:=H1;clear H1
      by_cases c10:1 ≤ (l1.length:Int)
      ·
       rw [if_pos c10] at H;have c10b0:=eq_true c10;have c10b1:decide (1 ≤ (l1.length:Int))=true:=decide_eq_true c10;clear c10;obtain ⟨y116,hy116⟩:∃ y_:List (List Int),y_=(l1.drop 1):=⟨_,rfl⟩
       replace H:((count_made.f k1 x0_1 y116).bind fun t120=>(if t120=true then (some true) else (if 0 < (l1.length:Int) then ((count_less.f k1 x0_1 (rd_L1 l1 0)).bind fun bt122=>(count_made.l0 k1 bt122.1 l1 bt122.2)) else (none))))=some r:=by first|(rw [hy116];with_reducible exact H)|(have H2_:=(Option.bind_some _ _).symm.trans H;rw [hy116];with_reducible exact H2_)|(have H2_:=(Option.bind_some _ _).symm.trans H;with_reducible exact H2_)|with_reducible exact H|(rw [hy116];exact H)|exact H
       have Ny116:=mk0 hy116;clear hy116;replace H:=Option.bind_eq_some_iff.mp H;obtain ⟨t120,A110,H⟩:=H;(try dsimp only at H);have A11:=mk0 A110;clear A110
       by_cases c12:t120=true
       ·
        subst c12;have H1:(some true)=some r:=by rw [if_pos rfl] at H;exact H
        clear H;have H:=H1;clear H1;obtain rfl:=Option.some.inj H;have q13:(1:Int) ≤ ((l1.length:Int):Int):=of_decide_eq_true (by first|(with_reducible assumption)|assumption);obtain ⟨i013,hi013,_,hsz13,_⟩:=info_parts info23;have hroom13:l1.length ≤ c1:=HC1.out;have hC13:Kd.C (Kd.slice 3 (Kd.int .i64)) _ A1 l1.length l1:=HR1.out;have hcut13:=cut_from (P:=Try.prog) 58 23 .i64 Try.underlying58 hi013 1 hsz13 A1 l1.length c1 1 (by omega) q13;have hr13:=Kd.C_drop (m:=(1:Int).toNat) (c:=c1) hC13 (by omega) hroom13;obtain ⟨A13,hA13⟩:∃ AA,AA=(if c1=(1:Int).toNat then A1 else (A1:Option Addr).map (·.add ((1:Int).toNat * 1))):=⟨_,rfl⟩
        obtain ⟨c13,hc13⟩:∃ cc,cc=c1 - (1:Int).toNat:=⟨_,rfl⟩
        have hy13:y116.length=l1.length - (1:Int).toNat:=(by rw [Ny116.out,List.length_drop] <;> omega)
        rw [show (l1).drop (1:Int).toNat=y116 from Ny116.out.symm] at hr13;replace hr13:Kd.C (Kd.slice 3 (Kd.int .i64)) _ A13 y116.length y116:=(by rw [hA13];exact hr13)
        rw [← hy13,← hA13,← hc13] at hcut13;have HR119:=mk0 hr13;have HC119:=mk0 (show y116.length ≤ c13 from by rw [hy13,hc13];exact Nat.sub_le_sub_right hroom13 _);clear hr13 hC13 hroom13 hi013 hsz13 hc13;have KY13:=mk0 hy13;have KA13:=mk0 hA13;clear hy13 hA13;replace q13:=eq_true q13;obtain ⟨Ao14,co14,eo14⟩:=Kd.V_slice HO_0.out;subst eo14;go_wp2_with (first|((with_reducible refine gate_callee (f:=102) rfl ?_);refine goesL_ (some 23) rfl rfl Try.func102 (by kernel_rfl) rfl #[.slice Ao14 x0_1.length co14,.slice A13 y116.length c13] rfl (by (try simp only [List.map_toArray,List.map_cons,List.map_nil]);first|done|rfl|(simp only [List.length_drop,List.length_take];rfl)) ?_;(with_reducible refine (ih k1 (by have:=HK1.out;omega) (fun k_=>(P0_ k_ ∨ w.heap.size ≤ k_)) _ _ x0_1 _ _ y116 true _ ?side1 ?side2 ?side3 A11.out).mono ?_);(case side1=>exact HO_0.out);(case side2=>repeat (first|exact (Kd.C_below HR119.out HB.out)|(with_reducible refine Kd.C_alloc ?_ _)|(with_reducible refine Kd.C_drewN ?_ _)|(with_reducible refine Kd.C_drew ?_)));(case side3=>exact HC119.out);rintro e w15 ⟨rfl,hb⟩;refine ⟨_,rfl,?_⟩;replace HO_0:=mk0 (Kd.V_below HO_0.out hb);replace HB:=bst HB hb;(try clear hb)));go_ret;exact ⟨by first|rfl|(simp [errW_none,errW_some] <;> rfl)|(simp [*,errW_none,errW_some] <;> rfl),by repeat (first|(with_reducible first|exact HB.out|apply below_alloc|apply pw_below_drewN|apply below_drew1)|exact HB.out)⟩
       ·
        replace c12:=Bool.eq_false_iff.mpr c12;subst c12;have H1:(if 0 < (l1.length:Int) then ((count_less.f k1 x0_1 (rd_L1 l1 0)).bind fun bt122=>(count_made.l0 k1 bt122.1 l1 bt122.2)) else (none))=some r:=by rw [if_neg (show ¬ (false=true) by decide)] at H;exact H
        clear H;have H:=H1;clear H1
        by_cases c16:0 < (l1.length:Int)
        ·
         rw [if_pos c16] at H;have c16b0:decide (0 < (l1.length:Int))=true:=decide_eq_true c16;have c16b1:decide (0 < l1.length)=true:=decide_eq_true (by omega);clear c16;replace H:=Option.bind_eq_some_iff.mp H;obtain ⟨⟨t122,t123⟩,A170,H⟩:=H;(try dsimp only at H);have A17:=mk0 A170;clear A170;have H':=mk0 H;clear H;have q18:(1:Int) ≤ ((l1.length:Int):Int):=of_decide_eq_true (by first|(with_reducible assumption)|assumption);obtain ⟨i018,hi018,_,hsz18,_⟩:=info_parts info23;have hroom18:l1.length ≤ c1:=HC1.out;have hC18:Kd.C (Kd.slice 3 (Kd.int .i64)) _ A1 l1.length l1:=HR1.out;have hcut18:=cut_from (P:=Try.prog) 58 23 .i64 Try.underlying58 hi018 1 hsz18 A1 l1.length c1 1 (by omega) q18;have hr18:=Kd.C_drop (m:=(1:Int).toNat) (c:=c1) hC18 (by omega) hroom18;obtain ⟨A18,hA18⟩:∃ AA,AA=(if c1=(1:Int).toNat then A1 else (A1:Option Addr).map (·.add ((1:Int).toNat * 1))):=⟨_,rfl⟩
         obtain ⟨c18,hc18⟩:∃ cc,cc=c1 - (1:Int).toNat:=⟨_,rfl⟩
         have hy18:y116.length=l1.length - (1:Int).toNat:=(by rw [Ny116.out,List.length_drop] <;> omega)
         rw [show (l1).drop (1:Int).toNat=y116 from Ny116.out.symm] at hr18;replace hr18:Kd.C (Kd.slice 3 (Kd.int .i64)) _ A18 y116.length y116:=(by rw [hA18];exact hr18)
         rw [← hy18,← hA18,← hc18] at hcut18;have HR119:=mk0 hr18;have HC119:=mk0 (show y116.length ≤ c18 from by rw [hy18,hc18];exact Nat.sub_le_sub_right hroom18 _);clear hr18 hC18 hroom18 hi018 hsz18 hc18;have KY18:=mk0 hy18;have KA18:=mk0 hA18;clear hy18 hA18;replace q18:=eq_true q18;obtain ⟨Ao19,co19,eo19⟩:=Kd.V_slice HO_0.out;subst eo19;go_wp2_with (first|((with_reducible refine gate_callee (f:=102) rfl ?_);refine goesL_ (some 23) rfl rfl Try.func102 (by kernel_rfl) rfl #[.slice Ao19 x0_1.length co19,.slice A18 y116.length c18] rfl (by (try simp only [List.map_toArray,List.map_cons,List.map_nil]);first|done|rfl|(simp only [List.length_drop,List.length_take];rfl)) ?_;(with_reducible refine (ih k1 (by have:=HK1.out;omega) (fun k_=>(P0_ k_ ∨ w.heap.size ≤ k_)) _ _ x0_1 _ _ y116 false _ ?side1 ?side2 ?side3 A11.out).mono ?_);(case side1=>exact HO_0.out);(case side2=>repeat (first|exact (Kd.C_below HR119.out HB.out)|(with_reducible refine Kd.C_alloc ?_ _)|(with_reducible refine Kd.C_drewN ?_ _)|(with_reducible refine Kd.C_drew ?_)));(case side3=>exact HC119.out);rintro e w20 ⟨rfl,hb⟩;refine ⟨_,rfl,?_⟩;replace HO_0:=mk0 (Kd.V_below HO_0.out hb);replace HB:=bst HB hb;(try clear hb);have p121:0 ≤ (0:Int):=(by omega);have q121:0 < (l1.length:Int):=of_decide_eq_true (by first|(with_reducible assumption)|assumption);obtain ⟨ad121,A121_0,c121_0,e121,hx121_0,hl121_0,hi121_0⟩:=at_L1 HR1.out 0 p121 q121;cases e121;have qi121:(0 < l1.length)=True:=eq_true (by omega);(try rw [show ((0:Int)).toNat=0 from rfl] at hx121_0);(try rw [Addr.add_zero'] at hx121_0);replace hx121_0:=(HB.out.cell (World.block_lt_of_cell? w _ hx121_0)).trans hx121_0;have HR121_0:=mk0 hi121_0;have HC121_0:=mk0 hl121_0;clear hi121_0 hl121_0;replace p121:=eq_true p121;replace q121:=eq_true q121)|((with_reducible refine gate_callee (f:=101) rfl ?_);refine goesL_ (some 17) rfl rfl Try.func101 (by kernel_rfl) rfl #[.slice Ao19 x0_1.length co19,.slice A121_0 (rd_L1 l1 0).length c121_0] rfl (by (try simp only [List.map_toArray,List.map_cons,List.map_nil]);first|done|rfl|(simp only [List.length_drop,List.length_take];rfl)) ?_;(with_reducible refine (count_less.calls k1 _ _ x0_1 _ _ (rd_L1 l1 0) t122 t123 _ ?side1 ?side2 ?side3 ?side4 A17.out).mono ?_);(case side1=>repeat (first|exact (Kd.V_reads' HO_0.out).2.2|(with_reducible refine Kd.C_alloc ?_ _)|(with_reducible refine Kd.C_drewN ?_ _)|(with_reducible refine Kd.C_drew ?_)));(case side2=>exact (Kd.V_reads' HO_0.out).2.1);(case side3=>repeat (first|exact (Kd.C_below HR121_0.out HB.out)|(with_reducible refine Kd.C_alloc ?_ _)|(with_reducible refine Kd.C_drewN ?_ _)|(with_reducible refine Kd.C_drew ?_)));(case side4=>exact HC121_0.out);rintro e w21 ⟨v124,rfl,ho0,hb⟩;refine ⟨_,rfl,?_⟩;have HO125:=mk0 (Kd.R_lower (Kd.R_newM (M:=fun k_=>(w.heap.size ≤ k_)) ho0 (below_size HB.out) (fun k_ h_=>h_)) (below_size HB.out));replace HO_0:=mk0 (Kd.V_elder' HO_0.out (Kd.R_base ho0) hb);replace HB:=bst HB hb;(try clear hb);(try clear ho0)));go_roundg k1
         case measure=>have:=HK1.out;omega
         case rel=>exact ⟨(t122),(t123),(by first|rfl|(simp;done)|(simp [*];done)),H',⟨by have:=HK1.out;omega⟩,⟨Kd.V_mono (Kd.R_V (by (with_reducible repeat (first|apply Kd.R_alloc|apply Kd.R_drewN|apply Kd.R_drew));exact Kd.R_mono HO125.out (fun _ hk=>hk.1))) (fun k_ hk=>by first|exact ⟨(.inr (hk.1)),hk.2⟩|exact (.inr (hk)))⟩,⟨by repeat (first|(with_reducible first|exact HB.out|apply below_alloc|apply pw_below_drewN|apply below_drew1)|exact HB.out)⟩⟩
        ·
         rw [if_neg c16] at H;exact absurd H (by simp)
      ·
       rw [if_neg c10] at H;exact absurd H (by simp)
     ·
      replace c9:=Bool.eq_false_iff.mpr c9;subst c9;have H1:(some false)=some r:=by rw [if_neg (show ¬ (false=true) by decide)] at H;exact H
      clear H;have H:=H1;clear H1;obtain rfl:=Option.some.inj H;go_wp2;go_ret;exact ⟨by first|rfl|(simp [errW_none,errW_some] <;> rfl)|(simp [*,errW_none,errW_some] <;> rfl),by repeat (first|(with_reducible first|exact HB.out|apply below_alloc|apply pw_below_drewN|apply below_drew1)|exact HB.out)⟩
def TellsR (g:Nat) (lb:Array Value) (p:List Int → Bool) (K:World → Prop):Prop :=
  ∀ (W:World) (A:Option Addr) (c:Nat) (l:List Int),K W → Kd.C (Kd.int .i64) W A l.length l → l.length ≤ c → Calls Try.prog g (#[.slice A l.length c] ++ lb) W fun e w'=>e=.returned (.bool (p l))∧Below W.heap.size W w'
def idxR (p:List Int → Bool) (l:List (List Int)):Int:=match l.findIdx? p with|some i=>(i:Int)|none=>-1
theorem idxR_some (p:List Int → Bool) (l:List (List Int)) (k:Nat) (hk:k < l.length) (h:p (rd_L1 l (k:Int))=true) (hb:∀ j,j < k → p (rd_L1 l (j:Int))=false):idxR p l=(k:Int):=by
  have:l.findIdx? p=some k:=by
    rw [List.findIdx?_eq_some_iff_getElem]
    refine ⟨hk,?_,fun j hj=>?_⟩
    · simpa [rd_L1,List.getD_eq_getElem?_getD,List.getElem?_eq_getElem hk] using h
    · have hjl:j < l.length:=by omega
      have:=hb j hj
      simpa [rd_L1,List.getD_eq_getElem?_getD,List.getElem?_eq_getElem hjl] using this
  simp [idxR,this]
theorem idxR_none (p:List Int → Bool) (l:List (List Int)) (hb:∀ j,j < l.length → p (rd_L1 l (j:Int))=false):idxR p l=-1:=by
  have:l.findIdx? p=none:=by
    rw [List.findIdx?_eq_none_iff]
    intro x hx
    obtain ⟨j,hj,rfl⟩:=List.getElem_of_mem hx
    have:=hb j hj
    simpa [rd_L1,List.getD_eq_getElem?_getD,List.getElem?_eq_getElem hj] using this
  simp [idxR,this]
theorem idxR_some' (p:List Int → Bool) (l:List (List Int)) (i:Int) (h0:0 ≤ i) (h1:i < (l.length:Int)) (h:p (rd_L1 l i)=true) (hb:∀ j,j < i.toNat → p (rd_L1 l (j:Int))=false):idxR p l=i:=by
  obtain ⟨k,rfl⟩:=Int.eq_ofNat_of_zero_le h0
  exact idxR_some p l k (by omega) h (by simpa using hb)
def SofarR (p:List Int → Bool) (l:List (List Int)) (k:Nat):Prop:=∀ j,j < k → p (rd_L1 l (j:Int))=false
theorem SofarR.zero (p:List Int → Bool) (l:List (List Int)):SofarR p l 0:=fun j hj=>absurd hj (by omega)
theorem SofarR.succ {p:List Int → Bool} {l:List (List Int)} {k:Nat} (h:SofarR p l k) (hk:p (rd_L1 l (k:Int))=false):SofarR p l (k + 1):=fun j hj=>by
  by_cases e:j=k
  · subst e;exact hk
  · exact h j (by omega)
set_option maxHeartbeats 1000000 in
set_option maxRecDepth 100000 in
theorem IndexFunc_rows.calls (g:Nat) (lb:Array Value) (p:List Int → Bool) (K:World → Prop) (A0:Option Addr) (c0:Nat) (l0:List (List Int)) (w:World) (hr0:Kd.C (Kd.slice 3 (Kd.int .i64)) w A0 l0.length l0) (hc0:l0.length ≤ c0)
    (eg:∀ args w,(callFunc g args).run Try.prog w=.ok (.enter g args) w) (hp:TellsR g lb p K) (hK:K w) (hKB:∀ W W',K W → Below W.heap.size W W' → K W') :
    Calls Try.prog 111 #[.slice A0 l0.length c0,.func (.func g) #[] lb] w fun e w'=>e=.returned (.int .i64 (idxR p l0))∧Below w.heap.size w w':=by
  have HR0:=Aside0.mk hr0
  have hlen:l0.length ≤ 9223372036854775807:=hr0.2.1
  clear hr0 hc0
  have HP:=Aside0.mk hp
  have HK:=Aside0.mk (fun W=>hKB w W hK)
  clear hp hK hKB
  go_enter Try.func111,Try.ntmps111
  go_wp2
  go_loopw [8] (fun v8 w'=>∃ i:Int,v8=.int .i64 i∧Aside0 (0 ≤ i∧i ≤ l0.length)∧Aside0 (SofarR p l0 i.toNat)∧Aside0 (Below w.heap.size w w')) (fun v8 _=>l0.length - (intOf v8).toNat)
  case atStart=>exact ⟨0,rfl,⟨by omega,by omega⟩,⟨SofarR.zero _ _⟩,⟨Below.refl _ _⟩⟩
  case round =>
    obtain ⟨i,rfl,HI,HS,HB⟩:=hrel
    by_cases hlt:i < (l0.length:Int)
    · have p1:0 ≤ i:=HI.out.1
      obtain ⟨ad,A1,c1,e,hx,hl,hi⟩:=at_L1 HR0.out i p1 hlt
      cases e
      replace hx:=(HB.out.cell (World.block_lt_of_cell? w _ hx)).trans hx
      have HQ:=Aside0.mk (HP.out _ A1 c1 _ (HK.out _ HB.out) (Kd.C_below hi HB.out) hl)
      clear hi hl
      have hd:decide (i < (l0.length:Int))=true:=decide_eq_true hlt
      replace p1:=eq_true p1
      replace hlt:=eq_true hlt
      have hw:wrap64 (i + 1)=i + 1:=by have:=HI.out;have h:=of_eq_true hlt;unfold wrap64;omega
      have HW:=Aside0.mk hw
      clear hw
      by_cases hb:p (rd_L1 l0 i)=true
      · have HF:=Aside0.mk (idxR_some' p l0 i (of_eq_true p1) (of_eq_true hlt) hb HS.out)
        have HT:=Aside0.mk hb
        clear hb
        go_wp2_with (fail)
        refine HQ.out.mono ?_
        rintro e w1 ⟨rfl,hb1⟩
        rw [HT.out]
        have HB1:=Aside0.mk hb1
        clear hb1
        go_wp2
        go_ret
        exact ⟨by first|(rw [HF.out];done)|(rw [HF.out];rfl),HB.out.trans (HB1.out.mono HB.out.size)⟩
      · have HT:=Aside0.mk (Bool.eq_false_iff.mpr hb)
        clear hb
        go_wp2_with (fail)
        refine HQ.out.mono ?_
        rintro e w1 ⟨rfl,hb1⟩
        rw [HT.out]
        have HB1:=Aside0.mk hb1
        clear hb1
        go_wp2
        go_roundw
        case rel=>exact ⟨_,rfl,⟨by rw [HW.out];have:=HI.out;have:=of_eq_true hlt;omega⟩,⟨by rw [HW.out];have:=HI.out;rw [show (i + 1).toNat=i.toNat + 1 by omega];exact HS.out.succ (by rw [Int.toNat_of_nonneg this.1];exact HT.out)⟩,⟨HB.out.trans (HB1.out.mono HB.out.size)⟩⟩
        case measure=>simp only [intOf];have:=HW.out;have:=HI.out;have:=of_eq_true hlt;omega
    · have hd:decide (i < (l0.length:Int))=false:=decide_eq_false hlt
      have HF:=Aside0.mk (idxR_none p l0 (fun j hj=>HS.out j (by have:=HI.out;omega)))
      clear hlt
      go_wp2
      go_ret
      exact ⟨by first|(rw [HF.out];done)|(rw [HF.out];rfl),HB.out⟩
def DelInvR (p:List Int → Bool) (l xs:List (List Int)) (i j:Nat):Prop:=xs.length=l.length∧i < j∧j ≤ l.length∧xs.take i=(l.take j).filter (fun x=>!p x)∧xs.drop j=l.drop j
theorem DelInvR.read {p:List Int → Bool} {l xs:List (List Int)} {i j:Nat} (h:DelInvR p l xs i j) (hj:j < l.length):rd_L1 xs (j:Int)=rd_L1 l (j:Int):=by
  obtain ⟨h1,_,_,_,h5⟩:=h
  have hx:j < xs.length:=by omega
  have e:xs[j]?=l[j]?:=by
    have:=congrArg (fun z=>z[0]?) h5
    simpa [List.getElem?_drop] using this
  simp only [rd_L1,List.getD_eq_getElem?_getD,Int.toNat_natCast,e]
theorem DelInvR.skip {p:List Int → Bool} {l xs:List (List Int)} {i j:Nat} (h:DelInvR p l xs i j) (hj:j < l.length) (hp:p (rd_L1 l (j:Int))=true):DelInvR p l xs i (j + 1):=by
  obtain ⟨h1,h2,h3,h4,h5⟩:=h
  have e:l[j]?=some (rd_L1 l (j:Int)):=by simp [rd_L1,List.getD_eq_getElem?_getD,List.getElem?_eq_getElem hj]
  refine ⟨h1,by omega,by omega,?_,?_⟩
  · rw [List.take_add_one,e,List.filter_append,h4]
    simp [hp]
  · have:=congrArg (List.drop 1) h5
    simpa [List.drop_drop,Nat.add_comm] using this
theorem DelInvR.keep {p:List Int → Bool} {l xs:List (List Int)} {i j:Nat} (h:DelInvR p l xs i j) (hj:j < l.length) (hp:p (rd_L1 l (j:Int))=false):DelInvR p l (xs.set i (rd_L1 l (j:Int))) (i + 1) (j + 1):=by
  obtain ⟨h1,h2,h3,h4,h5⟩:=h
  have e:l[j]?=some (rd_L1 l (j:Int)):=by simp [rd_L1,List.getD_eq_getElem?_getD,List.getElem?_eq_getElem hj]
  refine ⟨by simpa using h1,by omega,by omega,?_,?_⟩
  · have hi:i < xs.length:=by omega
    have el:l.take (j + 1)=l.take j ++ [rd_L1 l (j:Int)]:=by rw [List.take_add_one,e];rfl
    rw [el,List.filter_append,← h4,List.take_add_one,List.take_set_of_le (Nat.le_refl _)]
    simp [hp,hi]
  · rw [List.drop_set_of_lt (by omega)]
    have:=congrArg (List.drop 1) h5
    simpa [List.drop_drop,Nat.add_comm] using this
theorem DelInvR.start {p:List Int → Bool} {l:List (List Int)} {k:Nat} (hk:k < l.length) (hp:p (rd_L1 l (k:Int))=true) (hb:∀ j,j < k → p (rd_L1 l (j:Int))=false):DelInvR p l l k (k + 1):=by
  have e:l[k]?=some (rd_L1 l (k:Int)):=by simp [rd_L1,List.getD_eq_getElem?_getD,List.getElem?_eq_getElem hk]
  refine ⟨rfl,by omega,by omega,?_,rfl⟩
  rw [List.take_add_one,e,List.filter_append]
  have:(l.take k).filter (fun x=>!p x)=l.take k:=by
    rw [List.filter_eq_self]
    intro x hx
    obtain ⟨j,hj,rfl⟩:=List.getElem_of_mem hx
    have hj2:j < k:=by have:=hj;simp at this;omega
    have:=hb j hj2
    simpa [rd_L1,List.getD_eq_getElem?_getD,List.getElem?_eq_getElem (show j < l.length by omega)] using this
  rw [this]
  simp [hp]
theorem idxR_cases (p:List Int → Bool) (l:List (List Int)):(idxR p l=-1∧∀ j,j < l.length → p (rd_L1 l (j:Int))=false) ∨ ∃ k,k < l.length∧idxR p l=(k:Int)∧p (rd_L1 l (k:Int))=true∧∀ j,j < k → p (rd_L1 l (j:Int))=false:=by
  unfold idxR
  rcases h:l.findIdx? p with _|k
  · refine .inl ⟨rfl,fun j hj=>?_⟩
    rw [List.findIdx?_eq_none_iff] at h
    have:=h l[j] (List.getElem_mem hj)
    simpa [rd_L1,List.getD_eq_getElem?_getD,List.getElem?_eq_getElem hj] using this
  · rw [List.findIdx?_eq_some_iff_getElem] at h
    obtain ⟨hk,hp,hb⟩:=h
    refine .inr ⟨k,hk,rfl,?_,fun j hj=>?_⟩
    · simpa [rd_L1,List.getD_eq_getElem?_getD,List.getElem?_eq_getElem hk] using hp
    · have:=hb j hj
      simpa [rd_L1,List.getD_eq_getElem?_getD,List.getElem?_eq_getElem (show j < l.length by omega)] using this
theorem below_cellsR {b:Nat} {a:World} (hb:a.heap.size ≤ b):∀ (vs:List Value) (o:Nat) (w:World),Below a.heap.size a w → Below a.heap.size a (w.setCells b o vs)
  | [],_,_,h=>h
  | v :: vs,o,w,h=>below_cellsR hb vs (o + 1) _ (below_set h hb)
theorem del_measureR (n j:Nat) (h:j < n) (x:Int) (hx:x=((j + 1:Nat):Int)):n - (intOf (.int .i64 x)).toNat < n - (intOf (.int .i64 (j:Int))).toNat:=by
  subst hx
  simp only [intOf,Int.toNat_natCast]
  omega
theorem sz_rows:(Kd.slice 3 (Kd.int .i64)).sz=1:=rfl
theorem setCellsR_heap (b k:Nat) (hk:k ≠ b):∀ (vs:List Value) (o:Nat) (w:World),(w.setCells b o vs).heap[k]?=w.heap[k]?
  | [],_,_=>rfl
  | v :: vs,o,w=>(setCellsR_heap b k hk vs (o + 1) _).trans (Below.heap_setCell w ⟨b,o,none⟩ v k hk)
set_option maxHeartbeats 2000000 in
set_option maxRecDepth 100000 in
theorem DeleteFunc_rows.calls (g:Nat) (lb:Array Value) (p:List Int → Bool) (K:World → Prop) (blk c0:Nat) (l0:List (List Int)) (w0 w:World)
    (hO:Kd.N (Kd.slice 3 (Kd.int .i64)) 23 w w0.heap.size (fun _=>True) (.slice (some ⟨blk,0,none⟩) l0.length c0) l0) (hne:0 < l0.length) (hB:Below w0.heap.size w0 w)
    (eg:∀ args w,(callFunc g args).run Try.prog w=.ok (.enter g args) w) (hT:TellsR g lb p K) (hK:K w)
    (hKB:∀ W W',K W → Below W.heap.size W W' → K W') (hKS:∀ W i v,K W → K (W.setCell ⟨blk,i,none⟩ v)) :
    Calls Try.prog 103 #[.slice (some ⟨blk,0,none⟩) l0.length c0,.func (.func g) #[] lb] w fun e w'=>e=.returned (.slice (some ⟨blk,0,none⟩) (l0.filter fun x=>!p x).length c0)∧Kd.C (Kd.slice 3 (Kd.int .i64)) w' (some ⟨blk,0,none⟩) (l0.filter fun x=>!p x).length (l0.filter fun x=>!p x)∧Below w0.heap.size w0 w':=by
  have HI:=Aside0.mk (IndexFunc_rows.calls g lb p K (some ⟨blk,0,none⟩) c0 l0 w (Kd.N_reads' hO).2.2 (Kd.N_reads' hO).2.1 eg hT hK hKB)
  obtain ⟨go_,cap_,eo_,gb_,gl_,_⟩:=Kd.N_form hO hne
  have hblk:w0.heap.size ≤ blk:=by injection eo_ with e1;injection e1 with e2;injection e2 with e3;rw [e3];exact gb_
  clear eo_ gb_ gl_
  have HO:=Aside0.mk hO
  have HB:=Aside0.mk hB
  have HT:=Aside0.mk hT
  have HK:=Aside0.mk hK
  have HKB:=Aside0.mk hKB
  have HKS:=Aside0.mk hKS
  have HBK:=Aside0.mk hblk
  have HNE:=Aside0.mk hne
  have HLEN:=Aside0.mk (Kd.N_reads' hO).2.2.2.1
  have HCAP:=Aside0.mk (Kd.N_reads' hO).2.1
  clear hO hB hT hK hKB hKS hblk hne
  rcases idxR_cases p l0 with ⟨e1,hall⟩|⟨k0,hk0,e1,ht,hb⟩
  · have HF:=Aside0.mk (show (l0.filter fun x=>!p x)=l0 from by
      rw [List.filter_eq_self]
      intro x hx
      obtain ⟨j,hj,rfl⟩:=List.getElem_of_mem hx
      have:=hall j hj
      simpa [rd_L1,List.getD_eq_getElem?_getD,List.getElem?_eq_getElem hj] using this)
    rw [e1] at HI
    clear hall e1
    rw [HF.out]
    go_enter Try.func103,Try.ntmps103
    go_wp2_with (go_at_call 111;(with_reducible refine HI.out.mono ?_);rintro e w1 ⟨rfl,hb1⟩;have HB1:=Aside0.mk hb1;clear hb1)
    go_ret
    exact ⟨rfl,Kd.C_below (Kd.N_reads' HO.out).2.2 HB1.out,below_step HB.out HB1.out⟩
  · rw [e1] at HI
    have HS:=Aside0.mk (DelInvR.start hk0 ht hb)
    have hd0:((k0:Int) == -1)=false:=beq_eq_false_iff_ne.mpr (by omega)
    have hw0:wrap64 ((k0:Int) + 1)=((k0 + 1:Nat):Int):=by have:=HLEN.out;unfold wrap64;omega
    have HW0:=Aside0.mk hw0
    clear hw0 ht hb e1
    go_enter Try.func103,Try.ntmps103
    go_wp2_with (go_at_call 111;(with_reducible refine HI.out.mono ?_);rintro e w1 ⟨rfl,hb1⟩;have HB1:=Aside0.mk hb1;clear hb1)
    go_loopw [5,6,7] (fun v5 v6 v7 w'=>∃ (i j:Nat) (xs:List (List Int)),v5=.int .i64 (i:Int)∧v6=.int .i64 (j:Int)∧Aside0 (DelInvR p l0 xs i j)∧Aside0 (Kd.N (Kd.slice 3 (Kd.int .i64)) 23 w' w0.heap.size (fun _=>True) (.slice (some ⟨blk,0,none⟩) l0.length c0) xs)∧Aside0 (Below w0.heap.size w0 w')∧Aside0 (K w')) (fun v5 v6 v7 _=>l0.length - (intOf v6).toNat)
    case atStart=>exact ⟨k0,k0 + 1,l0,rfl,by rw [HW0.out],HS,⟨Kd.N_below HO.out HB1.out⟩,⟨below_step HB.out HB1.out⟩,⟨HKB.out _ _ HK.out HB1.out⟩⟩
    case round =>
      clear HO HB HK HB1 HI hd0 HW0 HS
      obtain ⟨i,j,xs,rfl,rfl,HD,HO,HB,HK⟩:=hrel
      have hxl:xs.length=l0.length:=HD.out.1
      by_cases hlt:(j:Int) < (l0.length:Int)
      · have hjl:j < l0.length:=by omega
        have hij:i < j:=HD.out.2.1
        obtain ⟨cs,hcl,hFK,hcc,hfr⟩:=Kd.N_elem HO.out [] (j:Int) (by omega) (by omega)
        obtain ⟨A1,c1,rfl,hl1,hF1⟩:=Kd.FK_slice_open hFK
        have hcell:wr.cell? ⟨blk,j,none⟩=some (.slice A1 (rd_L1 l0 (j:Int)).length c1):=by
          have e:=HD.out.read hjl
          rw [← e]
          simpa [rd_L1,sz_rows] using hcc 0 _ rfl
        have HQ:=Aside0.mk (show Kd.FK (Kd.slice 3 (Kd.int .i64)) wr (fun k=>True∧k ≠ blk) (rd_L1 l0 (j:Int)) [.slice A1 (rd_L1 l0 (j:Int)).length c1] from by
          have e:=HD.out.read hjl
          rw [← e]
          simpa [rd_L1] using hFK)
        have HC1:=Aside0.mk (show Kd.C (Kd.int .i64) wr A1 (rd_L1 l0 (j:Int)).length (rd_L1 l0 (j:Int)) from by
          have e:=HD.out.read hjl
          rw [← e]
          simpa [rd_L1] using Kd.F_now hF1)
        have hl2:(rd_L1 l0 (j:Int)).length ≤ c1:=by
          have e:=HD.out.read hjl
          rw [← e]
          simpa [rd_L1] using hl1
        have HL2:=Aside0.mk hl2
        clear hcl hFK hcc hfr hl1 hF1 hl2
        have hd:decide ((j:Int) < (l0.length:Int))=true:=decide_eq_true hlt
        have hd2:decide (j < l0.length)=true:=decide_eq_true hjl
        have hwj:wrap64 ((j:Int) + 1)=((j + 1:Nat):Int):=by have:=HLEN.out;unfold wrap64;omega
        have hwi:wrap64 ((i:Int) + 1)=((i + 1:Nat):Int):=by have:=HLEN.out;unfold wrap64;omega
        have HWJ:=Aside0.mk hwj
        have HWI:=Aside0.mk hwi
        clear hwj hwi
        by_cases hp:p (rd_L1 l0 (j:Int))=true
        · have HD2:=Aside0.mk (HD.out.skip hjl hp)
          have HP:=Aside0.mk hp
          clear hp
          go_wp2_with (fail)
          refine (HT.out _ _ _ _ HK.out HC1.out HL2.out).mono ?_
          rintro e w1 ⟨rfl,hb1⟩
          rw [HP.out]
          have HB1:=Aside0.mk hb1
          clear hb1
          go_wp2
          go_roundw
          case rel=>exact ⟨i,j + 1,xs,rfl,congrArg _ HWJ.out,HD2,⟨Kd.N_below HO.out HB1.out⟩,⟨below_step HB.out HB1.out⟩,⟨HKB.out _ _ HK.out HB1.out⟩⟩
          case measure=>exact del_measureR _ _ hjl _ HWJ.out
        · have hp':=Bool.eq_false_iff.mpr hp
          have HD2:=Aside0.mk (HD.out.keep hjl hp')
          have HP:=Aside0.mk hp'
          clear hp hp'
          go_wp2_with (fail)
          refine (HT.out _ _ _ _ HK.out HC1.out HL2.out).mono ?_
          rintro e w1 ⟨rfl,hb1⟩
          rw [HP.out]
          have HO1:=Aside0.mk (Kd.N_below HO.out hb1)
          have HB1:=Aside0.mk (below_step HB.out hb1)
          have HK1:=Aside0.mk (HKB.out _ _ HK.out hb1)
          have HQ1:=Aside0.mk (Kd.FK_below HQ.out hb1)
          clear hb1
          obtain ⟨cs,hcl,_,hcc,hfr⟩:=Kd.N_elem HO1.out [] (i:Int) (by omega) (by omega)
          obtain ⟨u,rfl⟩:∃ u,cs=[u]:=by
            cases cs with
            | nil=>simp [sz_rows] at hcl
            | cons u t=>cases t with
              | nil=>exact ⟨u,rfl⟩
              | cons _ _=>simp [sz_rows] at hcl
          have HPUT:=Aside0.mk (Kd.N_seg (seg:=[.slice A1 (rd_L1 l0 (j:Int)).length c1]) (j:=0) HO1.out (i:Int) (by omega) (by omega) hcl hcc (Nat.le_refl _) (x':=rd_L1 l0 (j:Int)) (by simpa using HQ1.out) (fun k hk=>hk)).1
          have hx1:w1.cell? ⟨blk,i,none⟩=some u:=by simpa [sz_rows] using hcc 0 _ rfl
          have hf1:w1.frozen? ⟨blk,i,none⟩=false:=by simpa [sz_rows] using hfr 0
          clear hcl hcc hfr
          have hi1:decide ((i:Int) < (l0.length:Int))=true:=decide_eq_true (by omega)
          have hi2:(i < l0.length)=True:=eq_true (by omega)
          go_wp2
          go_roundw
          case rel=>exact ⟨i + 1,j + 1,xs.set i (rd_L1 l0 (j:Int)),congrArg _ HWI.out,congrArg _ HWJ.out,HD2,⟨by have h:=HPUT.out;simpa [sz_rows,World.setCells] using h⟩,⟨by simpa using below_set HB1.out HBK.out⟩,⟨by simpa using HKS.out _ _ _ HK1.out⟩⟩
          case measure=>exact del_measureR _ _ hjl _ HWJ.out
      · have hj:j=l0.length:=by have:=HD.out.2.2.1;omega
        have hi:i < l0.length:=by have:=HD.out.2.1;omega
        have hfil:xs.take i=l0.filter (fun x=>!p x):=by have:=HD.out.2.2.2.1;rwa [hj,List.take_length] at this
        have hfl:(l0.filter fun x=>!p x).length=i:=by rw [← hfil,List.length_take];omega
        have hd:decide ((j:Int) < (l0.length:Int))=false:=decide_eq_false hlt
        have hd2:decide (j < l0.length)=false:=decide_eq_false (by omega)
        have hcap:=HCAP.out
        obtain ⟨hi0,hii,hiz⟩:=Option.map_eq_some_iff.1 info23
        simp only [Prod.mk.injEq] at hiz
        have hcut1:=cut_from (P:=Try.prog) 58 23 .i64 Try.underlying58 hii 1 hiz.2.1 (some ⟨blk,0,none⟩) l0.length c0 (i:Int) (by omega) (by omega)
        have hcut2:=cut_to (P:=Try.prog) 58 23 .i64 Try.underlying58 hii (some ⟨blk,0,none⟩) l0.length c0 (i:Int) (by omega) (by omega) hcap
        have hne:¬ (c0=i):=by omega
        simp only [Int.toNat_natCast,if_neg hne,Option.map_some,Nat.mul_one] at hcut1 hcut2
        have hadd:(⟨blk,0,none⟩:Addr).add i=⟨blk,i,none⟩:=by simp only [Addr.add,Nat.zero_add];split <;> simp_all
        rw [hadd] at hcut1
        have hz3:∀ w,(zeroValue 23).run Try.prog w=.ok (.slice none 0 0) w:=fun w=>by kernel_rfl
        have hc:∀ q,q < l0.length → ∃ A1 c1,wr.cell? ⟨blk,q,none⟩=some (.slice A1 (xs.getD q []).length c1)∧wr.frozen? ⟨blk,q,none⟩=false∧(xs.getD q []).length ≤ c1∧Kd.F (Kd.int .i64) wr (fun k=>True∧k ≠ blk) A1 (xs.getD q []).length (xs.getD q []):=fun q hq=>by
          obtain ⟨cs,hcl,hFK,hcc,hfr⟩:=Kd.N_elem HO.out [] (q:Int) (by omega) (by omega)
          obtain ⟨A1,c1,rfl,hl1,hF1⟩:=Kd.FK_slice_open hFK
          exact ⟨A1,c1,by simpa [sz_rows] using hcc 0 _ rfl,by simpa [sz_rows] using hfr 0,by simpa using hl1,by simpa using hF1⟩
        have hclr:∀ ty,(Builtin.clear_ #[58] ty #[.slice (some ⟨blk,i,none⟩) (l0.length - i) (c0 - i)]).run Try.prog wr=.ok (.tuple #[]) (wr.setCells blk i (List.replicate (l0.length - i) (.slice none 0 0))) :=
          fun ty=>Lib.run_clear_slice wr 58 23 ty (.slice none 0 0) Try.underlying58 hz3 rfl rfl blk i (l0.length - i) (c0 - i) (by omega) (fun q hq=>by obtain ⟨A1,c1,h,_⟩:=hc (i + q) (by omega);rw [h];rfl) (fun q hq=>by obtain ⟨A1,c1,_,h,_⟩:=hc (i + q) (by omega);exact h)
        have HKP:=Aside0.mk (show ∀ k,(True∧k ≠ blk) → k < wr.heap.size → (wr.setCells blk i (List.replicate (l0.length - i) (.slice none 0 0))).heap[k]?=wr.heap[k]? from fun k hk _=>setCellsR_heap blk k hk.2 _ _ _)
        have HFIN:=Aside0.mk (show Kd.C (Kd.slice 3 (Kd.int .i64)) (wr.setCells blk i (List.replicate (l0.length - i) (.slice none 0 0))) (some ⟨blk,0,none⟩) (l0.filter fun x=>!p x).length (l0.filter fun x=>!p x) from by
          rw [← hfil]
          refine ⟨rfl,by have hL:=HLEN.out;rw [List.length_take];omega,fun _=>⟨⟨blk,0,none⟩,rfl,fun q u hq=>?_⟩⟩
          have hql:q < i:=by have:=(List.getElem?_eq_some_iff.mp hq).1;rw [List.length_take] at this;omega
          have hu:u=xs.getD q []:=by
            rw [List.getElem?_take_of_lt hql] at hq
            simp [List.getD_eq_getElem?_getD,hq]
          obtain ⟨A1,c1,h1,_,h3,h4⟩:=hc q (by omega)
          rw [← hu] at h1 h3 h4
          refine ⟨[.slice A1 u.length c1],rfl,⟨A1,c1,rfl,h3,Kd.F_now (Kd.F_step h4 HKP.out)⟩,fun a b hab=>?_⟩
          have ha0:a=0:=by
            cases a with
            | zero=>rfl
            | succ a=>simp at hab
          subst ha0
          have hb:b=.slice A1 u.length c1:=by simpa using hab.symm
          subst hb
          have e:(⟨blk,0,none⟩:Addr).add (q * (Kd.slice 3 (Kd.int .i64)).sz + 0)=⟨blk,q,none⟩:=by
            have hs:(Kd.slice 3 (Kd.int .i64)).sz=1:=rfl
            rw [hs,Nat.mul_one,Nat.add_zero]
            simp only [Addr.add,Nat.zero_add]
            split <;> simp_all
          rw [e,World.cell?_setCells_out blk _ _ _ ⟨blk,q,none⟩ (fun _ _=>Or.inl hql),h1])
        have HBF:=Aside0.mk (show Below w0.heap.size w0 (wr.setCells blk i (List.replicate (l0.length - i) (.slice none 0 0))) from below_cellsR HBK.out _ _ _ HB.out)
        have HFL:=Aside0.mk hfl
        clear hc hz3 hadd hii hiz hfl hfil HKP
        go_wp2_with (simp only [hclr])
        go_ret
        refine ⟨?_,HFIN.out,HBF.out⟩
        rw [HFL.out]
        rfl
attribute [local go_sem] eqGuard_slices eqlnil58 in
set_option maxHeartbeats 1000000 in
set_option maxRecDepth 100000 in
theorem Clone_rows.calls (A0:Option Addr) (c0:Nat) (l0:List (List Int)) (w:World) (hr0:Kd.C (Kd.slice 3 (Kd.int .i64)) w A0 l0.length l0) (hc0:l0.length ≤ c0) (hl:l0.length ≤ 5000000) :
    Calls Try.prog 104 #[.slice A0 l0.length c0] w fun e w'=>∃ v,e=.returned v∧Kd.N (Kd.slice 3 (Kd.int .i64)) 23 w' w.heap.size (fun _=>True) v l0∧Below w.heap.size w w':=by
  cases A0 with
  | none =>
    have h0:l0=[]:=by
      rcases Nat.eq_zero_or_pos l0.length with h|h
      · exact List.eq_nil_of_length_eq_zero h
      · obtain ⟨ad,e,_⟩:=hr0.2.2 h
        cases e
    subst h0
    clear hr0 hc0 hl
    go_enter Try.func104,Try.ntmps104
    go_wp2
    go_ret
    exact ⟨_,rfl,Kd.N_nil _ _ _ _ _,Below.refl _ _⟩
  | some a0 =>
    have HF:=Aside0.mk (Kd.C_F (Kd.heap_slice 3 (Kd.heap_int .i64)) hr0)
    have HL:=Aside0.mk hl
    clear hr0 hc0 hl
    go_enter Try.func104,Try.ntmps104
    go_wp2_with (first
      | ((with_reducible refine gate_dst (N:=5) rfl ?_);refine Kd.N_lit (Kd.slice 3 (Kd.int .i64)) (w0:=w) w.heap.size 23 ?hg (N':=5) ?hd (xs:=([]:List (List Int))) (inner:=[]) (ok:=fun _=>True) (okp:=fun _=>True) ?hr ?hp (fun _ hk=>hk) trivial (Below.refl _ _) (Nat.le_refl _) (by simp) ?_;(case hd=>rfl);(case hg=>rfl);(case hr=>first|(go_simp;done)|(go_simp;rfl));(case hp=>exact Reps.none _ _);intro v1 w1 ho hb hg_ hn;clear hg_;have HO:=Aside0.mk ho;have HB:=Aside0.mk hb;have HN:=Aside0.mk hn;clear ho hb hn)
      | ((with_reducible refine gate_builtin (b:=.append) (xs:=#[.tmp 5,.tmp 6]) rfl ?_);at_builtin;refine Kd.N_append_rows (Kd.slice 3 (Kd.int .i64)) (w0:=w) w.heap.size rfl (.tmp 5) (.tmp 6) 58 23 (.slice none 0 0) 24 rfl Try.underlying58 info23 rfl (by decide) (by omega) v1 [] l0 _ _ _ (fun _=>True) (fun k=>k < w.heap.size) rfl rfl ?aO ?aR ?aK (fun _ _=>trivial) ?aB ?aS ?aL ?_;(case aO=>exact HO.out);(case aR=>exact Kd.F_below HF.out HB.out);(case aB=>exact HB.out);(case aS=>exact below_size HB.out);(case aK=>exact fun k hk=>⟨trivial,fun h=>by obtain ⟨b,e,hb⟩:=HN.out;rw [e] at h;injection h with h;omega⟩);(case aL=>have:=HL.out;simp only [List.length_nil];omega);intro v2 w2 ho2 hb2 hg2 hat2;clear hg2 hat2;have HO2:=Aside0.mk ho2;have HB2:=Aside0.mk hb2;clear ho2 hb2))
    go_ret
    exact ⟨_,rfl,HO2.out,HB2.out⟩
def zeroV (l:List Int):Bool:=!(l.any (fun x=>decide (x ≠ 0)))
def count_in.f (k:Nat) (l0:List Int) (l1:List (List Int)) (l2:List Int):Option Bool :=
  if l1.length ≤ 5000000 then (count_less.f k l2 l0).bind fun t=>if t.2=true then count_made.f k t.1 (l1.filter fun x=>!zeroV x) else some false else none
theorem DeleteFunc_zero.calls (v:Value) (l0:List (List Int)) (w0 w:World) (hO:Kd.N (Kd.slice 3 (Kd.int .i64)) 23 w w0.heap.size (fun _=>True) v l0) (hB:Below w0.heap.size w0 w) :
    Calls Try.prog 103 #[v,.func (.func 105) #[] #[]] w fun e w'=>∃ A c,e=.returned (.slice A (l0.filter fun x=>!zeroV x).length c)∧(l0.filter fun x=>!zeroV x).length ≤ c∧Kd.C (Kd.slice 3 (Kd.int .i64)) w' A (l0.filter fun x=>!zeroV x).length (l0.filter fun x=>!zeroV x)∧Below w0.heap.size w0 w':=by
  have eg:∀ args w,(callFunc 105 args).run Try.prog w=.ok (.enter 105 args) w:=enters_of Try.func105 (by kernel_rfl) rfl
  have hT:TellsR 105 #[] zeroV (fun _=>True):=fun W A c l _ hC hc=>count_zero.calls A c l (zeroV l) W hC hc rfl
  rcases Nat.eq_zero_or_pos l0.length with h0|hp
  · have hl:l0=[]:=List.eq_nil_of_length_eq_zero h0
    subst hl
    obtain ⟨A,c,rfl⟩:=Kd.N_slice hO
    have HI:=Aside0.mk (IndexFunc_rows.calls 105 #[] zeroV (fun _=>True) A c [] w (Kd.N_reads' hO).2.2 (Kd.N_reads' hO).2.1 eg hT trivial (fun _ _ _ _=>trivial))
    have HN:=Aside0.mk (Kd.N_reads' hO).2.2
    have HB:=Aside0.mk hB
    clear hO hB eg hT h0
    rw [show idxR zeroV []=-1 from rfl] at HI
    simp only [List.length_nil] at HI ⊢
    go_enter Try.func103,Try.ntmps103
    go_wp2_with (go_at_call 111;(with_reducible refine HI.out.mono ?_);rintro e w1 ⟨rfl,hb1⟩;have HB1:=Aside0.mk hb1;clear hb1)
    go_ret
    exact ⟨_,_,rfl,Nat.zero_le _,Kd.C_below HN.out HB1.out,below_step HB.out HB1.out⟩
  · obtain ⟨blk,cap,rfl,_,_,_⟩:=Kd.N_form hO hp
    refine (DeleteFunc_rows.calls 105 #[] zeroV (fun _=>True) blk cap l0 w0 w hO hp hB eg hT trivial (fun _ _ _ _=>trivial) (fun _ _ _ _=>trivial)).mono ?_
    rintro e w1 ⟨rfl,hC,hb⟩
    exact ⟨_,_,rfl,Nat.le_trans (List.length_filter_le _ _) (Kd.N_reads' hO).2.1,hC,hb⟩
set_option maxHeartbeats 2000000 in
set_option maxRecDepth 100000 in
theorem count_in.calls (k:Nat) (A0:Option Addr) (c0:Nat) (l0:List Int) (A1:Option Addr) (c1:Nat) (l1:List (List Int)) (A2:Option Addr) (c2:Nat) (l2:List Int) (r:Bool) (w:World)
    (hr0:Kd.C (Kd.int .i64) w A0 l0.length l0) (hc0:l0.length ≤ c0) (hr1:Kd.C (Kd.slice 3 (Kd.int .i64)) w A1 l1.length l1) (hc1:l1.length ≤ c1) (hr2:Kd.C (Kd.int .i64) w A2 l2.length l2) (hc2:l2.length ≤ c2) (h:count_in.f k l0 l1 l2=some r) :
    Calls Try.prog 90 #[.agg #[.slice A0 l0.length c0,.slice A1 l1.length c1],.slice A2 l2.length c2] w fun e w'=>e=.returned (.bool r)∧Below w.heap.size w w':=by
  unfold count_in.f at h
  split at h
  case isFalse=>cases h
  rename_i hlen
  obtain ⟨⟨r1,r2⟩,hless,h⟩:=Option.bind_eq_some_iff.mp h
  have HL:=Aside0.mk hless
  have HN:=Aside0.mk hlen
  have HR0:=Aside0.mk hr0
  have HR1:=Aside0.mk hr1
  have HR2:=Aside0.mk hr2
  have HC0:=Aside0.mk hc0
  have HC1:=Aside0.mk hc1
  have HC2:=Aside0.mk hc2
  clear hless hlen hr0 hr1 hr2 hc0 hc1 hc2
  cases r2 with
  | false =>
    simp only [Bool.false_eq_true,if_false] at h
    obtain rfl:=Option.some.inj h
    go_enter Try.func90,Try.ntmps90
    go_wp2_with (first
      | ((with_reducible refine gate_dst (N:=2) rfl ?_);refine box_event ?hg (N:=2) ?hd (cs:=#[.slice A0 l0.length c0,.slice A1 l1.length c1]) (t:=60) ?hr ?_;(case hd=>rfl);(case hg=>rfl);(case hr=>first|(go_simp;done)|(go_simp;rfl));intro gb hg w3 hbox hb;have BK:=Aside0.mk hbox;have HB:=Aside0.mk hb;clear hb hbox hg;have hcz0:w3.cell? ⟨gb,0,none⟩=some (.slice A0 l0.length c0):=(blk_cell BK.out 0).trans rfl)
      | (go_at_call 101;(with_reducible refine (count_less.calls k A2 c2 l2 A0 c0 l0 r1 false _ (Kd.C_below HR2.out HB.out) HC2.out (Kd.C_below HR0.out HB.out) HC0.out HL.out).mono ?_);rintro e w4 ⟨v,rfl,hR,hb4⟩;have HB4:=Aside0.mk (below_step HB.out hb4);clear hR hb4))
    go_ret
    exact ⟨rfl,HB4.out⟩
  | true =>
    simp only [if_true] at h
    have HM:=Aside0.mk h
    clear h
    go_enter Try.func90,Try.ntmps90
    go_wp2_with (first
      | ((with_reducible refine gate_dst (N:=2) rfl ?_);refine box_event ?hg (N:=2) ?hd (cs:=#[.slice A0 l0.length c0,.slice A1 l1.length c1]) (t:=60) ?hr ?_;(case hd=>rfl);(case hg=>rfl);(case hr=>first|(go_simp;done)|(go_simp;rfl));intro gb hg w3 hbox hb;have BK:=Aside0.mk hbox;have HB:=Aside0.mk hb;clear hb hbox hg;have hcz0:w3.cell? ⟨gb,0,none⟩=some (.slice A0 l0.length c0):=(blk_cell BK.out 0).trans rfl)
      | (go_at_call 101;(with_reducible refine (count_less.calls k A2 c2 l2 A0 c0 l0 r1 true _ (Kd.C_below HR2.out HB.out) HC2.out (Kd.C_below HR0.out HB.out) HC0.out HL.out).mono ?_);rintro e w4 ⟨v,rfl,hR,hb4⟩;obtain ⟨A4,c4,rfl,hl4,hC4⟩:=Kd.R_reads hR;have HLV:=Aside0.mk hl4;have HCV:=Aside0.mk hC4;clear hR hl4 hC4;have hcz1:w4.cell? ⟨gb,1,none⟩=some (.slice A1 l1.length c1):=(hb4.cell (p:=⟨gb,1,none⟩) (World.block_lt_of_cell? _ _ ((blk_cell BK.out 1).trans rfl))).trans ((blk_cell BK.out 1).trans rfl);have HB4:=Aside0.mk (below_step HB.out hb4);clear hb4)
      | (go_at_call 104;(with_reducible refine (Clone_rows.calls A1 c1 l1 _ (Kd.C_below HR1.out HB4.out) HC1.out HN.out).mono ?_);rintro e w5 ⟨v5,rfl,hN5,hb5⟩;have HN5:=Aside0.mk hN5;have HB5:=Aside0.mk hb5;clear hN5 hb5)
      | (go_at_call 103;(with_reducible refine (DeleteFunc_zero.calls v5 l1 w4 w5 HN5.out HB5.out).mono ?_);rintro e w6 ⟨A6,c6,rfl,hl6,hC6,hb6⟩;have HL6:=Aside0.mk hl6;have HC6:=Aside0.mk hC6;have HB6:=Aside0.mk hb6;clear hl6 hC6 hb6)
      | (go_at_call 102;(with_reducible refine (count_made.calls k (fun q=>q < w6.heap.size) A4 c4 r1 A6 c6 (l1.filter fun x=>!zeroV x) r w6 (Kd.V_mk HLV.out (Kd.C_F (Kd.heap_int .i64) (Kd.C_below HCV.out HB6.out))) HC6.out HL6.out HM.out).mono ?_);rintro e w7 ⟨rfl,hb7⟩;have HB7:=Aside0.mk (below_step (below_step HB4.out HB6.out) hb7);clear hb7))
    go_ret
    exact ⟨rfl,HB7.out⟩
-- NOT PRINTED: function 89 (count_has_1)
theorem count_in.mono (k:Nat) (l0:List Int) (l1:List (List Int)) (l2:List Int):LeO (count_in.f k l0 l1 l2) (count_in.f (k + 1) l0 l1 l2):=by
  unfold count_in.f
  exact LeO.ite (LeO.bind (count_less.mono _ _ _) (fun _=>LeO.ite (count_made.mono _ _ _) (LeO.refl _))) (LeO.refl _)
def count_has.g (k:Nat) (v:List Int):List S60 → Option Bool
  | []=>some false
  | x :: xs=>(count_in.f k x.f0 x.f1 v).bind fun b=>(count_has.g k v xs).bind fun c=>some (b || c)
def count_has.f (k:Nat) (l0:List S60) (l1:List Int):Option (Bool):=count_has.g k l1 l0
theorem count_has.mono_g (k:Nat) (v:List Int):∀ l,LeO (count_has.g k v l) (count_has.g (k + 1) v l)
  | []=>LeO.refl _
  | x :: xs=>LeO.bind (count_in.mono k _ _ _) (fun _=>LeO.bind (count_has.mono_g k v xs) (fun _=>LeO.refl _))
theorem count_has.mono:∀ a0 a1 k,LeO (count_has.f k a0 a1) (count_has.f (k + 1) a0 a1):=fun a0 a1 k=>count_has.mono_g k a1 a0
theorem count_has.g_some (k:Nat) (v:List Int):∀ (l:List S60) (r:Bool),count_has.g k v l=some r → (∀ x ∈ l,(count_in.f k x.f0 x.f1 v).isSome=true)∧r=l.any (fun x=>(count_in.f k x.f0 x.f1 v).getD false)
  | [],r,h=>⟨fun x hx=>by simp at hx,by obtain rfl:=Option.some.inj h;rfl⟩
  | x :: xs,r,h=>by
    obtain ⟨b,hb,h⟩:=Option.bind_eq_some_iff.mp h
    obtain ⟨c,hc,h⟩:=Option.bind_eq_some_iff.mp h
    obtain rfl:=Option.some.inj h
    obtain ⟨h1,h2⟩:=count_has.g_some k v xs c hc
    refine ⟨fun y hy=>?_,?_⟩
    · rcases List.mem_cons.mp hy with rfl|hy
      · rw [hb];rfl
      · exact h1 y hy
    · rw [List.any_cons,hb,← h2];rfl
set_option maxHeartbeats 1000000 in
set_option maxRecDepth 100000 in
theorem count_has.tells (k:Nat) (A2:Option Addr) (c2:Nat) (l2:List Int) (B:Nat) (w:World) (hB:B < w.heap.size) (hcell:w.cell? ⟨B,0,none⟩=some (.slice A2 l2.length c2)) (hr2:Kd.C (Kd.int .i64) w A2 l2.length l2) (hc2:l2.length ≤ c2) :
    TellsL 89 #[.pointer (some ⟨B,0,none⟩)] (fun x=>(count_in.f k x.f0 x.f1 l2).getD false) (fun x=>(count_in.f k x.f0 x.f1 l2).isSome=true) (fun W=>Below w.heap.size w W):=fun W A0 c0 A1 c1 x hb hD hl0 hC0 hl1 hC1=>by
  obtain ⟨b,hb1⟩:=Option.isSome_iff_exists.mp hD
  dsimp only
  rw [show (count_in.f k x.f0 x.f1 l2).getD false=b from by rw [hb1];rfl]
  show Calls Try.prog 89 #[.agg #[.slice A0 x.f0.length c0,.slice A1 x.f1.length c1],.pointer (some ⟨B,0,none⟩)] W (fun e w'=>e=.returned (.bool b)∧Below W.heap.size W w')
  have HV:=Aside0.mk ((hb.cell (p:=⟨B,0,none⟩) hB).trans hcell)
  have HI:=Aside0.mk (fun W2 (h:Below W.heap.size W W2)=>count_in.calls k A0 c0 x.f0 A1 c1 x.f1 A2 c2 l2 b W2 (Kd.C_below hC0 h) hl0 (Kd.C_below hC1 h) hl1 (Kd.C_below (Kd.C_below hr2 hb) h) hc2 hb1)
  clear hb hD hl0 hC0 hl1 hC1 hb1 hr2 hc2 hcell hB
  go_enter Try.func89,Try.ntmps89
  go_wp2_with (first
    | ((with_reducible refine gate_dst (N:=2) rfl ?_);refine box_event ?hg (N:=2) ?hd (cs:=#[.slice A0 x.f0.length c0,.slice A1 x.f1.length c1]) (t:=60) ?hr ?_;(case hd=>rfl);(case hg=>rfl);(case hr=>first|(go_simp;done)|(go_simp;rfl));intro gb hg w3 hbox hb;have BK:=Aside0.mk hbox;have HB:=Aside0.mk hb;have hcv:w3.cell? ⟨B,0,none⟩=some (.slice A2 l2.length c2):=(hb.cell (p:=⟨B,0,none⟩) (World.block_lt_of_cell? _ _ HV.out)).trans HV.out;clear hb hbox hg;have hcz0:w3.cell? ⟨gb,0,none⟩=some (.slice A0 x.f0.length c0):=(blk_cell BK.out 0).trans rfl;have hcz1:w3.cell? ⟨gb,1,none⟩=some (.slice A1 x.f1.length c1):=(blk_cell BK.out 1).trans rfl)
    | (go_at_call 90;(with_reducible refine (HI.out _ HB.out).mono ?_);rintro e w4 ⟨rfl,hb4⟩;have HB4:=Aside0.mk (below_step HB.out hb4);clear hb4))
  go_ret
  exact ⟨rfl,HB4.out⟩
set_option maxHeartbeats 1000000 in
set_option maxRecDepth 100000 in
theorem count_has.calls (k:Nat) (A0:Option Addr) (c0:Nat) (l0:List (S60)) (A1:Option Addr) (c1:Nat) (l1:List Int) (r:Bool) (w:World) (hr0:Kd.C k60 w A0 l0.length l0) (hc0:l0.length ≤ c0) (hr1:Kd.C (Kd.int .i64) w A1 l1.length l1) (hc1:l1.length ≤ c1) (h:count_has.f k l0 l1=some r) :
    Calls Try.prog 53 #[.slice A0 l0.length c0,.slice A1 l1.length c1] w fun e w'=>e=.returned (.bool r)∧Below w.heap.size w w':=by
  obtain ⟨hD,hr⟩:=count_has.g_some k l1 l0 r h
  have HR:=Aside0.mk hr
  have eg:∀ args w,(callFunc 89 args).run Try.prog w=.ok (.enter 89 args) w:=enters_of Try.func89 (by kernel_rfl) rfl
  have HC:=Aside0.mk (ContainsFunc_lin.calls 89 #[.pointer (some ⟨w.heap.size,0,none⟩)] (fun x=>(count_in.f k x.f0 x.f1 l1).getD false) (fun x=>(count_in.f k x.f0 x.f1 l1).isSome=true) (fun W=>Below (w.alloc (.cells #[.slice A1 l1.length c1] 23)).heap.size (w.alloc (.cells #[.slice A1 l1.length c1] 23)) W) A0 c0 l0 (w.alloc (.cells #[.slice A1 l1.length c1] 23)) (Kd.C_alloc hr0 _) hc0 eg
    (count_has.tells k A1 c1 l1 w.heap.size _ (by simp) (by simp) (Kd.C_alloc hr1 _) hc1) hD (Below.refl _ _) (fun W W' h h2=>below_step h h2))
  clear eg hr0 hr1 hr hD h hc0 hc1
  go_enter Try.func53,Try.ntmps53
  go_wp2_with (go_at_call 88;(with_reducible refine HC.out.mono ?_);rintro e w1 ⟨rfl,hb1⟩;rw [← HR.out];have HB1:=Aside0.mk hb1;clear hb1)
  go_ret
  exact ⟨rfl,((Below.refl _ _).alloc (Nat.le_refl _) _).trans (HB1.out.mono (by simp))⟩
def count_Has.j0:Nat → Int → List (S60) → List Int → Int → Bool → Option (Bool × Int)
  | 0,_,_,_,_,_=>none
  | k + 1,x0,x1,x2,x8,x21=>if x21=true then (some (false,1)) else (if x8=0 then (if (x2.length:Int)=x0 then ((count_has.f k x1 x2).bind fun t131=>(some (t131,0))) else (some (false,2))) else (some (false,2)))
def count_Has.f (k:Nat) (a0:Int) (l1:List (S60)) (l2:List Int):Option (Bool × Int):=(count_check.f k a0 (([l1]:List (List (S60))))).bind fun t129=>(if t129=3 then (some (false,t129)) else (if t129=1 then (count_Has.j0 k a0 l1 l2 t129 true) else ((count_outside.f l2 60).bind fun t130=>(count_Has.j0 k a0 l1 l2 t129 t130))))
theorem count_Has.mono_l:∀ k,(∀ y0 y1 y2 y3 y4,LeO (count_Has.j0 k y0 y1 y2 y3 y4) (count_Has.j0 (k + 1) y0 y1 y2 y3 y4))
  | 0=>fun _ _ _ _ _ r h=>by simp [count_Has.j0] at h
  | k + 1=>by
    have ih0:=count_Has.mono_l k
    · intro y0 y1 y2 y3 y4
      unfold count_Has.j0
      with_reducible repeat' first|exact ih0 _ _ _ _ _|exact count_check.mono _ _ _|exact count_has.mono _ _ _|exact LeO.refl _|exact LeO.none _|refine LeO.ite ?_ ?_|refine LeO.bind ?_ (fun _=>?_)
theorem count_Has.mono:∀ a0 a1 a2 k,LeO (count_Has.f k a0 a1 a2) (count_Has.f (k + 1) a0 a1 a2):=by
  intro a0 a1 a2 k
  have ih0:=count_Has.mono_l k
  unfold count_Has.f
  with_reducible repeat' first|exact ih0 _ _ _ _ _|exact count_check.mono _ _ _|exact count_has.mono _ _ _|exact LeO.refl _|exact LeO.none _|refine LeO.ite ?_ ?_|refine LeO.bind ?_ (fun _=>?_)
set_option maxHeartbeats 8000000 in
set_option maxRecDepth 100000 in
theorem count_Has.calls (k:Nat) (a0:Int) (P1_:Nat → Prop) (A1:Option Addr) (c1:Nat) (l1:List (S60)) (A2:Option Addr) (c2:Nat) (l2:List Int) (r1:Bool) (r2:Int) (w:World) (hs1:Kd.V k60 60 w w.heap.size (fun k_=>P1_ k_) (.slice A1 l1.length c1) l1) (hr2:Kd.C (Kd.int .i64) w A2 l2.length l2) (hc2:l2.length ≤ c2) (h:count_Has.f k a0 l1 l2=some (r1,r2)) :
    Calls Try.prog 23 #[.int .i64 a0,.slice A1 l1.length c1,.slice A2 l2.length c2] w fun e w'=>e=.returned (.tuple #[.bool r1,.int .i64 r2])∧Below w.heap.size w w':=by
 have HO1:=mk0 (show Kd.V k60 60 w w.heap.size (fun k_=>(P1_ k_ ∨ w.heap.size ≤ k_)) (.slice A1 l1.length c1) l1 from Kd.V_mono hs1 (fun k_ hk=>.inl hk));have HR2:=mk0 hr2;have HC2:=mk0 hc2;clear hr2 hc2;have HB:=mk0 (Below.refl w.heap.size w);have H:((count_check.f k a0 (([l1]:List (List (S60))))).bind fun t129=>(if t129=3 then (some (false,t129)) else (if t129=1 then (count_Has.j0 k a0 l1 l2 t129 true) else ((count_outside.f l2 60).bind fun t130=>(count_Has.j0 k a0 l1 l2 t129 t130)))))=some (r1,r2):=h;clear h;obtain ⟨y126,hy126⟩:∃ y_:List (List (S60)),y_=(([l1]:List (List (S60)))):=⟨_,rfl⟩
 replace H:((count_check.f k a0 y126).bind fun t129=>(if t129=3 then (some (false,t129)) else (if t129=1 then (count_Has.j0 k a0 l1 l2 t129 true) else ((count_outside.f l2 60).bind fun t130=>(count_Has.j0 k a0 l1 l2 t129 t130)))))=some (r1,r2):=by first|(rw [hy126];with_reducible exact H)|(have H2_:=(Option.bind_some _ _).symm.trans H;rw [hy126];with_reducible exact H2_)|(have H2_:=(Option.bind_some _ _).symm.trans H;with_reducible exact H2_)|with_reducible exact H|(rw [hy126];exact H)|exact H
 have Ny126:=mk0 hy126;clear hy126;replace H:=Option.bind_eq_some_iff.mp H;obtain ⟨t129,A40,H⟩:=H;(try dsimp only at H);have A4:=mk0 A40;clear A40
 by_cases c5:t129=3
 ·
  rw [if_pos c5] at H;have c5b0:(t129 == 3)=true:=beq_iff_eq.mpr c5;have c5b1:(t129 != 3)=false:=bne_eq_false_iff_eq.mpr c5;clear c5;simp only [Option.some.injEq,Prod.mk.injEq] at H;obtain ⟨rfl,rfl⟩:=H;go_enter Try.func23,Try.ntmps23;go_wp2_with (first|((with_reducible refine gate_dst (N:=11) rfl ?_);(try (refine gate_guard (by rfl) ?_;dsimp only));refine Kd.N_lit (Kd.slice 60 k60) _ 22 ?hg (N':=11) ?hd (xs:=([l1]:List (List (S60)))) (inner:=[.slice A1 l1.length c1]) (ok:=(fun k_=>(P1_ k_ ∨ w.heap.size ≤ k_))) (okp:=(fun k_=>(P1_ k_ ∨ w.heap.size ≤ k_))) ?hr ?hp (fun _ hk=>hk) ((show ∀ k_,w.heap.size ≤ k_ → (fun k_=>(P1_ k_ ∨ w.heap.size ≤ k_)) k_ from fun k_ hk=>(.inr (Nat.le_trans (below_size HB.out) hk))) _ (Nat.le_refl _)) (Below.refl _ _) (Nat.le_refl _) (by simp) ?_;(case hd=>rfl);(case hg=>rfl);(case hr=>first|(go_simp;done)|(go_simp;rfl));(case hp=>exact (Reps.one (show Kd.FK (Kd.slice 60 k60) _ _ l1 [.slice A1 l1.length c1] from (Kd.FK_slice_mk (Kd.V_reads' (Kd.V_mono (e:=0) (base:=0) (ok':=(fun k_=>(P1_ k_ ∨ w.heap.size ≤ k_))) (HO1.out) (fun k_ hk=>hk))).2.1 (Kd.V_F (Kd.V_mono (e:=0) (base:=0) (ok':=(fun k_=>(P1_ k_ ∨ w.heap.size ≤ k_))) (HO1.out) (fun k_ hk=>hk))))) (Reps.none _ _)));intro v127 w6 ho7 hb hg_ hnew_;clear hg_ hnew_;(first|rw [← Ny126.out] at ho7|(simp only [Int.reduceToNat] at ho7;rw [← Ny126.out] at ho7));have HO128:=mk0 (Kd.N_lower ho7 (below_size HB.out));replace HO1:=mk0 (Kd.V_elder' HO1.out (by first|exact Kd.N_base ho7|exact Kd.S_base ho7|exact Kd.R_base ho7) hb);replace HB:=bst HB hb;clear hb ho7;obtain ⟨Ao8,co8,eo8⟩:=Kd.N_slice HO128.out;subst eo8)|((with_reducible refine gate_callee (f:=51) rfl ?_);refine goesL_ (some 12) rfl rfl Try.func51 (by kernel_rfl) rfl #[.int .i64 a0,.slice Ao8 y126.length co8] rfl (by (try simp only [List.map_toArray,List.map_cons,List.map_nil]);first|done|rfl|(simp only [List.length_drop,List.length_take];rfl)) ?_;(with_reducible refine (count_check.calls k a0 _ _ y126 t129 _ ?side1 ?side2 A4.out).mono ?_);(case side1=>repeat (first|exact (Kd.N_reads' HO128.out).2.2|(with_reducible refine Kd.C_alloc ?_ _)|(with_reducible refine Kd.C_drewN ?_ _)|(with_reducible refine Kd.C_drew ?_)));(case side2=>exact (Kd.N_reads' HO128.out).2.1);rintro e w9 ⟨rfl,hb⟩;refine ⟨_,rfl,?_⟩;replace HO1:=mk0 (Kd.V_below HO1.out hb);replace HO128:=mk0 (Kd.N_below HO128.out hb);replace HB:=bst HB hb;(try clear hb);(try clear hk)));go_ret2;exact ⟨by first|rfl|(simp [errW_none,errW_some] <;> rfl)|(simp [*,errW_none,errW_some] <;> rfl),by repeat (first|(with_reducible first|exact HB.out|apply below_alloc|apply pw_below_drewN|apply below_drew1)|exact HB.out)⟩
 ·
  rw [if_neg c5] at H;have c5b0:(t129 == 3)=false:=beq_eq_false_iff_ne.mpr c5;have c5b1:(t129 != 3)=true:=bne_iff_ne.mpr c5;have HC10:=mk0 H;clear H;go_enter Try.func23,Try.ntmps23;go_upto_region 4 with (first|((with_reducible refine gate_dst (N:=11) rfl ?_);(try (refine gate_guard (by rfl) ?_;dsimp only));refine Kd.N_lit (Kd.slice 60 k60) _ 22 ?hg (N':=11) ?hd (xs:=([l1]:List (List (S60)))) (inner:=[.slice A1 l1.length c1]) (ok:=(fun k_=>(P1_ k_ ∨ w.heap.size ≤ k_))) (okp:=(fun k_=>(P1_ k_ ∨ w.heap.size ≤ k_))) ?hr ?hp (fun _ hk=>hk) ((show ∀ k_,w.heap.size ≤ k_ → (fun k_=>(P1_ k_ ∨ w.heap.size ≤ k_)) k_ from fun k_ hk=>(.inr (Nat.le_trans (below_size HB.out) hk))) _ (Nat.le_refl _)) (Below.refl _ _) (Nat.le_refl _) (by simp) ?_;(case hd=>rfl);(case hg=>rfl);(case hr=>first|(go_simp;done)|(go_simp;rfl));(case hp=>exact (Reps.one (show Kd.FK (Kd.slice 60 k60) _ _ l1 [.slice A1 l1.length c1] from (Kd.FK_slice_mk (Kd.V_reads' (Kd.V_mono (e:=0) (base:=0) (ok':=(fun k_=>(P1_ k_ ∨ w.heap.size ≤ k_))) (HO1.out) (fun k_ hk=>hk))).2.1 (Kd.V_F (Kd.V_mono (e:=0) (base:=0) (ok':=(fun k_=>(P1_ k_ ∨ w.heap.size ≤ k_))) (HO1.out) (fun k_ hk=>hk))))) (Reps.none _ _)));intro v127 w11 ho12 hb hg_ hnew_;clear hg_ hnew_;(first|rw [← Ny126.out] at ho12|(simp only [Int.reduceToNat] at ho12;rw [← Ny126.out] at ho12));have HO128:=mk0 (Kd.N_lower ho12 (below_size HB.out));replace HO1:=mk0 (Kd.V_elder' HO1.out (by first|exact Kd.N_base ho12|exact Kd.S_base ho12|exact Kd.R_base ho12) hb);replace HB:=bst HB hb;clear hb ho12;obtain ⟨Ao13,co13,eo13⟩:=Kd.N_slice HO128.out;subst eo13)|((with_reducible refine gate_callee (f:=51) rfl ?_);refine goesL_ (some 12) rfl rfl Try.func51 (by kernel_rfl) rfl #[.int .i64 a0,.slice Ao13 y126.length co13] rfl (by (try simp only [List.map_toArray,List.map_cons,List.map_nil]);first|done|rfl|(simp only [List.length_drop,List.length_take];rfl)) ?_;(with_reducible refine (count_check.calls k a0 _ _ y126 t129 _ ?side1 ?side2 A4.out).mono ?_);(case side1=>repeat (first|exact (Kd.N_reads' HO128.out).2.2|(with_reducible refine Kd.C_alloc ?_ _)|(with_reducible refine Kd.C_drewN ?_ _)|(with_reducible refine Kd.C_drew ?_)));(case side2=>exact (Kd.N_reads' HO128.out).2.1);rintro e w14 ⟨rfl,hb⟩;refine ⟨_,rfl,?_⟩;replace HO1:=mk0 (Kd.V_below HO1.out hb);replace HO128:=mk0 (Kd.N_below HO128.out hb);replace HB:=bst HB hb;(try clear hb);(try clear hk)));(try simp only [Act.put,List.setIfInBounds_toArray,List.set_cons_zero,List.set_cons_succ])
  go_cut [21] (fun v21 wc=>∃ (kq:Nat) (x21_9:Bool),v21=.bool x21_9∧Aside0 (count_Has.j0 kq a0 l1 l2 t129 x21_9=some (r1,r2))∧Aside0 (kq ≤ k)∧Aside0 (Kd.V k60 60 wc w.heap.size (fun k_=>(P1_ k_ ∨ w.heap.size ≤ k_)) (.slice A1 l1.length c1) l1)∧Aside0 (Below w.heap.size w wc))
  case first =>
   have H:=HC10.out;clear HC10
   by_cases c15:t129=1
   ·
    rw [if_pos c15] at H;have c15b0:(t129 == 1)=true:=beq_iff_eq.mpr c15;have c15b1:(t129 != 1)=false:=bne_eq_false_iff_eq.mpr c15;clear c15;(first|rw [c15b0]|(simp only [i64_w,i32_w];rw [c15b0])|skip);have H':=mk0 H;clear H;go_wp2;go_meet
    case rel=>exact ⟨_,(true),(by first|rfl|(simp;done)|(simp [*];done)),H',⟨by first|omega|exact Nat.le_refl _⟩,⟨by (with_reducible repeat (first|apply Kd.V_alloc|apply Kd.V_drewN|apply Kd.V_drew));exact Kd.V_mono HO1.out (fun _ hk=>hk.1)⟩,⟨by repeat (first|(with_reducible first|exact HB.out|apply below_alloc|apply pw_below_drewN|apply below_drew1)|exact HB.out)⟩⟩
   ·
    rw [if_neg c15] at H;have c15b0:(t129 == 1)=false:=beq_eq_false_iff_ne.mpr c15;have c15b1:(t129 != 1)=true:=bne_iff_ne.mpr c15;(first|rw [c15b0]|(simp only [i64_w,i32_w];rw [c15b0])|skip);replace H:=Option.bind_eq_some_iff.mp H;obtain ⟨t130,A160,H⟩:=H;(try dsimp only at H);have A16:=mk0 A160;clear A160;have H':=mk0 H;clear H;go_wp2_with (first|(go_at_call 52;(with_reducible refine (count_outside.calls _ _ l2 60 t130 _ ?side1 ?side2 A16.out).mono ?_);(case side1=>repeat (first|exact (Kd.C_below HR2.out HB.out)|(with_reducible refine Kd.C_alloc ?_ _)|(with_reducible refine Kd.C_drewN ?_ _)|(with_reducible refine Kd.C_drew ?_)));(case side2=>exact HC2.out);rintro e w17 ⟨rfl,hb⟩;replace HO1:=mk0 (Kd.V_below HO1.out hb);replace HO128:=mk0 (Kd.N_below HO128.out hb);replace HB:=bst HB hb;(try clear hb)));go_meet
    case rel=>exact ⟨_,(t130),(by first|rfl|(simp;done)|(simp [*];done)),H',⟨by first|omega|exact Nat.le_refl _⟩,⟨by (with_reducible repeat (first|apply Kd.V_alloc|apply Kd.V_drewN|apply Kd.V_drew));exact Kd.V_mono HO1.out (fun _ hk=>hk.1)⟩,⟨by repeat (first|(with_reducible first|exact HB.out|apply below_alloc|apply pw_below_drewN|apply below_drew1)|exact HB.out)⟩⟩
  case rest =>
   clear HC10;try clear c1
   try clear c2
   try clear p2
   try clear c5
   try clear c5b0
   try clear c5b1
   try clear c15
   try clear c15b0
   try clear c15b1
   obtain ⟨kq,x21_9,rfl,HA,HJ9,HO_1,HB⟩:=hcut;cases kq with
   | zero=>exact absurd HA.out (by simp [count_Has.j0])
   | succ kj9 =>
    have H:=HA.out;clear HA;simp only [count_Has.j0] at H
    by_cases c18:x21_9=true
    ·
     subst c18;have H1:(some (false,1))=some (r1,r2):=by rw [if_pos rfl] at H;exact H
     clear H;have H:=H1;clear H1;simp only [Option.some.injEq,Prod.mk.injEq] at H;obtain ⟨rfl,rfl⟩:=H;go_wp2;go_ret2;exact ⟨by first|rfl|(simp [errW_none,errW_some] <;> rfl)|(simp [*,errW_none,errW_some] <;> rfl),by repeat (first|(with_reducible first|exact HB.out|apply below_alloc|apply pw_below_drewN|apply below_drew1)|exact HB.out)⟩
    ·
     replace c18:=Bool.eq_false_iff.mpr c18;subst c18;have H1:(if t129=0 then (if (l2.length:Int)=a0 then ((count_has.f kj9 l1 l2).bind fun t131=>(some (t131,0))) else (some (false,2))) else (some (false,2)))=some (r1,r2):=by rw [if_neg (show ¬ (false=true) by decide)] at H;exact H
     clear H;have H:=H1;clear H1
     by_cases c19:t129=0
     ·
      rw [if_pos c19] at H;have c19b0:(t129 == 0)=true:=beq_iff_eq.mpr c19;have c19b1:(t129 != 0)=false:=bne_eq_false_iff_eq.mpr c19;clear c19
      by_cases c20:(l2.length:Int)=a0
      ·
       rw [if_pos c20] at H;have c20b0:((l2.length:Int) == a0)=true:=beq_iff_eq.mpr c20;have c20b1:((l2.length:Int) != a0)=false:=bne_eq_false_iff_eq.mpr c20;clear c20;replace H:=Option.bind_eq_some_iff.mp H;obtain ⟨t131,A210,H⟩:=H;(try dsimp only at H);have A21:=mk0 A210;clear A210;simp only [Option.some.injEq,Prod.mk.injEq] at H;obtain ⟨rfl,rfl⟩:=H;go_wp2_with (first|((with_reducible refine gate_callee (f:=53) rfl ?_);refine goesL_ (some 32) rfl rfl Try.func53 (by kernel_rfl) rfl #[.slice A1 l1.length c1,.slice A2 l2.length c2] rfl (by (try simp only [List.map_toArray,List.map_cons,List.map_nil]);first|done|rfl|(simp only [List.length_drop,List.length_take];rfl)) ?_;(with_reducible refine (count_has.calls kj9 _ _ l1 _ _ l2 t131 _ ?side1 ?side2 ?side3 ?side4 A21.out).mono ?_);(case side1=>repeat (first|exact (Kd.V_reads' HO_1.out).2.2|(with_reducible refine Kd.C_alloc ?_ _)|(with_reducible refine Kd.C_drewN ?_ _)|(with_reducible refine Kd.C_drew ?_)));(case side2=>exact (Kd.V_reads' HO_1.out).2.1);(case side3=>repeat (first|exact (Kd.C_below HR2.out HB.out)|(with_reducible refine Kd.C_alloc ?_ _)|(with_reducible refine Kd.C_drewN ?_ _)|(with_reducible refine Kd.C_drew ?_)));(case side4=>exact HC2.out);rintro e w22 ⟨rfl,hb⟩;refine ⟨_,rfl,?_⟩;replace HO_1:=mk0 (Kd.V_below HO_1.out hb);replace HB:=bst HB hb;(try clear hb)));go_ret2;exact ⟨by first|rfl|(simp [errW_none,errW_some] <;> rfl)|(simp [*,errW_none,errW_some] <;> rfl),by repeat (first|(with_reducible first|exact HB.out|apply below_alloc|apply pw_below_drewN|apply below_drew1)|exact HB.out)⟩
      ·
       rw [if_neg c20] at H;have c20b0:((l2.length:Int) == a0)=false:=beq_eq_false_iff_ne.mpr c20;have c20b1:((l2.length:Int) != a0)=true:=bne_iff_ne.mpr c20;simp only [Option.some.injEq,Prod.mk.injEq] at H;obtain ⟨rfl,rfl⟩:=H;go_wp2;go_ret2;exact ⟨by first|rfl|(simp [errW_none,errW_some] <;> rfl)|(simp [*,errW_none,errW_some] <;> rfl),by repeat (first|(with_reducible first|exact HB.out|apply below_alloc|apply pw_below_drewN|apply below_drew1)|exact HB.out)⟩
     ·
      rw [if_neg c19] at H;have c19b0:(t129 == 0)=false:=beq_eq_false_iff_ne.mpr c19;have c19b1:(t129 != 0)=true:=bne_iff_ne.mpr c19;simp only [Option.some.injEq,Prod.mk.injEq] at H;obtain ⟨rfl,rfl⟩:=H;go_wp2;go_ret2;exact ⟨by first|rfl|(simp [errW_none,errW_some] <;> rfl)|(simp [*,errW_none,errW_some] <;> rfl),by repeat (first|(with_reducible first|exact HB.out|apply below_alloc|apply pw_below_drewN|apply below_drew1)|exact HB.out)⟩
open FoundW in
theorem okf:FoundW.KeyOK Try.prog 88 86 3 4 where
  A:=⟨Try.underlying86,by kernel_rfl,by kernel_rfl,by kernel_rfl⟩
  hi:=Try.underlying3
  he:=Try.underlying4
  hm:=Try.underlying88
  hsz:=⟨Try.prog.types.size - 1,by kernel_rfl⟩
  K:=Go.Maps.Keyed.of_law (deep_law_laid (m:=3) (by kernel_rfl) (by decide) (of_decide_eq_true (by kernel_rfl)) (by kernel_rfl) (by rw [Try.underlying86]))
def small3 (v:FoundW.V3):Prop:=(0 ≤ v.1∧v.1 ≤ 1000000)∧(0 ≤ v.2.1∧v.2.1 ≤ 1000000)∧(0 ≤ v.2.2∧v.2.2 ≤ 1000000)
theorem nodup_len3:∀ (T S:List FoundW.V3),T.Nodup → (∀ x ∈ T,x ∈ S) → T.length ≤ S.length
  | [],_,_,_=>Nat.zero_le _
  | t :: T,S,h,hs=>by
    obtain ⟨h1,h2⟩:=List.nodup_cons.1 h
    have ht:=hs t (by simp)
    have:=nodup_len3 T (S.erase t) h2 (fun x hx=>(List.mem_erase_of_ne (fun e=>h1 (by rw [← e];exact hx))).2 (hs x (by simp [hx])))
    rw [List.length_erase_of_mem ht] at this
    have:=List.length_pos_of_mem ht
    simp only [List.length_cons]
    omega
def inBox (m s:FoundW.V3):Bool:=decide (s.1 ≤ m.1∧s.2.1 ≤ m.2.1∧s.2.2 ≤ m.2.2)
abbrev FoundT (w:World) (b:Nat) (S:List FoundW.V3):Prop:=FoundW.FoundOf Try.prog 86 4 w b S
abbrev RangeT (w:World) (b r:Nat) (S:List FoundW.V3) (L:FoundW.V3 → Bool):Prop:=FoundW.RangeOf Try.prog 86 4 w b r S L
def Stop (p:Prop):Prop:=p
theorem stop_ {p:Prop} (h:Stop p):p:=h
theorem filt_del (S:List FoundW.V3) (L:FoundW.V3 → Bool) (p:FoundW.V3 → Bool) (s:FoundW.V3) (hp:p s=false):(S.filter fun z=>L z || p z).filter (fun z=>!decide (z=s))=S.filter fun z=>(L z && !decide (z=s)) || p z:=by
  rw [List.filter_filter]
  congr 1
  funext z
  by_cases e:z=s
  · subst e;simp [hp]
  · simp [e]
theorem filt_keep (S:List FoundW.V3) (L:FoundW.V3 → Bool) (p:FoundW.V3 → Bool) (s:FoundW.V3) (hp:p s=true):(S.filter fun z=>L z || p z)=S.filter fun z=>(L z && !decide (z=s)) || p z:=by
  congr 1
  funext z
  by_cases e:z=s
  · subst e;simp [hp]
  · simp [e]
theorem below_grown' {a b:World} (g:Nat) (h:Below a.heap.size a b):a.grownBy b (some g):=⟨h.os,h.tape,h.output,h.size,fun i hi _=>h.block i hi⟩
theorem _root_.Go.World.grownBy.trans' {a b c:World} {g:Nat} (h:a.grownBy b (some g)) (k:b.grownBy c (some g)):a.grownBy c (some g) :=
  ⟨k.os.trans h.os,k.tape.trans h.tape,k.output.trans h.output,Nat.le_trans h.size k.size,fun i hi hn=>(k.block i (Nat.lt_of_lt_of_le hi h.size) hn).trans (h.block i hi hn)⟩
theorem heap_set3 (w:World) (g k:Nat) (h:k ≠ g) (x y z:Int):(((w.setCell ⟨g,0,none⟩ (.int .i64 x)).setCell ⟨g,1,none⟩ (.int .i64 y)).setCell ⟨g,2,none⟩ (.int .i64 z)).heap[k]?=w.heap[k]? :=
  (Below.heap_setCell _ _ _ _ h).trans ((Below.heap_setCell _ _ _ _ h).trans (Below.heap_setCell _ _ _ _ h))
theorem size_set3 (w:World) (g:Nat) (x y z:Int):(((w.setCell ⟨g,0,none⟩ (.int .i64 x)).setCell ⟨g,1,none⟩ (.int .i64 y)).setCell ⟨g,2,none⟩ (.int .i64 z)).heap.size=w.heap.size:=by simp [World.setCell]
theorem range_set3 {w w1:World} {b r g:Nat} {S:List FoundW.V3} {L:FoundW.V3 → Bool} (x y z:Int) (h:RangeT w b r S L) (hb:Below w.heap.size w w1) (hg:g=w.heap.size):RangeT (((w1.setCell ⟨g,0,none⟩ (.int .i64 x)).setCell ⟨g,1,none⟩ (.int .i64 y)).setCell ⟨g,2,none⟩ (.int .i64 z)) b r S L :=
  (h.below hb).heap (heap_set3 _ _ _ (by have:=h.lt;omega) _ _ _) (heap_set3 _ _ _ (by have:=h.lt;omega) _ _ _)
theorem found_set3 {w w1:World} {b g:Nat} {S:List FoundW.V3} (x y z:Int) (h:FoundT w b S) (hb:Below w.heap.size w w1) (hg:g=w.heap.size):FoundT (((w1.setCell ⟨g,0,none⟩ (.int .i64 x)).setCell ⟨g,1,none⟩ (.int .i64 y)).setCell ⟨g,2,none⟩ (.int .i64 z)) b S :=
  (h.below hb).heap (heap_set3 _ _ _ (by have:=h.lt;omega) _ _ _)
theorem left_set3 {w w1:World} {b r g:Nat} {S:List FoundW.V3} {L:FoundW.V3 → Bool} (x y z:Int) (h:RangeT w b r S L) (hb:Below w.heap.size w w1) (hg:g=w.heap.size):(((w1.setCell ⟨g,0,none⟩ (.int .i64 x)).setCell ⟨g,1,none⟩ (.int .i64 y)).setCell ⟨g,2,none⟩ (.int .i64 z)).rangeLeft b r=w.rangeLeft b r :=
  FoundW.left_heap ((heap_set3 _ _ _ (by have:=h.lt;omega) _ _ _).trans (hb.block b h.lt.1)) ((heap_set3 _ _ _ (by have:=h.lt;omega) _ _ _).trans (hb.block r h.lt.2))
theorem mem_set3 {w w1:World} {g k:Nat} {o:Obj} (x y z:Int) (h:w.heap[k]?=some o) (hb:Below w.heap.size w w1) (hg:g=w.heap.size):(((w1.setCell ⟨g,0,none⟩ (.int .i64 x)).setCell ⟨g,1,none⟩ (.int .i64 y)).setCell ⟨g,2,none⟩ (.int .i64 z)).heap[k]?=some o :=
  (heap_set3 _ _ _ (by have:=blk_lt h;omega) _ _ _).trans (blk_below h hb)
theorem grown_set3 {w0 w w1:World} {g b:Nat} (x y z:Int) (h:w0.grownBy w (some b)) (hb:Below w.heap.size w w1) (hg:g=w.heap.size):w0.grownBy (((w1.setCell ⟨g,0,none⟩ (.int .i64 x)).setCell ⟨g,1,none⟩ (.int .i64 y)).setCell ⟨g,2,none⟩ (.int .i64 z)) (some b) :=
  ⟨hb.os.trans h.os,hb.tape.trans h.tape,hb.output.trans h.output,by rw [size_set3];exact Nat.le_trans h.size hb.size,fun j hj hn=>(heap_set3 _ _ _ (by have:=h.size;omega) _ _ _).trans ((hb.block j (Nat.lt_of_lt_of_le hj h.size)).trans (h.block j hj hn))⟩
set_option maxHeartbeats 4000000 in
set_option maxRecDepth 100000 in
theorem found_within.calls (b:Nat) (S:List FoundW.V3) (m1 m2 m3:Int) (w:World) (hS:FoundT w b S) :
    Calls Try.prog 56 #[.map (some b),.agg #[.int .i64 m1,.int .i64 m2,.int .i64 m3]] w fun e w'=>e=.returned (.map (some b))∧FoundT w' b (S.filter (inBox (m1,m2,m3)))∧w.grownBy w' (some b):=by
  have HS:=Aside0.mk hS
  have HLT:=Aside0.mk hS.lt
  have HOK:=Aside0.mk hS.ok
  clear hS
  go_enter Try.func56,Try.ntmps56
  go_wp2_with (first
    | ((with_reducible refine gate_dst (N:=3) rfl ?_);refine box_event ?hg (N:=3) ?hd (cs:=#[.int .i64 m1,.int .i64 m2,.int .i64 m3]) (t:=86) ?hr ?_;(case hd=>rfl);(case hg=>rfl);(case hr=>first|(go_simp;done)|(go_simp;rfl));intro gm hg w1 hbox hb;have BM:=Aside0.mk hbox;have HB1:=Aside0.mk hb;have HG:=Aside0.mk hg;clear hb hbox hg)
    | ((with_reducible refine gate_dst (N:=7) rfl ?_);refine FoundW.range_found okf _ rfl _ rfl b S rfl (HS.out.below HB1.out) ?_;intro r w2 hr hrg hb2;have HR:=Aside0.mk hrg;have HRW:=Aside0.mk hr;have HB2:=Aside0.mk hb2;clear hr hrg hb2)
    | go_in)
  go_frame
  go_loopw [] (fun wr=>∃ L:FoundW.V3 → Bool,RangeT wr b r (S.filter fun z=>L z || inBox (m1,m2,m3) z) L∧Aside0 (wr.heap[gm]?=some (.cells #[.int .i64 m1,.int .i64 m2,.int .i64 m3] 86 (0,0)))∧Aside0 (w.grownBy wr (some b))∧Aside0 (w.heap.size ≤ gm∧gm < r∧r < wr.heap.size)) (fun wr=>wr.rangeLeft b r)
  case atStart =>
    refine ⟨fun s=>decide (s ∈ S),?_,⟨blk_below BM.out HB2.out⟩,⟨?_⟩,⟨?_⟩⟩
    · rw [List.filter_eq_self.2 (fun s hs=>by simp [hs])];exact HR.out
    · exact (below_grown' b HB1.out).trans' (below_grown' b HB2.out)
    · have:=HG.out;have:=HR.out.lt;have:=HRW.out;have:=blk_lt BM.out;omega
  case round =>
    clear HS HB1 HB2 HR BM HG
    obtain ⟨L,hR,hM,hG,hX⟩:=hrel
    have HR:=Aside0.mk hR
    clear hR
    go_wp2_with (first
      | (at_next;refine FoundW.next_found okf _ rfl (.tmp 7) rfl b r _ L rfl HR.out (fun hall=>stop_ ?_) (fun s c w5 hok hsS hsL hr5 hl5 hg5 hz5 hen=>stop_ ?_))
      | go_in)
    · delta Stop
      have HA:=Aside0.mk hall
      clear hall
      go_wp2
      go_ret
      refine ⟨rfl,?_,hG.out⟩
      have h:=HR.out.found
      rwa [List.filter_congr (q:=inBox (m1,m2,m3)) (fun s hs=>by rw [HA.out s (HOK.out s hs)];rfl)] at h
    · delta Stop
      obtain ⟨x,y,z⟩:=s
      simp only [FoundW.vec3] at hen
      have HR5:=Aside0.mk hr5
      have HL5:=Aside0.mk hl5
      have HG5:=Aside0.mk hg5
      have HZ5:=Aside0.mk hz5
      have HSL:=Aside0.mk hsL
      have HSS:=Aside0.mk hsS
      have HM5:=Aside0.mk ((hg5.block gm (by have:=hX.out;omega) (fun e=>by have:=hX.out;injection e with e;omega)).trans hM.out)
      clear hr5 hl5 hg5 hz5 hsL hsS hok
      have HGW:=Aside0.mk (show w.grownBy w5 (some b) from ⟨HG5.out.os.trans hG.out.os,HG5.out.tape.trans hG.out.tape,HG5.out.output.trans hG.out.output,Nat.le_trans hG.out.size HG5.out.size,fun j hj hn=>(HG5.out.block j (Nat.lt_of_lt_of_le hj hG.out.size) (fun e=>by injection e with e;have:=hX.out;omega)).trans (hG.out.block j hj hn)⟩)
      rcases Bool.eq_false_or_eq_true (inBox (m1,m2,m3) (x,y,z)) with hin|hin
      · obtain ⟨i1,i2,i3⟩:=of_decide_eq_true hin
        have d1:decide (m1 < x)=false:=decide_eq_false (by simp only at i1;omega)
        have d2:decide (m2 < y)=false:=decide_eq_false (by simp only at i2;omega)
        have d3:decide (m3 < z)=false:=decide_eq_false (by simp only at i3;omega)
        have HIN:=Aside0.mk hin
        clear i1 i2 i3 hin
        go_wp2_with (((with_reducible refine gate_dst (N:=5) rfl ?_);refine box_event ?hg (N:=5) ?hd (cs:=#[.int .i64 0,.int .i64 0,.int .i64 0]) (t:=86) ?hr ?_;(case hd=>rfl);(case hg=>rfl);(case hr=>first|(go_simp;done)|(go_simp;rfl));intro gv hg w6 hbox hb;have HRS:=Aside0.mk (range_set3 x y z HR5.out hb hg);have HMS:=Aside0.mk (mem_set3 x y z HM5.out hb hg);have HGS:=Aside0.mk (grown_set3 x y z HGW.out hb hg);have HZS:=Aside0.mk (size_set3 w6 gv x y z);have HLS:=Aside0.mk (left_set3 x y z HR5.out hb hg);have hcz0:w6.cell? ⟨gv,0,none⟩=some (.int .i64 0):=(blk_cell hbox 0).trans rfl;have hcz1:w6.cell? ⟨gv,1,none⟩=some (.int .i64 0):=(blk_cell hbox 1).trans rfl;have hcz2:w6.cell? ⟨gv,2,none⟩=some (.int .i64 0):=(blk_cell hbox 2).trans rfl;have hcf0:w6.frozen? ⟨gv,0,none⟩=false:=blk_frozen hbox 0;have hcf1:w6.frozen? ⟨gv,1,none⟩=false:=blk_frozen hbox 1;have hcf2:w6.frozen? ⟨gv,2,none⟩=false:=blk_frozen hbox 2;have hm0:w6.cell? ⟨gm,0,none⟩=some (.int .i64 m1):=(blk_cell (blk_below HM5.out hb) 0).trans rfl;have hm1:w6.cell? ⟨gm,1,none⟩=some (.int .i64 m2):=(blk_cell (blk_below HM5.out hb) 1).trans rfl;have hm2:w6.cell? ⟨gm,2,none⟩=some (.int .i64 m3):=(blk_cell (blk_below HM5.out hb) 2).trans rfl;have hne:gm ≠ gv:=(by have:=blk_lt HM5.out;omega);have HSZ:=Aside0.mk hb.size;clear hb hbox hg))
        have hin:=HIN.out
        go_roundw
        case rel=>exact ⟨_,by rw [← filt_keep S L _ _ hin];exact HRS.out,HMS,HGS,⟨hX.out.1,hX.out.2.1,by rw [HZS.out];have:=hX.out.2.2;have:=HSZ.out;have:=HZ5.out;omega⟩⟩
        case measure=>rw [HLS.out];exact HL5.out
      · have h3:m1 < x ∨ (¬ m1 < x∧m2 < y) ∨ (¬ m1 < x∧¬ m2 < y∧m3 < z):=by
          have:=of_decide_eq_false hin
          simp only at this
          omega
        have HIN:=Aside0.mk hin
        clear hin
        rcases h3 with h1|⟨h1,h2⟩|⟨h1,h2,h3⟩
        · have d1:decide (m1 < x)=true:=decide_eq_true h1
          clear h1
          go_wp2_with (first|((with_reducible refine gate_dst (N:=5) rfl ?_);refine box_event ?hg (N:=5) ?hd (cs:=#[.int .i64 0,.int .i64 0,.int .i64 0]) (t:=86) ?hr ?_;(case hd=>rfl);(case hg=>rfl);(case hr=>first|(go_simp;done)|(go_simp;rfl));intro gv hg w6 hbox hb;have HRS:=Aside0.mk (range_set3 x y z HR5.out hb hg);have HMS:=Aside0.mk (mem_set3 x y z HM5.out hb hg);have HGS:=Aside0.mk (grown_set3 x y z HGW.out hb hg);have HZS:=Aside0.mk (size_set3 w6 gv x y z);have HLS:=Aside0.mk (left_set3 x y z HR5.out hb hg);have hcz0:w6.cell? ⟨gv,0,none⟩=some (.int .i64 0):=(blk_cell hbox 0).trans rfl;have hcz1:w6.cell? ⟨gv,1,none⟩=some (.int .i64 0):=(blk_cell hbox 1).trans rfl;have hcz2:w6.cell? ⟨gv,2,none⟩=some (.int .i64 0):=(blk_cell hbox 2).trans rfl;have hcf0:w6.frozen? ⟨gv,0,none⟩=false:=blk_frozen hbox 0;have hcf1:w6.frozen? ⟨gv,1,none⟩=false:=blk_frozen hbox 1;have hcf2:w6.frozen? ⟨gv,2,none⟩=false:=blk_frozen hbox 2;have hm0:w6.cell? ⟨gm,0,none⟩=some (.int .i64 m1):=(blk_cell (blk_below HM5.out hb) 0).trans rfl;have hm1:w6.cell? ⟨gm,1,none⟩=some (.int .i64 m2):=(blk_cell (blk_below HM5.out hb) 1).trans rfl;have hm2:w6.cell? ⟨gm,2,none⟩=some (.int .i64 m3):=(blk_cell (blk_below HM5.out hb) 2).trans rfl;have hne:gm ≠ gv:=(by have:=blk_lt HM5.out;omega);have HSZ:=Aside0.mk hb.size;clear hb hbox hg)|((with_reducible refine gate_builtin (b:=.delete) (xs:=#[.tmp 31,.tmp 32]) rfl ?_);refine FoundW.delete_found okf _ rfl (.tmp 31) (.tmp 32) rfl b r _ _ rfl HRS.out (x,y,z) rfl HSS.out (by simp) ?_;intro w8 hr8 hl8 hg8 hz8;have HR8:=Aside0.mk hr8;have HL8:=Aside0.mk hl8;have HG8:=Aside0.mk hg8;have HZ8:=Aside0.mk hz8;clear hr8 hl8 hg8 hz8))
          go_frame
          have hin:=HIN.out
          go_roundw
          case rel=>exact ⟨_,by rw [← filt_del S L _ _ hin];exact HR8.out,⟨(HG8.out.block gm (by rw [HZS.out];have:=hX.out.2.1;have:=hX.out.2.2;have:=HSZ.out;have:=HZ5.out;omega) (fun e=>by injection e with e;have:=hX.out.1;have:=HLT.out;omega)).trans HMS.out⟩,⟨HGS.out.trans' HG8.out⟩,⟨hX.out.1,hX.out.2.1,by rw [HZ8.out,HZS.out];have:=hX.out.2.2;have:=HSZ.out;have:=HZ5.out;omega⟩⟩
          case measure=>exact Nat.lt_of_le_of_lt HL8.out (by rw [HLS.out];exact HL5.out)
        · have d1:decide (m1 < x)=false:=decide_eq_false h1
          have d2:decide (m2 < y)=true:=decide_eq_true h2
          clear h1 h2
          go_wp2_with (first|((with_reducible refine gate_dst (N:=5) rfl ?_);refine box_event ?hg (N:=5) ?hd (cs:=#[.int .i64 0,.int .i64 0,.int .i64 0]) (t:=86) ?hr ?_;(case hd=>rfl);(case hg=>rfl);(case hr=>first|(go_simp;done)|(go_simp;rfl));intro gv hg w6 hbox hb;have HRS:=Aside0.mk (range_set3 x y z HR5.out hb hg);have HMS:=Aside0.mk (mem_set3 x y z HM5.out hb hg);have HGS:=Aside0.mk (grown_set3 x y z HGW.out hb hg);have HZS:=Aside0.mk (size_set3 w6 gv x y z);have HLS:=Aside0.mk (left_set3 x y z HR5.out hb hg);have hcz0:w6.cell? ⟨gv,0,none⟩=some (.int .i64 0):=(blk_cell hbox 0).trans rfl;have hcz1:w6.cell? ⟨gv,1,none⟩=some (.int .i64 0):=(blk_cell hbox 1).trans rfl;have hcz2:w6.cell? ⟨gv,2,none⟩=some (.int .i64 0):=(blk_cell hbox 2).trans rfl;have hcf0:w6.frozen? ⟨gv,0,none⟩=false:=blk_frozen hbox 0;have hcf1:w6.frozen? ⟨gv,1,none⟩=false:=blk_frozen hbox 1;have hcf2:w6.frozen? ⟨gv,2,none⟩=false:=blk_frozen hbox 2;have hm0:w6.cell? ⟨gm,0,none⟩=some (.int .i64 m1):=(blk_cell (blk_below HM5.out hb) 0).trans rfl;have hm1:w6.cell? ⟨gm,1,none⟩=some (.int .i64 m2):=(blk_cell (blk_below HM5.out hb) 1).trans rfl;have hm2:w6.cell? ⟨gm,2,none⟩=some (.int .i64 m3):=(blk_cell (blk_below HM5.out hb) 2).trans rfl;have hne:gm ≠ gv:=(by have:=blk_lt HM5.out;omega);have HSZ:=Aside0.mk hb.size;clear hb hbox hg)|((with_reducible refine gate_builtin (b:=.delete) (xs:=#[.tmp 31,.tmp 32]) rfl ?_);refine FoundW.delete_found okf _ rfl (.tmp 31) (.tmp 32) rfl b r _ _ rfl HRS.out (x,y,z) rfl HSS.out (by simp) ?_;intro w8 hr8 hl8 hg8 hz8;have HR8:=Aside0.mk hr8;have HL8:=Aside0.mk hl8;have HG8:=Aside0.mk hg8;have HZ8:=Aside0.mk hz8;clear hr8 hl8 hg8 hz8))
          go_frame
          have hin:=HIN.out
          go_roundw
          case rel=>exact ⟨_,by rw [← filt_del S L _ _ hin];exact HR8.out,⟨(HG8.out.block gm (by rw [HZS.out];have:=hX.out.2.1;have:=hX.out.2.2;have:=HSZ.out;have:=HZ5.out;omega) (fun e=>by injection e with e;have:=hX.out.1;have:=HLT.out;omega)).trans HMS.out⟩,⟨HGS.out.trans' HG8.out⟩,⟨hX.out.1,hX.out.2.1,by rw [HZ8.out,HZS.out];have:=hX.out.2.2;have:=HSZ.out;have:=HZ5.out;omega⟩⟩
          case measure=>exact Nat.lt_of_le_of_lt HL8.out (by rw [HLS.out];exact HL5.out)
        · have d1:decide (m1 < x)=false:=decide_eq_false h1
          have d2:decide (m2 < y)=false:=decide_eq_false h2
          have d3:decide (m3 < z)=true:=decide_eq_true h3
          clear h1 h2 h3
          go_wp2_with (first|((with_reducible refine gate_dst (N:=5) rfl ?_);refine box_event ?hg (N:=5) ?hd (cs:=#[.int .i64 0,.int .i64 0,.int .i64 0]) (t:=86) ?hr ?_;(case hd=>rfl);(case hg=>rfl);(case hr=>first|(go_simp;done)|(go_simp;rfl));intro gv hg w6 hbox hb;have HRS:=Aside0.mk (range_set3 x y z HR5.out hb hg);have HMS:=Aside0.mk (mem_set3 x y z HM5.out hb hg);have HGS:=Aside0.mk (grown_set3 x y z HGW.out hb hg);have HZS:=Aside0.mk (size_set3 w6 gv x y z);have HLS:=Aside0.mk (left_set3 x y z HR5.out hb hg);have hcz0:w6.cell? ⟨gv,0,none⟩=some (.int .i64 0):=(blk_cell hbox 0).trans rfl;have hcz1:w6.cell? ⟨gv,1,none⟩=some (.int .i64 0):=(blk_cell hbox 1).trans rfl;have hcz2:w6.cell? ⟨gv,2,none⟩=some (.int .i64 0):=(blk_cell hbox 2).trans rfl;have hcf0:w6.frozen? ⟨gv,0,none⟩=false:=blk_frozen hbox 0;have hcf1:w6.frozen? ⟨gv,1,none⟩=false:=blk_frozen hbox 1;have hcf2:w6.frozen? ⟨gv,2,none⟩=false:=blk_frozen hbox 2;have hm0:w6.cell? ⟨gm,0,none⟩=some (.int .i64 m1):=(blk_cell (blk_below HM5.out hb) 0).trans rfl;have hm1:w6.cell? ⟨gm,1,none⟩=some (.int .i64 m2):=(blk_cell (blk_below HM5.out hb) 1).trans rfl;have hm2:w6.cell? ⟨gm,2,none⟩=some (.int .i64 m3):=(blk_cell (blk_below HM5.out hb) 2).trans rfl;have hne:gm ≠ gv:=(by have:=blk_lt HM5.out;omega);have HSZ:=Aside0.mk hb.size;clear hb hbox hg)|((with_reducible refine gate_builtin (b:=.delete) (xs:=#[.tmp 31,.tmp 32]) rfl ?_);refine FoundW.delete_found okf _ rfl (.tmp 31) (.tmp 32) rfl b r _ _ rfl HRS.out (x,y,z) rfl HSS.out (by simp) ?_;intro w8 hr8 hl8 hg8 hz8;have HR8:=Aside0.mk hr8;have HL8:=Aside0.mk hl8;have HG8:=Aside0.mk hg8;have HZ8:=Aside0.mk hz8;clear hr8 hl8 hg8 hz8))
          go_frame
          have hin:=HIN.out
          go_roundw
          case rel=>exact ⟨_,by rw [← filt_del S L _ _ hin];exact HR8.out,⟨(HG8.out.block gm (by rw [HZS.out];have:=hX.out.2.1;have:=hX.out.2.2;have:=HSZ.out;have:=HZ5.out;omega) (fun e=>by injection e with e;have:=hX.out.1;have:=HLT.out;omega)).trans HMS.out⟩,⟨HGS.out.trans' HG8.out⟩,⟨hX.out.1,hX.out.2.1,by rw [HZ8.out,HZS.out];have:=hX.out.2.2;have:=HSZ.out;have:=HZ5.out;omega⟩⟩
          case measure=>exact Nat.lt_of_le_of_lt HL8.out (by rw [HLS.out];exact HL5.out)
end Go.Proofs.Ytkonljiembcdlaa.PC
